/- Parts of the proof: lemmas, and the steps through the program. -/
import Derived.Test.YtjahnkcjbglnoaaGreatDoorCs2
import Derived.Test.YtjahnkcjbglnoaaGreatDoorProg
import Derived.Shelf.Sort.Plain
import Derived.Shelf.Slices.CompactI
import Derived.Shelf.Slices.In.SortNone
set_option linter.unusedVariables false
set_option linter.unusedSimpArgs false
set_option maxRecDepth 100000
set_option maxHeartbeats 2000000
namespace Go.Proofs.YtjahnkcjbglnoaaGreatDoor
open Go.SX Go.SW Go.Dt
attribute [local irreducible] Code.wpIn wpListIn Exit.then Exit.inBlock
def rH (a0:Code_checker) (a1:CodeIns):Option (Code_checker × Bool):=
 (if (-1000000000) ≤ a1.A then
  some (decide (a1.A ≤ 1000000000))
 else
  some false).bind fun x1=>
 some ((⟨(⟨a0.CodeProg.Free,a0.CodeProg.Defs,a0.CodeProg.Code,a0.CodeProg.Main⟩:CodeProg),a0.begins,a0.last,a0.levels,a0.todo⟩:Code_checker),x1)
theorem aHe (p0:Nat) (a0:Code_checker) (a1:CodeIns) (r:Code_checker × Bool) (H:rH a0 a1=some r):FnS Tryz.prog 105 [fEq (.pointer (some ⟨p0,0,none⟩)),fSt aJ a1] [cX p0 a0] (aS r.2) (fun _=>[cX p0 r.1]):=by
 unfold rH at H
 refine dN Tryz.func105 rfl Tryz.ntmps105 rfl (fun β=>?_)
 refine cY (fun v1 v2 v3=>?_)
 refine aT ?_
 refine cW (fun b1 h1=>?_);subst h1
 refine aD 2 rfl (fun hc_v1=>?_)
 refine aD 3 rfl (fun hc_v3=>?_)
 refine Z1 ?_
 refine Tn (dO rfl hh cO) fun b2=>?_
 revert H;refine B2 fun o1 H Hr1=>?_
 refine bD (ι:=Bool) (fun i=>o1=i) (fun i=>[(0,fEq (ptr p0)),(4,aS i)]) (fun i=>[aA b2 73 [fI a1.Op,fI a1.A,fI a1.B],aA p0 90 [fI a0.CodeProg.Free,fSl aF a0.CodeProg.Defs,fSl aJ a0.CodeProg.Code,fI a0.CodeProg.Main,fSl tI a0.begins,fEq v1,fEq (.map (some b1)),fEq v3],bC aZ (fun y=>fSt bG y) b1 a0.levels,aB v1 3 tI a0.last,aB v3 3 tI a0.todo]) ?_ ?_
 revert H;refine I5 (fun c1 H=>?_) fun c1 H=>?_
 refine Z6 ?_
 refine aE [0,2,1,3,4] (by decide) ?_
 exact Tm (decide (a1.A ≤ 1000000000)) (ij H)
 refine Z6 ?_
 refine aE [0,2,1,3,4] (by decide) ?_
 exact Tm (false) (ij H)
 clear H;intro x1 hi;subst o1;have H:=Hr1;clear Hr1;try dsimp only at H
 try dsimp only
 refine Z1 ?_
 refine aT ?_
 refine cG ?_
 refine aY ?_
 refine aR ?_
 refine aY ?_
 refine aY ?_
 refine cD (x:=(⟨(⟨a0.CodeProg.Free,a0.CodeProg.Defs,a0.CodeProg.Code,a0.CodeProg.Main⟩:CodeProg),a0.begins,a0.last,a0.levels,a0.todo⟩:Code_checker)) ?_
 cases H
 refine aE [0] (by decide) ?_
 exact To
def tL (a0:Code_checker) (a1:CodeIns):Option (Code_checker × Bool):=
 some ((⟨(⟨a0.CodeProg.Free,a0.CodeProg.Defs,a0.CodeProg.Code,a0.CodeProg.Main⟩:CodeProg),a0.begins,a0.last,a0.levels,a0.todo⟩:Code_checker),decide (0 ≤ a1.A))
theorem aFG (p0:Nat) (a0:Code_checker) (a1:CodeIns) (r:Code_checker × Bool) (H:tL a0 a1=some r):FnS Tryz.prog 106 [fEq (.pointer (some ⟨p0,0,none⟩)),fSt aJ a1] [cX p0 a0] (aS r.2) (fun _=>[cX p0 r.1]):=by
 unfold tL at H
 refine dN Tryz.func106 rfl Tryz.ntmps106 rfl (fun β=>?_)
 refine cY (fun v1 v2 v3=>?_)
 refine aT ?_
 refine cW (fun b1 h1=>?_);subst h1
 refine aD 2 rfl (fun hc_v1=>?_)
 refine aD 3 rfl (fun hc_v3=>?_)
 refine Z1 ?_
 refine Tn (dO rfl hh cO) fun b2=>?_
 refine Z9 ?_
 refine aR ?_
 refine cG ?_
 refine aY ?_
 refine aR ?_
 refine aY ?_
 refine aY ?_
 refine cD (x:=(⟨(⟨a0.CodeProg.Free,a0.CodeProg.Defs,a0.CodeProg.Code,a0.CodeProg.Main⟩:CodeProg),a0.begins,a0.last,a0.levels,a0.todo⟩:Code_checker)) ?_
 cases H
 refine aE [0] (by decide) ?_
 exact To
def rD (a0:Code_checker) (a1:CodeIns):Option (Code_checker × Bool):=
 some ((⟨(⟨a0.CodeProg.Free,a0.CodeProg.Defs,a0.CodeProg.Code,a0.CodeProg.Main⟩:CodeProg),a0.begins,a0.last,a0.levels,a0.todo⟩:Code_checker),true)
theorem aGe (p0:Nat) (a0:Code_checker) (a1:CodeIns) (r:Code_checker × Bool) (H:rD a0 a1=some r):FnS Tryz.prog 107 [fEq (.pointer (some ⟨p0,0,none⟩)),fSt aJ a1] [cX p0 a0] (aS r.2) (fun _=>[cX p0 r.1]):=by
 unfold rD at H
 refine dN Tryz.func107 rfl Tryz.ntmps107 rfl (fun β=>?_)
 refine cY (fun v1 v2 v3=>?_)
 refine aT ?_
 refine cW (fun b1 h1=>?_);subst h1
 refine aD 2 rfl (fun hc_v1=>?_)
 refine aD 3 rfl (fun hc_v3=>?_)
 refine Z1 ?_
 refine Tn (dO rfl hh cO) fun b2=>?_
 refine Z6 ?_
 refine aR ?_
 refine cG ?_
 refine aY ?_
 refine aR ?_
 refine aY ?_
 refine aY ?_
 refine cD (x:=(⟨(⟨a0.CodeProg.Free,a0.CodeProg.Defs,a0.CodeProg.Code,a0.CodeProg.Main⟩:CodeProg),a0.begins,a0.last,a0.levels,a0.todo⟩:Code_checker)) ?_
 cases H
 refine aE [0] (by decide) ?_
 exact To
def rP (a0:Code_checker) (a1:CodeIns):Option (Code_checker × Bool):=
 (if 0 ≤ a1.A then
  if 0 ≤ a1.B then
   some (decide (a1.B ≤ 3))
  else
   some false
 else
  some false).bind fun x1=>
 some ((⟨(⟨a0.CodeProg.Free,a0.CodeProg.Defs,a0.CodeProg.Code,a0.CodeProg.Main⟩:CodeProg),a0.begins,a0.last,a0.levels,a0.todo⟩:Code_checker),x1)
theorem aGL (p0:Nat) (a0:Code_checker) (a1:CodeIns) (r:Code_checker × Bool) (H:rP a0 a1=some r):FnS Tryz.prog 108 [fEq (.pointer (some ⟨p0,0,none⟩)),fSt aJ a1] [cX p0 a0] (aS r.2) (fun _=>[cX p0 r.1]):=by
 unfold rP at H
 refine dN Tryz.func108 rfl Tryz.ntmps108 rfl (fun β=>?_)
 refine cY (fun v1 v2 v3=>?_)
 refine aT ?_
 refine cW (fun b1 h1=>?_);subst h1
 refine aD 2 rfl (fun hc_v1=>?_)
 refine aD 3 rfl (fun hc_v3=>?_)
 refine Z1 ?_
 refine Tn (dO rfl hh cO) fun b2=>?_
 revert H;refine B2 fun o1 H Hr1=>?_
 refine bD (ι:=Bool) (fun i=>o1=i) (fun i=>[(0,fEq (ptr p0)),(4,aS i)]) (fun i=>[aA b2 73 [fI a1.Op,fI a1.A,fI a1.B],aA p0 90 [fI a0.CodeProg.Free,fSl aF a0.CodeProg.Defs,fSl aJ a0.CodeProg.Code,fI a0.CodeProg.Main,fSl tI a0.begins,fEq v1,fEq (.map (some b1)),fEq v3],bC aZ (fun y=>fSt bG y) b1 a0.levels,aB v1 3 tI a0.last,aB v3 3 tI a0.todo]) ?_ ?_
 revert H;refine I5 (fun c1 H=>?_) fun c1 H=>?_
 revert H;refine I5 (fun c2 H=>?_) fun c2 H=>?_
 refine Z6 ?_
 refine aE [0,2,1,3,4] (by decide) ?_
 exact Tm (decide (a1.B ≤ 3)) (ij H)
 refine Z6 ?_
 refine aE [0,2,1,3,4] (by decide) ?_
 exact Tm (false) (ij H)
 refine Z11 ?_
 refine aE [0,2,1,3,4] (by decide) ?_
 exact Tm (false) (ij H)
 clear H;intro x1 hi;subst o1;have H:=Hr1;clear Hr1;try dsimp only at H
 try dsimp only
 refine Z1 ?_
 refine aT ?_
 refine cG ?_
 refine aY ?_
 refine aR ?_
 refine aY ?_
 refine aY ?_
 refine cD (x:=(⟨(⟨a0.CodeProg.Free,a0.CodeProg.Defs,a0.CodeProg.Code,a0.CodeProg.Main⟩:CodeProg),a0.begins,a0.last,a0.levels,a0.todo⟩:Code_checker)) ?_
 cases H
 refine aE [0] (by decide) ?_
 exact To
def vN (a0:Code_checker) (a1:CodeIns):Option (Code_checker × Bool):=
 (if 0 ≤ a1.A then
  some (decide (a1.A<(a0.CodeProg.Defs.length:Int)))
 else
  some false).bind fun x1=>
 some ((⟨(⟨a0.CodeProg.Free,a0.CodeProg.Defs,a0.CodeProg.Code,a0.CodeProg.Main⟩:CodeProg),a0.begins,a0.last,a0.levels,a0.todo⟩:Code_checker),x1)
theorem aFI (p0:Nat) (a0:Code_checker) (a1:CodeIns) (r:Code_checker × Bool) (H:vN a0 a1=some r):FnS Tryz.prog 109 [fEq (.pointer (some ⟨p0,0,none⟩)),fSt aJ a1] [cX p0 a0] (aS r.2) (fun _=>[cX p0 r.1]):=by
 unfold vN at H
 refine dN Tryz.func109 rfl Tryz.ntmps109 rfl (fun β=>?_)
 refine cY (fun v1 v2 v3=>?_)
 refine aT ?_
 refine cW (fun b1 h1=>?_);subst h1
 refine aD 2 rfl (fun hc_v1=>?_)
 refine aD 3 rfl (fun hc_v3=>?_)
 refine Z1 ?_
 refine Tn (dO rfl hh cO) fun b2=>?_
 revert H;refine B2 fun o1 H Hr1=>?_
 refine bD (ι:=Bool) (fun i=>o1=i) (fun i=>[(0,fEq (ptr p0)),(4,aS i)]) (fun i=>[aA b2 73 [fI a1.Op,fI a1.A,fI a1.B],aA p0 90 [fI a0.CodeProg.Free,fSl aF a0.CodeProg.Defs,fSl aJ a0.CodeProg.Code,fI a0.CodeProg.Main,fSl tI a0.begins,fEq v1,fEq (.map (some b1)),fEq v3],bC aZ (fun y=>fSt bG y) b1 a0.levels,aB v1 3 tI a0.last,aB v3 3 tI a0.todo]) ?_ ?_
 revert H;refine is (fun c1 H=>?_) fun c1 H=>?_
 apply cB (ods:=[_,_,_,_,_,_,_,_,_,_,_,_,_,_,_]) 15 0 5 bZ rfl rfl rfl
 refine ND ?_
 refine M8 ?_
 intros
 refine M7 ?_
 intros
 refine Z2 ?_
 refine aE [0,2,1,3,4] (by decide) ?_
 exact Tm (decide (a1.A<(a0.CodeProg.Defs.length:Int))) (ij H)
 exact fk
 kernel_rfl
 apply cB (ods:=[_,_,_,_,_,_,_,_,_,_,_,_,_,_,_]) 15 0 5 bZ rfl rfl rfl
 refine ND ?_
 refine M8 ?_
 intros
 refine M7 ?_
 intros
 refine Z2 ?_
 refine aE [0,2,1,3,4] (by decide) ?_
 exact Tm (false) (ij H)
 exact fk
 kernel_rfl
 clear H;intro x1 hi;subst o1;have H:=Hr1;clear Hr1;try dsimp only at H
 try dsimp only
 refine Z1 ?_
 refine aT ?_
 refine cG ?_
 refine aY ?_
 refine aR ?_
 refine aY ?_
 refine aY ?_
 refine cD (x:=(⟨(⟨a0.CodeProg.Free,a0.CodeProg.Defs,a0.CodeProg.Code,a0.CodeProg.Main⟩:CodeProg),a0.begins,a0.last,a0.levels,a0.todo⟩:Code_checker)) ?_
 cases H
 refine aE [0] (by decide) ?_
 exact To
def tX (a0:Code_checker) (a1:CodeIns):Option (Code_checker × Bool):=
 (if 0 ≤ a1.A then
  (jP (⟨(⟨a0.CodeProg.Free,a0.CodeProg.Defs,a0.CodeProg.Code,a0.CodeProg.Main⟩:CodeProg),a0.begins,a0.last,a0.levels,a0.todo⟩:Code_checker) a1.B).bind fun y1=>
  some (y1.2,y1.1.CodeProg.Free,y1.1.CodeProg.Defs,y1.1.CodeProg.Code,y1.1.CodeProg.Main,y1.1.begins,y1.1.last,y1.1.levels,y1.1.todo)
 else
  some (false,a0.CodeProg.Free,a0.CodeProg.Defs,a0.CodeProg.Code,a0.CodeProg.Main,a0.begins,a0.last,a0.levels,a0.todo)).bind fun (x1,x2,x3,x4,x5,x6,x7,x8,x9)=>
 some ((⟨(⟨x2,x3,x4,x5⟩:CodeProg),x6,x7,x8,x9⟩:Code_checker),x1)
theorem aGw (p0:Nat) (a0:Code_checker) (a1:CodeIns) (r:Code_checker × Bool) (H:tX a0 a1=some r):FnS Tryz.prog 110 [fEq (.pointer (some ⟨p0,0,none⟩)),fSt aJ a1] [cX p0 a0] (aS r.2) (fun _=>[cX p0 r.1]):=by
 unfold tX at H
 refine dN Tryz.func110 rfl Tryz.ntmps110 rfl (fun β=>?_)
 refine cY (fun v1 v2 v3=>?_)
 refine aT ?_
 refine cW (fun b1 h1=>?_);subst h1
 refine aD 2 rfl (fun hc_v1=>?_)
 refine aD 3 rfl (fun hc_v3=>?_)
 refine Z1 ?_
 refine Tn (dO rfl hh cO) fun b2=>?_
 revert H;refine B2 fun o1 H Hr1=>?_
 refine bD (ι:=Bool × Int × List ScopeDef × List CodeIns × Int × List Int × List Int × aC Int CodeLevel × List Int × Value × Nat × Value) (fun i=>o1=(i.1,i.2.1,i.2.2.1,i.2.2.2.1,i.2.2.2.2.1,i.2.2.2.2.2.1,i.2.2.2.2.2.2.1,i.2.2.2.2.2.2.2.1,i.2.2.2.2.2.2.2.2.1)) (fun i=>[(0,fEq (ptr p0)),(4,aS i.1)]) (fun i=>[aA p0 90 [fI i.2.1,fSl aF i.2.2.1,fSl aJ i.2.2.2.1,fI i.2.2.2.2.1,fSl tI i.2.2.2.2.2.1,fEq i.2.2.2.2.2.2.2.2.2.1,fEq (.map (some i.2.2.2.2.2.2.2.2.2.2.1)),fEq i.2.2.2.2.2.2.2.2.2.2.2],aA b2 73 [fI a1.Op,fI a1.A,fI a1.B],bC aZ (fun y=>fSt bG y) i.2.2.2.2.2.2.2.2.2.2.1 i.2.2.2.2.2.2.2.1,aB i.2.2.2.2.2.2.2.2.2.1 3 tI i.2.2.2.2.2.2.1,aB i.2.2.2.2.2.2.2.2.2.2.2 3 tI i.2.2.2.2.2.2.2.2.1]) ?_ ?_
 revert H;refine I5 (fun c1 H=>?_) fun c1 H=>?_
 refine Z3 ?_
 refine aR ?_
 refine cG ?_
 refine aY ?_
 refine aR ?_
 refine aY ?_
 refine aY ?_
 refine cD (x:=(⟨(⟨a0.CodeProg.Free,a0.CodeProg.Defs,a0.CodeProg.Code,a0.CodeProg.Main⟩:CodeProg),a0.begins,a0.last,a0.levels,a0.todo⟩:Code_checker)) ?_
 revert H;refine bs fun y1 h2 H=>?_
 refine Tc (rV _ _ _ _ h2) ?_
 refine cY (fun v6 v7 v8=>?_)
 refine aT ?_
 refine cW (fun b4 h3=>?_);subst h3
 refine aD 2 rfl (fun hc_v6=>?_)
 refine aD 3 rfl (fun hc_v8=>?_)
 refine Z3 ?_
 refine aE [1,4,0,2,3] (by decide) ?_
 exact Tm ((y1.2,y1.1.CodeProg.Free,y1.1.CodeProg.Defs,y1.1.CodeProg.Code,y1.1.CodeProg.Main,y1.1.begins,y1.1.last,y1.1.levels,y1.1.todo,v6,b4,v8)) (ij H)
 refine Z7 ?_
 refine aE [2,0,1,3,4] (by decide) ?_
 exact Tm ((false,a0.CodeProg.Free,a0.CodeProg.Defs,a0.CodeProg.Code,a0.CodeProg.Main,a0.begins,a0.last,a0.levels,a0.todo,v1,b1,v3)) (ij H)
 clear H;intro i hi;obtain⟨x1,x2,x3,x4,x5,x6,x7,x8,x9,v4,b3,v5⟩:=i;subst o1;have H:=Hr1;clear Hr1;try dsimp only at H
 try dsimp only
 refine aD 3 rfl (fun hc_v4=>?_)
 refine aD 4 rfl (fun hc_v5=>?_)
 refine Z1 ?_
 refine aT ?_
 refine cG ?_
 refine aY ?_
 refine aR ?_
 refine aY ?_
 refine bI ?_
 refine cD (x:=(⟨(⟨x2,x3,x4,x5⟩:CodeProg),x6,x7,x8,x9⟩:Code_checker)) ?_
 cases H
 refine aE [0] (by decide) ?_
 exact To
def vF (a0:Code_checker) (a1:CodeIns):Option (Code_checker × Bool):=
 (if 0 ≤ a1.A then
  (jP (⟨(⟨a0.CodeProg.Free,a0.CodeProg.Defs,a0.CodeProg.Code,a0.CodeProg.Main⟩:CodeProg),a0.begins,a0.last,a0.levels,a0.todo⟩:Code_checker) a1.B).bind fun y1=>
  some (y1.2,y1.1.CodeProg.Free,y1.1.CodeProg.Defs,y1.1.CodeProg.Code,y1.1.CodeProg.Main,y1.1.begins,y1.1.last,y1.1.levels,y1.1.todo)
 else
  some (false,a0.CodeProg.Free,a0.CodeProg.Defs,a0.CodeProg.Code,a0.CodeProg.Main,a0.begins,a0.last,a0.levels,a0.todo)).bind fun (x1,x2,x3,x4,x5,x6,x7,x8,x9)=>
 some ((⟨(⟨x2,x3,x4,x5⟩:CodeProg),x6,x7,x8,x9⟩:Code_checker),x1)
theorem aHg (p0:Nat) (a0:Code_checker) (a1:CodeIns) (r:Code_checker × Bool) (H:vF a0 a1=some r):FnS Tryz.prog 111 [fEq (.pointer (some ⟨p0,0,none⟩)),fSt aJ a1] [cX p0 a0] (aS r.2) (fun _=>[cX p0 r.1]):=by
 unfold vF at H
 refine dN Tryz.func111 rfl Tryz.ntmps111 rfl (fun β=>?_)
 refine cY (fun v1 v2 v3=>?_)
 refine aT ?_
 refine cW (fun b1 h1=>?_);subst h1
 refine aD 2 rfl (fun hc_v1=>?_)
 refine aD 3 rfl (fun hc_v3=>?_)
 refine Z1 ?_
 refine Tn (dO rfl hh cO) fun b2=>?_
 revert H;refine B2 fun o1 H Hr1=>?_
 refine bD (ι:=Bool × Int × List ScopeDef × List CodeIns × Int × List Int × List Int × aC Int CodeLevel × List Int × Value × Nat × Value) (fun i=>o1=(i.1,i.2.1,i.2.2.1,i.2.2.2.1,i.2.2.2.2.1,i.2.2.2.2.2.1,i.2.2.2.2.2.2.1,i.2.2.2.2.2.2.2.1,i.2.2.2.2.2.2.2.2.1)) (fun i=>[(0,fEq (ptr p0)),(4,aS i.1)]) (fun i=>[aA p0 90 [fI i.2.1,fSl aF i.2.2.1,fSl aJ i.2.2.2.1,fI i.2.2.2.2.1,fSl tI i.2.2.2.2.2.1,fEq i.2.2.2.2.2.2.2.2.2.1,fEq (.map (some i.2.2.2.2.2.2.2.2.2.2.1)),fEq i.2.2.2.2.2.2.2.2.2.2.2],aA b2 73 [fI a1.Op,fI a1.A,fI a1.B],bC aZ (fun y=>fSt bG y) i.2.2.2.2.2.2.2.2.2.2.1 i.2.2.2.2.2.2.2.1,aB i.2.2.2.2.2.2.2.2.2.1 3 tI i.2.2.2.2.2.2.1,aB i.2.2.2.2.2.2.2.2.2.2.2 3 tI i.2.2.2.2.2.2.2.2.1]) ?_ ?_
 revert H;refine I5 (fun c1 H=>?_) fun c1 H=>?_
 refine Z3 ?_
 refine aR ?_
 refine cG ?_
 refine aY ?_
 refine aR ?_
 refine aY ?_
 refine aY ?_
 refine cD (x:=(⟨(⟨a0.CodeProg.Free,a0.CodeProg.Defs,a0.CodeProg.Code,a0.CodeProg.Main⟩:CodeProg),a0.begins,a0.last,a0.levels,a0.todo⟩:Code_checker)) ?_
 revert H;refine bs fun y1 h2 H=>?_
 refine Tc (rV _ _ _ _ h2) ?_
 refine cY (fun v6 v7 v8=>?_)
 refine aT ?_
 refine cW (fun b4 h3=>?_);subst h3
 refine aD 2 rfl (fun hc_v6=>?_)
 refine aD 3 rfl (fun hc_v8=>?_)
 refine Z3 ?_
 refine aE [1,4,0,2,3] (by decide) ?_
 exact Tm ((y1.2,y1.1.CodeProg.Free,y1.1.CodeProg.Defs,y1.1.CodeProg.Code,y1.1.CodeProg.Main,y1.1.begins,y1.1.last,y1.1.levels,y1.1.todo,v6,b4,v8)) (ij H)
 refine Z7 ?_
 refine aE [2,0,1,3,4] (by decide) ?_
 exact Tm ((false,a0.CodeProg.Free,a0.CodeProg.Defs,a0.CodeProg.Code,a0.CodeProg.Main,a0.begins,a0.last,a0.levels,a0.todo,v1,b1,v3)) (ij H)
 clear H;intro i hi;obtain⟨x1,x2,x3,x4,x5,x6,x7,x8,x9,v4,b3,v5⟩:=i;subst o1;have H:=Hr1;clear Hr1;try dsimp only at H
 try dsimp only
 refine aD 3 rfl (fun hc_v4=>?_)
 refine aD 4 rfl (fun hc_v5=>?_)
 refine Z1 ?_
 refine aT ?_
 refine cG ?_
 refine aY ?_
 refine aR ?_
 refine aY ?_
 refine bI ?_
 refine cD (x:=(⟨(⟨x2,x3,x4,x5⟩:CodeProg),x6,x7,x8,x9⟩:Code_checker)) ?_
 cases H
 refine aE [0] (by decide) ?_
 exact To
def zC (v:Value) (a0:Code_checker) (a1:CodeIns):Option (Code_checker × Bool):=match v with
 | .func (.func 105) ⟨[]⟩ ⟨[]⟩=>rH a0 a1
 | .func (.func 106) ⟨[]⟩ ⟨[]⟩=>tL a0 a1
 | .func (.func 107) ⟨[]⟩ ⟨[]⟩=>rD a0 a1
 | .func (.func 108) ⟨[]⟩ ⟨[]⟩=>rP a0 a1
 | .func (.func 109) ⟨[]⟩ ⟨[]⟩=>vN a0 a1
 | .func (.func 110) ⟨[]⟩ ⟨[]⟩=>tX a0 a1
 | .func (.func 111) ⟨[]⟩ ⟨[]⟩=>vF a0 a1
 | _=>none
theorem aFU (p0:Nat) (v:Value) (a0:Code_checker) (a1:CodeIns) (r:Code_checker × Bool) (H:zC v a0 a1=some r):∃ f,v= .func (.func f) #[] #[] ∧ Callable Tryz.prog f ∧ FnS Tryz.prog f [fEq (.pointer (some ⟨p0,0,none⟩)),fSt aJ a1] [cX p0 a0] (aS r.2) (fun _=>[cX p0 r.1]):=by
 unfold zC at H
 split at H
 exact⟨_,rfl,(cb rfl),aHe p0 a0 a1 r H⟩
 exact⟨_,rfl,(cb rfl),aFG p0 a0 a1 r H⟩
 exact⟨_,rfl,(cb rfl),aGe p0 a0 a1 r H⟩
 exact⟨_,rfl,(cb rfl),aGL p0 a0 a1 r H⟩
 exact⟨_,rfl,(cb rfl),aFI p0 a0 a1 r H⟩
 exact⟨_,rfl,(cb rfl),aGw p0 a0 a1 r H⟩
 exact⟨_,rfl,(cb rfl),aHg p0 a0 a1 r H⟩
 cases H
def kA (a0:Code_checker):Nat → Int → Int → (List ScopeDef) → (List CodeIns) → Int → (List Int) → (List Int) → (aC Int CodeLevel) → (List Int) → (aC Int Bool) → Option ((Int × List ScopeDef × List CodeIns × Int × List Int × List Int × aC Int CodeLevel × List Int × aC Int Bool) ⊕ (Code_checker ⊕ Value))
| 0,_,_,_,_,_,_,_,_,_,_=>none
| k+1,x20,x21,x22,x23,x24,x25,x26,x27,x28,x29=>
 if x20<(a0.CodeProg.Code.length:Int)then
  ((idx a0.CodeProg.Code x20).bind fun y2=>
  (vC y2.Op).bind fun y3=>
  (bJ y3).bind fun y4=>
  match y4 with
  | Sum.inr pv1=>((some (Sum.inr pv1)).bind fun r=>some (Sum.inr r)).bind fun r=>some (Sum.inr r)
  | Sum.inl y4=>
  (idx xM y2.Op).bind fun y5=>
  ((zC y5.right (⟨(⟨x21,x22,x23,x24⟩:CodeProg),x25,x26,x27,x28⟩:Code_checker) (⟨y2.Op,y2.A,y2.B⟩:CodeIns)).bind fun y6=>
  bif y6.2 then
   if 0<y5.many then
    if 1<y5.many then
     (bJ true).bind fun y7=>
     match y7 with
     | Sum.inr pv2=>(((some (Sum.inr pv2)).bind fun r=>some (Sum.inr r)).bind fun r=>some (Sum.inr r)).bind fun r=>some (Sum.inr r)
     | Sum.inl y7=>
     some (Sum.inl (y6.1.CodeProg.Free,y6.1.CodeProg.Defs,y6.1.CodeProg.Code,y6.1.CodeProg.Main,y6.1.begins,y6.1.last,y6.1.levels,y6.1.todo))
    else
     (bJ (decide (y2.B=0))).bind fun y8=>
     match y8 with
     | Sum.inr pv3=>(((some (Sum.inr pv3)).bind fun r=>some (Sum.inr r)).bind fun r=>some (Sum.inr r)).bind fun r=>some (Sum.inr r)
     | Sum.inl y8=>
     some (Sum.inl (y6.1.CodeProg.Free,y6.1.CodeProg.Defs,y6.1.CodeProg.Code,y6.1.CodeProg.Main,y6.1.begins,y6.1.last,y6.1.levels,y6.1.todo))
   else
    if y2.A=0 then
     if 1<y5.many then
      (bJ true).bind fun y9=>
      match y9 with
      | Sum.inr pv4=>(((some (Sum.inr pv4)).bind fun r=>some (Sum.inr r)).bind fun r=>some (Sum.inr r)).bind fun r=>some (Sum.inr r)
      | Sum.inl y9=>
      some (Sum.inl (y6.1.CodeProg.Free,y6.1.CodeProg.Defs,y6.1.CodeProg.Code,y6.1.CodeProg.Main,y6.1.begins,y6.1.last,y6.1.levels,y6.1.todo))
     else
      (bJ (decide (y2.B=0))).bind fun y10=>
      match y10 with
      | Sum.inr pv5=>(((some (Sum.inr pv5)).bind fun r=>some (Sum.inr r)).bind fun r=>some (Sum.inr r)).bind fun r=>some (Sum.inr r)
      | Sum.inl y10=>
      some (Sum.inl (y6.1.CodeProg.Free,y6.1.CodeProg.Defs,y6.1.CodeProg.Code,y6.1.CodeProg.Main,y6.1.begins,y6.1.last,y6.1.levels,y6.1.todo))
    else
     (bJ false).bind fun y11=>
     match y11 with
     | Sum.inr pv6=>(((some (Sum.inr pv6)).bind fun r=>some (Sum.inr r)).bind fun r=>some (Sum.inr r)).bind fun r=>some (Sum.inr r)
     | Sum.inl y11=>
     some (Sum.inl (y6.1.CodeProg.Free,y6.1.CodeProg.Defs,y6.1.CodeProg.Code,y6.1.CodeProg.Main,y6.1.begins,y6.1.last,y6.1.levels,y6.1.todo))
  else
   (bJ false).bind fun y12=>
   match y12 with
   | Sum.inr pv7=>(((some (Sum.inr pv7)).bind fun r=>some (Sum.inr r)).bind fun r=>some (Sum.inr r)).bind fun r=>some (Sum.inr r)
   | Sum.inl y12=>
   some (Sum.inl (y6.1.CodeProg.Free,y6.1.CodeProg.Defs,y6.1.CodeProg.Code,y6.1.CodeProg.Main,y6.1.begins,y6.1.last,y6.1.levels,y6.1.todo))).bind fun o=>match o with
  | Sum.inr r=>some r
  | Sum.inl (x39,x40,x41,x42,x43,x44,x45,x46)=>
  (if y2.Op=9 then
   if x20<y2.A then
    (bJ (decide (y2.A<(x41.length:Int)))).bind fun y13=>
    match y13 with
    | Sum.inr pv8=>(((some (Sum.inr pv8)).bind fun r=>some (Sum.inr r)).bind fun r=>some (Sum.inr r)).bind fun r=>some (Sum.inr r)
    | Sum.inl y13=>
    some (Sum.inl ())
   else
    (bJ false).bind fun y14=>
    match y14 with
    | Sum.inr pv9=>(((some (Sum.inr pv9)).bind fun r=>some (Sum.inr r)).bind fun r=>some (Sum.inr r)).bind fun r=>some (Sum.inr r)
    | Sum.inl y14=>
    some (Sum.inl ())
  else
   if y2.Op=10 then
    if x20<y2.A then
     (bJ (decide (y2.A<(x41.length:Int)))).bind fun y15=>
     match y15 with
     | Sum.inr pv10=>(((some (Sum.inr pv10)).bind fun r=>some (Sum.inr r)).bind fun r=>some (Sum.inr r)).bind fun r=>some (Sum.inr r)
     | Sum.inl y15=>
     some (Sum.inl ())
    else
     (bJ false).bind fun y16=>
     match y16 with
     | Sum.inr pv11=>(((some (Sum.inr pv11)).bind fun r=>some (Sum.inr r)).bind fun r=>some (Sum.inr r)).bind fun r=>some (Sum.inr r)
     | Sum.inl y16=>
     some (Sum.inl ())
   else
    some (Sum.inl ())).bind fun o=>match o with
  | Sum.inr r=>some r
  | Sum.inl _=>
  if y2.Op=11 then
   (bJ (!((x29.get y2.A).getD false))).bind fun y17=>
   match y17 with
   | Sum.inr pv12=>((some (Sum.inr pv12)).bind fun r=>some (Sum.inr r)).bind fun r=>some (Sum.inr r)
   | Sum.inl y17=>
   some (Sum.inl (x39,x40,x41,x42,x43,x44,x45,x46,aC.upd x29 y2.A true))
  else
   some (Sum.inl (x39,x40,x41,x42,x43,x44,x45,x46,x29))).bind fun o=>match o with
  | Sum.inr r=>some r
  | Sum.inl (x30,x31,x32,x33,x34,x35,x36,x37,x38)=>
  (chk (x20+1)).bind fun z1=>
  kA a0 k z1 x30 x31 x32 x33 x34 x35 x36 x37 x38
 else
  some (Sum.inl (x21,x22,x23,x24,x25,x26,x27,x28,x29))
def sF (fuel:Nat) (a0:Code_checker):Option (Code_checker ⊕ Value):=
 (aAd).bind fun y1=>
 (kA a0 fuel 0 a0.CodeProg.Free a0.CodeProg.Defs a0.CodeProg.Code a0.CodeProg.Main a0.begins a0.last a0.levels a0.todo (aC.none:aC Int Bool)).bind fun o=>match o with
 | Sum.inr r=>some r
 | Sum.inl (x1,x2,x3,x4,x5,x6,x7,x8,x9)=>
 (bJ (decide ((x9.size:Int)=(x2.length:Int)))).bind fun y18=>
 match y18 with
 | Sum.inr pv13=>some (Sum.inr pv13)
 | Sum.inl y18=>
 some (Sum.inl (⟨(⟨x1,x2,x3,x4⟩:CodeProg),x5,x6,x7,x8⟩:Code_checker))
theorem aEq (fuel:Nat) (p0:Nat) (a0:Code_checker) (r:Code_checker ⊕ Value) (H:sF fuel a0=some r):FnE Tryz.prog 72 [fEq (.pointer (some ⟨p0,0,none⟩))] [cX p0 a0] r (fun r=>dZ []) (fun r=>[cX p0 r]):=by
 unfold sF at H
 refine gU Tryz.func72 rfl Tryz.ntmps72 rfl (fun β=>?_)
 refine cY (fun v1 v2 v3=>?_)
 refine aT ?_
 refine cW (fun b1 h1=>?_);subst h1
 refine aD 2 rfl (fun hc_v1=>?_)
 refine aD 3 rfl (fun hc_v3=>?_)
 revert H;refine B1 fun y1 h2 H=>?_
 refine Tc (aHk _ h2) ?_
 refine Tn (cM rfl aGv rfl) fun b2=>?_
 refine cU (φs':=kE.leafs ()) trivial rfl rfl (has rfl) (has rfl) (kE.cell ()) (sz rfl) rfl rfl rfl ?_
 refine kF (φ:=bK kE ()) (v:=ptr b2) [] (yW aH.rfl) (fun _ h=>nomatch h) ?_
 refine T_slotW 2 rfl (fun m u h k=>by cases k;exact h) ?_
 refine jS ?_
 refine Z2 ?_
 refine Tn (aAT (fun y=>aS y) aZ rfl) fun b3=>?_
 revert H;refine B2 fun o1 H Hr1=>?_
 refine bD (ι:=Int × List ScopeDef × List CodeIns × Int × List Int × List Int × aC Int CodeLevel × List Int × aC Int Bool × Value × Nat × Value) (fun i=>o1=Sum.inl (i.1,i.2.1,i.2.2.1,i.2.2.2.1,i.2.2.2.2.1,i.2.2.2.2.2.1,i.2.2.2.2.2.2.1,i.2.2.2.2.2.2.2.1,i.2.2.2.2.2.2.2.2.1)) (fun i=>[(0,fEq (ptr p0)),(3,fEq (.map (some b3)))]) (fun i=>[aA p0 90 [fI i.1,fSl aF i.2.1,fSl aJ i.2.2.1,fI i.2.2.2.1,fSl tI i.2.2.2.2.1,fEq i.2.2.2.2.2.2.2.2.2.1,fEq (.map (some i.2.2.2.2.2.2.2.2.2.2.1)),fEq i.2.2.2.2.2.2.2.2.2.2.2],bC aZ (fun y=>fSt bG y) i.2.2.2.2.2.2.2.2.2.2.1 i.2.2.2.2.2.2.1,bC aZ (fun y=>aS y) b3 i.2.2.2.2.2.2.2.2.1,aB i.2.2.2.2.2.2.2.2.2.1 3 tI i.2.2.2.2.2.1,aB i.2.2.2.2.2.2.2.2.2.2.2 3 tI i.2.2.2.2.2.2.2.1]) ?_ ?_
 refine Z10 ?_
 refine aE [2,1,0,3,4] (by decide) ?_
 refine Tl (ι:=Nat × Int × Int × List ScopeDef × List CodeIns × Int × List Int × List Int × aC Int CodeLevel × List Int × aC Int Bool × Value × Nat × Value) (fun i=>kA a0 i.1 i.2.1 i.2.2.1 i.2.2.2.1 i.2.2.2.2.1 i.2.2.2.2.2.1 i.2.2.2.2.2.2.1 i.2.2.2.2.2.2.2.1 i.2.2.2.2.2.2.2.2.1 i.2.2.2.2.2.2.2.2.2.1 i.2.2.2.2.2.2.2.2.2.2.1=_) (fun i=>i.1) (fun i=>[(0,fEq (ptr p0)),(2,bK kE ()),(3,fEq (.map (some b3))),(13,fSl aJ a0.CodeProg.Code),(14,fI (a0.CodeProg.Code.length:Int)),(15,fI i.2.1)]) (fun i=>[aA p0 90 [fI i.2.2.1,fSl aF i.2.2.2.1,fSl aJ i.2.2.2.2.1,fI i.2.2.2.2.2.1,fSl tI i.2.2.2.2.2.2.1,fEq i.2.2.2.2.2.2.2.2.2.2.2.1,fEq (.map (some i.2.2.2.2.2.2.2.2.2.2.2.2.1)),fEq i.2.2.2.2.2.2.2.2.2.2.2.2.2],bC aZ (fun y=>fSt bG y) i.2.2.2.2.2.2.2.2.2.2.2.2.1 i.2.2.2.2.2.2.2.2.1,bC aZ (fun y=>aS y) b3 i.2.2.2.2.2.2.2.2.2.2.1,aB i.2.2.2.2.2.2.2.2.2.2.2.1 3 tI i.2.2.2.2.2.2.2.1,aB i.2.2.2.2.2.2.2.2.2.2.2.2.2 3 tI i.2.2.2.2.2.2.2.2.2.1]) (fuel,0,a0.CodeProg.Free,a0.CodeProg.Defs,a0.CodeProg.Code,a0.CodeProg.Main,a0.begins,a0.last,a0.levels,a0.todo,(aC.none:aC Int Bool),v1,b1,v3) H ?_
 clear H;rintro⟨k1,x20,x21,x22,x23,x24,x25,x26,x27,x28,x29,v8,b6,v9⟩ H
 replace H:kA a0 k1 x20 x21 x22 x23 x24 x25 x26 x27 x28 x29=_:=H
 try dsimp only
 obtain _ | k1:=k1
 rw [kA]at H;cases H
 rw [kA]at H
 refine aD 3 rfl (fun hc_v8=>?_)
 refine aD 4 rfl (fun hc_v9=>?_)
 refine Z3 ?_
 refine aW ?_
 revert H;refine is (fun c1 H=>?_) fun c1 H=>?_
 revert H;refine B3 fun o2 H Hr2=>?_
 refine bD (ι:=Int × List ScopeDef × List CodeIns × Int × List Int × List Int × aC Int CodeLevel × List Int × aC Int Bool × Value × Nat × Value) (fun i=>o2=Sum.inl (i.1,i.2.1,i.2.2.1,i.2.2.2.1,i.2.2.2.2.1,i.2.2.2.2.2.1,i.2.2.2.2.2.2.1,i.2.2.2.2.2.2.2.1,i.2.2.2.2.2.2.2.2.1)) (fun i=>[(0,fEq (ptr p0)),(2,bK kE ()),(3,fEq (.map (some b3))),(13,fSl aJ a0.CodeProg.Code),(14,fI (a0.CodeProg.Code.length:Int)),(15,fI x20)]) (fun i=>[aA p0 90 [fI i.1,fSl aF i.2.1,fSl aJ i.2.2.1,fI i.2.2.2.1,fSl tI i.2.2.2.2.1,fEq i.2.2.2.2.2.2.2.2.2.1,fEq (.map (some i.2.2.2.2.2.2.2.2.2.2.1)),fEq i.2.2.2.2.2.2.2.2.2.2.2],bC aZ (fun y=>fSt bG y) i.2.2.2.2.2.2.2.2.2.2.1 i.2.2.2.2.2.2.1,bC aZ (fun y=>aS y) b3 i.2.2.2.2.2.2.2.2.1,aB i.2.2.2.2.2.2.2.2.2.1 3 tI i.2.2.2.2.2.1,aB i.2.2.2.2.2.2.2.2.2.2.2 3 tI i.2.2.2.2.2.2.2.1]) ?_ ?_
 revert H;refine B3 fun y2 h3 H=>?_
 refine Z2 ?_
 refine Tn (cM rfl xH rfl) fun b8=>?_
 refine Z1 ?_
 refine cU (φs':=[fI y2.Op,fI y2.A,fI y2.B]) trivial rfl rfl (has rfl) (has rfl) (aM (aG trivial) (aM (aG trivial) (aM (aG trivial) bO))) (sz rfl) rfl rfl rfl ?_
 revert H;refine B4 fun y3 h4 H=>?_
 refine Tc (aGI _ _ h4) ?_
 revert H;refine bs fun y4 h5 H=>?_
 rcases y4 with y4 | pv1 <;> dsimp only at H
 refine Tc (aO _ _ h5).s ?_
 revert H;refine B4 fun y5 h6 H=>?_
 refine Yy (aGa (A:=kE) (xs:=xM) rfl hh hh rfl aGd h6) ?_
 refine Z1 ?_
 refine Tn (cM rfl aG5 rfl) fun b9=>?_
 refine cU (φs':=[fStr y5.name,fI y5.many,gM y5.right]) trivial rfl rfl (has rfl) (has rfl) (aM (aG trivial) (aM (aG trivial) (aM (wY) bO))) (sz rfl) rfl rfl rfl ?_
 revert H;refine B1 fun o3 H Hr3=>?_
 refine bD (ι:=Int × List ScopeDef × List CodeIns × Int × List Int × List Int × aC Int CodeLevel × List Int × Value × Nat × Value) (fun i=>o3=Sum.inl (i.1,i.2.1,i.2.2.1,i.2.2.2.1,i.2.2.2.2.1,i.2.2.2.2.2.1,i.2.2.2.2.2.2.1,i.2.2.2.2.2.2.2.1)) (fun i=>[(0,fEq (ptr p0)),(2,bK kE ()),(3,fEq (.map (some b3))),(13,fSl aJ a0.CodeProg.Code),(14,fI (a0.CodeProg.Code.length:Int)),(15,fI x20),(5,fEq (ptr b8)),(4,fI x20)]) (fun i=>[aA p0 90 [fI i.1,fSl aF i.2.1,fSl aJ i.2.2.1,fI i.2.2.2.1,fSl tI i.2.2.2.2.1,fEq i.2.2.2.2.2.2.2.2.1,fEq (.map (some i.2.2.2.2.2.2.2.2.2.1)),fEq i.2.2.2.2.2.2.2.2.2.2],aA b9 150 [fStr y5.name,fI y5.many,gM y5.right],aA b8 73 [fI y2.Op,fI y2.A,fI y2.B],bC aZ (fun y=>fSt bG y) i.2.2.2.2.2.2.2.2.2.1 i.2.2.2.2.2.2.1,bC aZ (fun y=>aS y) b3 x29,aB i.2.2.2.2.2.2.2.2.1 3 tI i.2.2.2.2.2.1,aB i.2.2.2.2.2.2.2.2.2.2 3 tI i.2.2.2.2.2.2.2.1]) ?_ ?_
 refine Z5 ?_
 refine bI ?_
 refine cG ?_
 refine oN ?_
 refine aR ?_
 refine oN ?_
 refine eZ ?_
 refine cD (x:=(⟨(⟨x21,x22,x23,x24⟩:CodeProg),x25,x26,x27,x28⟩:Code_checker)) ?_
 revert H;refine bs fun y6 h7 H=>?_
 obtain⟨f1,h8,h9,h10⟩:=aFU p0 y5.right (⟨(⟨x21,x22,x23,x24⟩:CodeProg),x25,x26,x27,x28⟩:Code_checker) (⟨y2.Op,y2.A,y2.B⟩:CodeIns) _ h7
 refine oX 29 rfl (ent_fnOf h8) ?_
 refine iK trivial rfl rfl rfl (has rfl) (aK.cons (has rfl) (aK.cons (has rfl) aK.nil)) rfl h9 h10 rfl ?_
 refine cY (fun v14 v15 v16=>?_)
 refine aT ?_
 refine cW (fun b11 h11=>?_);subst h11
 refine aD 2 rfl (fun hc_v14=>?_)
 refine aD 3 rfl (fun hc_v16=>?_)
 refine Z1 ?_
 revert H;refine cs (fun c2 H=>?_) fun c2 H=>?_
 revert H;refine I4 (fun c3 H=>?_) fun c3 H=>?_
 revert H;refine I10 (fun c4 H=>?_) fun c4 H=>?_
 revert H;refine B5 fun y7 h12 H=>?_
 rcases y7 with y7 | pv2 <;> dsimp only at H
 refine Tc (aO _ _ h12).s ?_
 refine Z1 ?_
 refine aE [1,4,5,0,6,2,3] (by decide) ?_
 exact Tm ((y6.1.CodeProg.Free,y6.1.CodeProg.Defs,y6.1.CodeProg.Code,y6.1.CodeProg.Main,y6.1.begins,y6.1.last,y6.1.levels,y6.1.todo,v14,b11,v16)) (ij H)
 refine Tp (aO _ _ h12).pan ?_
 revert H;refine B1 fun r1 H e1=>?_
 cases e1;cases Hr3
 revert H;refine B2 fun r2 H e2=>?_
 cases e2;cases Hr2
 revert H;refine B3 fun r3 H e3=>?_
 cases e3;cases Hr1
 cases H
 exact bB
 revert H;refine B5 fun y8 h13 H=>?_
 rcases y8 with y8 | pv3 <;> dsimp only at H
 refine Tc (aO _ _ h13).s ?_
 refine Z1 ?_
 refine aE [1,4,5,0,6,2,3] (by decide) ?_
 exact Tm ((y6.1.CodeProg.Free,y6.1.CodeProg.Defs,y6.1.CodeProg.Code,y6.1.CodeProg.Main,y6.1.begins,y6.1.last,y6.1.levels,y6.1.todo,v14,b11,v16)) (ij H)
 refine Tp (aO _ _ h13).pan ?_
 revert H;refine B1 fun r4 H e4=>?_
 cases e4;cases Hr3
 revert H;refine B2 fun r5 H e5=>?_
 cases e5;cases Hr2
 revert H;refine B3 fun r6 H e6=>?_
 cases e6;cases Hr1
 cases H
 exact bB
 revert H;refine I6 (fun c5 H=>?_) fun c5 H=>?_
 revert H;refine I4 (fun c6 H=>?_) fun c6 H=>?_
 revert H;refine B5 fun y9 h14 H=>?_
 rcases y9 with y9 | pv4 <;> dsimp only at H
 refine Tc (aO _ _ h14).s ?_
 refine Z1 ?_
 refine aE [1,4,5,0,6,2,3] (by decide) ?_
 exact Tm ((y6.1.CodeProg.Free,y6.1.CodeProg.Defs,y6.1.CodeProg.Code,y6.1.CodeProg.Main,y6.1.begins,y6.1.last,y6.1.levels,y6.1.todo,v14,b11,v16)) (ij H)
 refine Tp (aO _ _ h14).pan ?_
 revert H;refine B1 fun r7 H e7=>?_
 cases e7;cases Hr3
 revert H;refine B2 fun r8 H e8=>?_
 cases e8;cases Hr2
 revert H;refine B3 fun r9 H e9=>?_
 cases e9;cases Hr1
 cases H
 exact bB
 revert H;refine B5 fun y10 h15 H=>?_
 rcases y10 with y10 | pv5 <;> dsimp only at H
 refine Tc (aO _ _ h15).s ?_
 refine Z1 ?_
 refine aE [1,4,5,0,6,2,3] (by decide) ?_
 exact Tm ((y6.1.CodeProg.Free,y6.1.CodeProg.Defs,y6.1.CodeProg.Code,y6.1.CodeProg.Main,y6.1.begins,y6.1.last,y6.1.levels,y6.1.todo,v14,b11,v16)) (ij H)
 refine Tp (aO _ _ h15).pan ?_
 revert H;refine B1 fun r10 H e10=>?_
 cases e10;cases Hr3
 revert H;refine B2 fun r11 H e11=>?_
 cases e11;cases Hr2
 revert H;refine B3 fun r12 H e12=>?_
 cases e12;cases Hr1
 cases H
 exact bB
 refine Z4 ?_
 refine bE (⟨_,_,_,_,rfl,rfl,rfl,nu⟩) rfl rfl ?_
 refine bE (⟨_,_,_,_,rfl,rfl,rfl,nu⟩) rfl rfl ?_
 refine bE (⟨_,_,_,_,rfl,rfl,rfl,nu⟩) rfl rfl ?_
 revert H;refine B2 fun y11 h16 H=>?_
 rcases y11 with y11 | pv6 <;> dsimp only at H
 refine Tc (aO _ _ h16).s ?_
 refine Z1 ?_
 refine aE [1,4,5,0,6,2,3] (by decide) ?_
 exact Tm ((y6.1.CodeProg.Free,y6.1.CodeProg.Defs,y6.1.CodeProg.Code,y6.1.CodeProg.Main,y6.1.begins,y6.1.last,y6.1.levels,y6.1.todo,v14,b11,v16)) (ij H)
 refine Tp (aO _ _ h16).pan ?_
 revert H;refine B1 fun r13 H e13=>?_
 cases e13;cases Hr3
 revert H;refine B2 fun r14 H e14=>?_
 cases e14;cases Hr2
 revert H;refine B3 fun r15 H e15=>?_
 cases e15;cases Hr1
 cases H
 exact bB
 refine Z4 ?_
 refine bE (⟨_,_,_,_,rfl,rfl,rfl,nu⟩) rfl rfl ?_
 refine bE (⟨_,_,_,_,rfl,rfl,rfl,nu⟩) rfl rfl ?_
 refine bE (⟨_,_,_,_,rfl,rfl,rfl,nu⟩) rfl rfl ?_
 refine Z7 ?_
 refine bE (⟨_,_,_,_,rfl,rfl,rfl,nu⟩) rfl rfl ?_
 refine bE (⟨_,_,_,_,rfl,rfl,rfl,nu⟩) rfl rfl ?_
 refine bE (⟨_,_,_,_,rfl,rfl,rfl,nu⟩) rfl rfl ?_
 revert H;refine B2 fun y12 h17 H=>?_
 rcases y12 with y12 | pv7 <;> dsimp only at H
 refine Tc (aO _ _ h17).s ?_
 refine Z1 ?_
 refine aE [1,4,5,0,6,2,3] (by decide) ?_
 exact Tm ((y6.1.CodeProg.Free,y6.1.CodeProg.Defs,y6.1.CodeProg.Code,y6.1.CodeProg.Main,y6.1.begins,y6.1.last,y6.1.levels,y6.1.todo,v14,b11,v16)) (ij H)
 refine Tp (aO _ _ h17).pan ?_
 revert H;refine B1 fun r16 H e16=>?_
 cases e16;cases Hr3
 revert H;refine B2 fun r17 H e17=>?_
 cases e17;cases Hr2
 revert H;refine B3 fun r18 H e18=>?_
 cases e18;cases Hr1
 cases H
 exact bB
 clear H;intro i hi;obtain⟨x39,x40,x41,x42,x43,x44,x45,x46,v12,b10,v13⟩:=i;subst o3;have H:=Hr3;clear Hr3;try dsimp only at H
 try dsimp only
 refine aD 5 rfl (fun hc_v12=>?_)
 refine aD 6 rfl (fun hc_v13=>?_)
 revert H;refine bs fun o4 H Hr4=>?_
 refine bD (ι:=Unit) (fun i=>o4=Sum.inl ()) (fun i=>[(0,fEq (ptr p0)),(2,bK kE ()),(3,fEq (.map (some b3))),(13,fSl aJ a0.CodeProg.Code),(14,fI (a0.CodeProg.Code.length:Int)),(15,fI x20),(5,fEq (ptr b8))]) (fun i=>[aA p0 90 [fI x39,fSl aF x40,fSl aJ x41,fI x42,fSl tI x43,fEq v12,fEq (.map (some b10)),fEq v13],aA b9 150 [fStr y5.name,fI y5.many,gM y5.right],aA b8 73 [fI y2.Op,fI y2.A,fI y2.B],bC aZ (fun y=>fSt bG y) b10 x45,bC aZ (fun y=>aS y) b3 x29,aB v12 3 tI x44,aB v13 3 tI x46]) ?_ ?_
 revert H;refine I5 (fun c7 H=>?_) fun c7 H=>?_
 revert H;refine I6 (fun c8 H=>?_) fun c8 H=>?_
 apply cB (ods:=[_,_,_,_,_,_,_,_,_,_,_,_,_,_,_]) 15 0 7 bZ rfl rfl rfl
 refine ND ?_
 refine M8 ?_
 intros
 refine M7 ?_
 intros
 revert H;refine B1 fun y13 h18 H=>?_
 rcases y13 with y13 | pv8 <;> dsimp only at H
 refine Tc (aO _ _ h18).s ?_
 refine Z1 ?_
 exact Tm (()) (ij H)
 refine Tp (aO _ _ h18).pan ?_
 revert H;refine B1 fun r19 H e19=>?_
 cases e19;cases Hr4
 revert H;refine B2 fun r20 H e20=>?_
 cases e20;cases Hr2
 revert H;refine B3 fun r21 H e21=>?_
 cases e21;cases Hr1
 cases H
 exact bB
 exact fk
 kernel_rfl
 apply cB (ods:=[_,_,_,_,_,_,_,_,_,_,_,_,_,_,_]) 15 0 7 bZ rfl rfl rfl
 refine ND ?_
 refine M8 ?_
 intros
 refine M7 ?_
 intros
 revert H;refine B1 fun y14 h19 H=>?_
 rcases y14 with y14 | pv9 <;> dsimp only at H
 refine Tc (aO _ _ h19).s ?_
 refine Z1 ?_
 exact Tm (()) (ij H)
 refine Tp (aO _ _ h19).pan ?_
 revert H;refine B1 fun r22 H e22=>?_
 cases e22;cases Hr4
 revert H;refine B2 fun r23 H e23=>?_
 cases e23;cases Hr2
 revert H;refine B3 fun r24 H e24=>?_
 cases e24;cases Hr1
 cases H
 exact bB
 exact fk
 kernel_rfl
 revert H;refine I5 (fun c9 H=>?_) fun c9 H=>?_
 revert H;refine I1 (fun c10 H=>?_) fun c10 H=>?_
 apply cB (ods:=[_,_,_,_,_,_,_,_,_,_,_,_,_,_,_]) 15 0 7 bZ rfl rfl rfl
 refine ND ?_
 refine M8 ?_
 intros
 refine M7 ?_
 intros
 revert H;refine B1 fun y15 h20 H=>?_
 rcases y15 with y15 | pv10 <;> dsimp only at H
 refine Tc (aO _ _ h20).s ?_
 refine Z1 ?_
 exact Tm (()) (ij H)
 refine Tp (aO _ _ h20).pan ?_
 revert H;refine B1 fun r25 H e25=>?_
 cases e25;cases Hr4
 revert H;refine B2 fun r26 H e26=>?_
 cases e26;cases Hr2
 revert H;refine B3 fun r27 H e27=>?_
 cases e27;cases Hr1
 cases H
 exact bB
 exact fk
 kernel_rfl
 apply cB (ods:=[_,_,_,_,_,_,_,_,_,_,_,_,_,_,_]) 15 0 7 bZ rfl rfl rfl
 refine ND ?_
 refine M8 ?_
 intros
 refine M7 ?_
 intros
 revert H;refine B1 fun y16 h21 H=>?_
 rcases y16 with y16 | pv11 <;> dsimp only at H
 refine Tc (aO _ _ h21).s ?_
 refine Z1 ?_
 exact Tm (()) (ij H)
 refine Tp (aO _ _ h21).pan ?_
 revert H;refine B1 fun r28 H e28=>?_
 cases e28;cases Hr4
 revert H;refine B2 fun r29 H e29=>?_
 cases e29;cases Hr2
 revert H;refine B3 fun r30 H e30=>?_
 cases e30;cases Hr1
 cases H
 exact bB
 exact fk
 kernel_rfl
 refine Z3 ?_
 exact Tm (()) (ij H)
 clear H;intro i hi;subst o4;have H:=Hr4;clear Hr4;try dsimp only at H
 try dsimp only
 revert H;refine I5 (fun c11 H=>?_) fun c11 H=>?_
 refine Z5 ?_
 refine Yo 4 rfl (aC5 (zα:=false) (k:=y2.A) rfl hh hh rfl sM Ent.rfl) ?_
 revert H;refine B1 fun y17 h22 H=>?_
 rcases y17 with y17 | pv12 <;> dsimp only at H
 refine Tc (aO _ _ h22).s ?_
 refine Z5 ?_
 refine aY ?_
 refine aAu (k:=y2.A) (y:=true) trivial (.inl rfl) rfl (has rfl) (has rfl) rfl (has rfl) rfl sM ?_
 refine Z3 ?_
 refine aE [1,4,0,5,6] (by decide) ?_
 exact Tm ((x39,x40,x41,x42,x43,x44,x45,x46,aC.upd x29 y2.A true,v12,b10,v13)) (ij H)
 refine Tp (aO _ _ h22).pan ?_
 revert H;refine B3 fun r31 H e31=>?_
 cases e31;cases Hr2
 revert H;refine B3 fun r32 H e32=>?_
 cases e32;cases Hr1
 cases H
 exact bB
 refine Z4 ?_
 refine aE [0,3,4,5,6] (by decide) ?_
 exact Tm ((x39,x40,x41,x42,x43,x44,x45,x46,x29,v12,b10,v13)) (ij H)
 refine Tp (aO _ _ h5).pan ?_
 revert H;refine B3 fun r33 H e33=>?_
 cases e33;cases Hr2
 revert H;refine B3 fun r34 H e34=>?_
 cases e34;cases Hr1
 cases H
 exact bB
 clear H;intro i hi;obtain⟨x30,x31,x32,x33,x34,x35,x36,x37,x38,v10,b7,v11⟩:=i;subst o2;have H:=Hr2;clear Hr2;try dsimp only at H
 try dsimp only
 refine aD 3 rfl (fun hc_v10=>?_)
 refine aD 4 rfl (fun hc_v11=>?_)
 revert H;refine B1 fun z1 h23 H=>?_
 refine Z3 ?_
 exact Tm ((k1,z1,x30,x31,x32,x33,x34,x35,x36,x37,x38,v10,b7,v11)) ⟨H,ls⟩
 refine Z6 ?_
 exact Tm ((x21,x22,x23,x24,x25,x26,x27,x28,x29,v8,b6,v9)) (ij H)
 clear H;intro i hi;obtain⟨x1,x2,x3,x4,x5,x6,x7,x8,x9,v4,b4,v5⟩:=i;subst o1;have H:=Hr1;clear Hr1;try dsimp only at H
 try dsimp only
 refine aD 3 rfl (fun hc_v4=>?_)
 refine aD 4 rfl (fun hc_v5=>?_)
 apply cB (ods:=[_,_,_,_,_,_,_,_,_]) 9 0 5 bZ rfl rfl rfl
 refine ND ?_
 refine M1 ?_
 intros
 refine Mo 2 rfl (aBp rfl hh sM) fun _=>?_
 refine M7 ?_
 intros
 revert H;refine B1 fun y18 h24 H=>?_
 rcases y18 with y18 | pv13 <;> dsimp only at H
 refine Tc (aO _ _ h24).s ?_
 refine Z1 ?_
 refine aR ?_
 refine cG ?_
 refine aY ?_
 refine aR ?_
 refine aY ?_
 refine bI ?_
 refine cD (x:=(⟨(⟨x1,x2,x3,x4⟩:CodeProg),x5,x6,x7,x8⟩:Code_checker)) ?_
 cases H
 refine fM ?_
 refine aE [0] (by decide) ?_
 exact eX (.inr rfl) rfl rfl
 refine Tp (aO _ _ h24).pan ?_
 cases H
 exact bB
 exact fk
 kernel_rfl
def tE (a0:List Int):Option (List Int):=
 (cN (([]:List Int)++a0)).bind fun z1=>
 some z1
theorem aG0  (a0:List Int) (r:List Int) (H:tE a0=some r):FnS Tryz.prog 41 [fSl tI a0] [] fS (fun v=>[(fun v=>aB v 3 tI r) v]):=by
 unfold tE at H
 refine dN Tryz.func41 rfl Tryz.ntmps41 rfl (fun β=>?_)
 refine Z3 ?_
 refine aW ?_
 refine Z2 ?_
 refine Yy (aCv rfl hh (us rfl)) ?_
 refine Z1 ?_
 refine aED (has rfl) (fun hx=>?_) ?_
 replace H:some ([]:List Int)=some r:=by subst hx;exact H
 refine Z4 ?_
 refine fK tI 3 ?_
 cases H
 exact uZ rfl (iZ rfl) (fun _ _ _=>trivial) rfl
 refine Z3 ?_
 refine Tn (iH (t:=tI) (xs:=([]:List Int)) rfl (et rfl) cS.nil rfl rfl rfl) fun b1=>?_
 generalize (Value.slice (some ⟨b1,0,none⟩) _ _)=v1
 refine aD 0 rfl (fun hc_v1=>?_)
 revert H;refine B1 fun z1 h1 H=>?_
 refine aCd (ys:=a0) trivial rfl rfl rfl (has rfl) (has rfl) (et rfl) rfl h1 (fun v2=>?_)
 refine aD 0 rfl (fun hc_v2=>?_)
 refine Z3 ?_
 cases H
 exact uZ rfl (iZ rfl) (fun _ _ _=>trivial) rfl
def rW (a0:Int):Option (Bool):=
 (if a0=13 then
  some true
 else
  some (decide (a0=15))).bind fun x1=>
 some x1
theorem aFH  (a0:Int) (r:Bool) (H:rW a0=some r):FnS Tryz.prog 39 [fI a0] [] (aS r) (fun _=>[]):=by
 unfold rW at H
 refine dN Tryz.func39 rfl Tryz.ntmps39 rfl (fun β=>?_)
 revert H;refine B3 fun o1 H Hr1=>?_
 refine bD (ι:=Bool) (fun i=>o1=i) (fun i=>[(2,aS i)]) (fun i=>[]) ?_ ?_
 revert H;refine I4 (fun c1 H=>?_) fun c1 H=>?_
 refine Z5 ?_
 exact Tm (true) (ij H)
 refine Z5 ?_
 exact Tm (decide (a0=15)) (ij H)
 clear H;intro x1 hi;subst o1;have H:=Hr1;clear Hr1;try dsimp only at H
 try dsimp only
 refine Z1 ?_
 cases H
 exact To
open Go.SX Go.SW
def sortRen:Go.Shelf.Ren:=⟨fun x=>match x with
 | 189=>84 | 125=>127 | 257=>126 | 128=>151 | 129=>152
 | 294=>142 | 295=>143 | 296=>144 | 297=>145 | 298=>146
 | 299=>147 | 216=>148 | 300=>149 | 301=>150 | 328=>163
 | 329=>164 | 330=>165 | 331=>166 | 332=>167 | 215=>168 | 343=>180
 | n=>n,fun x=>match x with
 | 28=>40 | 3=>3 | 46=>208 | 0=>0 | 51=>230 | 53=>232 | 4=>4 | 183=>222 | 182=>221 | 131=>227 | 5=>5 | 9=>9
 | 218=>243 | 222=>247 | 228=>265 | 229=>266
 | n=>n,fun x=>x⟩
theorem aDN:Go.Proofs.Lays.n189 Tryz.prog sortRen:=by constructor <;> first | kernel_rfl | (intro w;kernel_rfl)
def compRen:Go.Shelf.Ren:=⟨fun x=>match x with | 20=>118 | n=>n,fun x=>match x with | 0=>0 | 3=>3 | 4=>4 | 22=>40 | n=>n,fun x=>x⟩
theorem aDX:Go.Proofs.Lays2.n20 Tryz.prog compRen:=by constructor <;> first | kernel_rfl | (intro w;kernel_rfl)
theorem heap_row {w:World} {b n:Nat} {c:Array Value} {e:TypeId} {f:Array Value → Array Value} {os:Array Obj} (h:w.heap[b]? =some (.cells c e (0,0))):
 (Go.Sort.grow (Go.Sort.mapBlock (Go.Sort.ahead w n) b f) os).heap[b]? =some (.cells (f c) e (0,0)) ∧ ∀ k,k≠b → k<w.heap.size → (Go.Sort.grow (Go.Sort.mapBlock (Go.Sort.ahead w n) b f) os).heap[k]? =w.heap[k]?:=by
 have hb:b<w.heap.size:=(Array.getElem?_eq_some_iff.1 h).1
 constructor
 ·simp only [Go.Sort.grow,Go.Sort.mapBlock,Go.Sort.ahead];rw [Array.getElem?_append_left (by simpa using hb),Array.getElem?_modify,if_pos rfl,h];rfl
 ·intro k hk hk2;simp only [Go.Sort.grow,Go.Sort.mapBlock,Go.Sort.ahead];rw [Array.getElem?_append_left (by simpa using hk2),Array.getElem?_modify,if_neg (fun e=>hk e.symm)]
theorem st_row {w:World} {m:Mem} {b n:Nat} {c:Array Value} {e:TypeId} {f:Array Value → Array Value} {os:Array Obj} (hS:St ⟨w,m,[b]⟩ m [(b, .cells c e (0,0))] w):
 St ⟨w,m,[b]⟩ m [(b, .cells (f c) e (0,0))] (Go.Sort.grow (Go.Sort.mapBlock (Go.Sort.ahead w n) b f) os):=by
 obtain⟨h1,h2⟩:=heap_row (n:=n) (f:=f) (os:=os) (hS.own _ (.head _))
 have hm:m b=none:=hS.apart _ (.head _)
 refine⟨fun k o hk=>?_,fun x hx=>?_,fun x hx=>?_,by simp,hS.mle,fun k hk=>absurd rfl hk,fun x hx _=>?_,?_,fun k hk hf=>h2 k (fun e=>hf (by simp [e])) hk,rfl,rfl,rfl⟩
 ·have h3:=hS.mem k o hk;rw [h2 k (fun e=>by subst e;rw [hm]at hk;cases hk) (Array.getElem?_eq_some_iff.1 h3).1];exact h3
 ·cases hx with
  | head=>exact h1
  | tail _ h=>cases h
 ·cases hx with
  | head=>exact hm
  | tail _ h=>cases h
 ·cases hx with
  | head=>exact .head _
  | tail _ h=>cases h
 ·simp [Go.Sort.grow,Go.Sort.mapBlock,Go.Sort.ahead]
theorem aDI {m:Mem}:∀ {xs:List Int} {cs:List Value},aQ (xs.flatMap (dL .i64).leafs) m cs → cs=xs.map (.int .i64)
 | [],_,h=>by
  have h:_=[]:=h;rw [h];rfl
 | x :: xs,_,h=>by
  obtain⟨v,r,rfl,h1,h2⟩:=h;have h1:v= .int .i64 x:=h1;rw [h1,aDI h2];rfl
theorem aDS {m:Mem}:∀ {xs:List Int},aQ (xs.flatMap (dL .i64).leafs) m (xs.map (.int .i64))
 | []=>rfl
 | x :: xs=>⟨_,_,rfl,rfl,aDS⟩
theorem aCL {m:Mem} {L:Heap} {v:Value} {xs:List Int} (h:aV [aB v 3 (dL .i64) xs] m L):xs.length ≤ 1000000000 ∧ ((v= .slice none 0 0 ∧ xs=[] ∧ L=[]) ∨
 ∃ b c cap,v= .slice (some ⟨b,0,none⟩) xs.length cap ∧ L=[(b, .cells c 3 (0,0))] ∧ c.size=cap ∧ xs.length ≤ cap ∧ c.toList.take xs.length=xs.map (.int .i64)):=by
 obtain⟨H,R,rfl,⟨cs,h1,h2,h3⟩,hR⟩:=h
 have hR:R=[]:=hR
 subst hR
 have e:=aDI h3
 subst e
 refine⟨h2,?_⟩
 rcases h1.2 with⟨rfl,h4,rfl⟩ | ⟨b,c,cap,rfl,rfl,h4,h5,h6⟩
 ·exact .inl ⟨rfl,List.eq_nil_of_length_eq_zero h4,rfl⟩
 ·exact .inr ⟨b,c,cap,rfl,rfl,by rw [h4];exact Nat.mul_one _,h5,by simpa using h6⟩
theorem row_of {m:Mem} {b cap:Nat} {c:Array Value} {xs:List Int} (h1:c.size=cap) (h2:xs.length ≤ cap) (h3:c.toList.take xs.length=xs.map (.int .i64)) (h4:xs.length ≤ 1000000000):
 (aB (.slice (some ⟨b,0,none⟩) xs.length cap) 3 (dL .i64) xs).p m [(b, .cells c 3 (0,0))]:=
 ⟨xs.map (.int .i64),⟨by simp [show(dL .i64).sz=1 from rfl], .inr ⟨b,c,cap,rfl,rfl,by rw [h1];exact(Nat.mul_one _).symm,h2,by simpa using h3⟩⟩,h4,aDS⟩
theorem aBP {w:World} {b:Nat} {c:Array Value} {e:TypeId} {xs:List Int} (h:w.heap[b]? =some (.cells c e (0,0))) (hx:c.toList.take xs.length=xs.map (.int .i64)):Go.Sort.Holds (Value.int .i64) w b 0 xs.toArray:=by
 intro j hj
 have hj:j<xs.length:=by simpa using hj
 refine⟨?_,by simp [World.frozen?,h]⟩
 have h1:c.toList[j]? =some (.int .i64 xs[j]):=by
  have h2:(c.toList.take xs.length)[j]? =some (.int .i64 xs[j]):=by rw [hx];simp [hj]
  rwa [List.getElem?_take,if_pos hj]at h2
 simp only [World.cell?,h,Nat.zero_add,Option.isSome_none,Bool.false_eq_true,if_false]
 rw [← Array.getElem?_toList,h1]
 congr 2
 simp [hj]
theorem aDK {c:Array Value} {ys:List Int} {k:Nat} (hk:k ≤ ys.length) (hc:ys.length ≤ c.size):(Go.Sort.putCells (Value.int .i64) 0 ys.toArray c).toList.take k=(ys.take k).map (.int .i64):=by
 apply List.ext_getElem?
 intro j
 rw [List.getElem?_take]
 split
 ·rename_i hj;simp only [Go.Sort.putCells,Array.getElem?_toList,Array.getElem?_mapIdx];have h1:j<c.size:=by omega
  have h2:j<ys.length:=by omega
  simp [h1,h2,hj]
 ·rename_i hj;rw [List.getElem?_eq_none];simp;omega
theorem aCt {c:Array Value} {ys:Array Int}:(Go.Sort.putCells (Value.int .i64) 0 ys c).size=c.size:=by simp [Go.Sort.putCells]
def bS (xs:List Int):List Int:=xs.mergeSort fun x y=>decide (x ≤ y)
def aCZ (a0:List Int):Option (List Int):=some (bS a0)
theorem aFO (p0:Value) (a0 r:List Int) (H:aCZ a0=some r):FnS Tryz.prog 84 [fEq p0] [aB p0 3 (dL .i64) a0] (dZ []) (fun _=>[aB p0 3 (dL .i64) r]):=by
 have H:bS a0=r:=Option.some.inj H
 subst H
 intro m L vs hv hL w hS
 obtain⟨v,_,rfl,hv1,hv2⟩:=hv
 have hv1:v=p0:=hv1
 have hv2:_=[]:=hv2
 subst hv1;subst hv2
 obtain⟨hB,⟨rfl,rfl,rfl⟩ | ⟨b,c,cap,rfl,rfl,h1,h2,h3⟩⟩:=aCL hL
 ·refine(Any.slices_Sort_int_none aDN none 0 w).mono ?_;rintro e w' ⟨rfl,rfl⟩
  have e0:bS []=[]:=by simp [bS]
  exact⟨m,[],hS,_,rfl,⟨[],rfl,rfl⟩,by rw [e0];exact hL⟩
 ·have hw:=hS.own _ (.head _);have hl:(bS a0).length=a0.length:=by simp [bS]
  refine(Any.slices_Sort_int aDN b 0 cap a0 w (aBP hw h3) (Array.getElem?_eq_some_iff.1 hw).1 (by omega)).mono ?_
  rintro e w' ⟨rfl,n,os,rfl⟩
  refine⟨m,_,st_row hS,_,rfl,⟨[],rfl,rfl⟩,_,[],(List.append_nil _).symm,?_,rfl⟩;rw [← hl];exact row_of (by rw [aCt,h1]) (by omega) (by
   have:=aDK (c:=c) (ys:=bS a0) (k:=(bS a0).length) (Nat.le_refl _) (by omega)
   rw [List.take_length]at this;exact this) (by omega)
def aD6 (a0:List Int):Option (List Int):=some (Go.Lib.compact a0)
theorem aGK (xs:List Int):(Go.Lib.compact xs).length ≤ xs.length:=by
 unfold Go.Lib.compact Go.Lib.compactUpTo
 rw [List.length_map]
 exact Nat.le_trans (List.length_filter_le _ _) (by simp)
theorem aFl (p0:Value) (a0 r:List Int) (H:aD6 a0=some r):FnS Tryz.prog 118 [fEq p0] [aB p0 3 (dL .i64) a0] (fSl (dL .i64) r) (fun _=>[]):=by
 have H:Go.Lib.compact a0=r:=Option.some.inj H
 subst H
 intro m L vs hv hL w hS
 obtain⟨v,_,rfl,hv1,hv2⟩:=hv
 have hv1:v=p0:=hv1
 have hv2:_=[]:=hv2
 subst hv1;subst hv2
 obtain⟨hB,⟨rfl,rfl,rfl⟩ | ⟨b,c,cap,rfl,rfl,h1,h2,h3⟩⟩:=aCL hL
 ·refine(Any.slices_Compact_int_empty aDX none 0 w).mono ?_;rintro e w' ⟨rfl,rfl⟩
  exact⟨m,[],hS,_,rfl,eM m _ rfl,rfl⟩
 ·have hw:=hS.own _ (.head _);have hl:=aGK a0;refine(Any.slices_Compact_int aDX b 0 cap a0 w (aBP hw h3) (by omega) h2).mono ?_
  rintro e w' ⟨rfl,n,rfl⟩
  rw [← Go.Sort.grow_empty (Go.Sort.putRow _ _ _ _ _)];have hS':=st_row (n:=n) (f:=Go.Sort.putCells (Value.int .i64) 0 (Go.Lib.compact a0++List.replicate (a0.length - (Go.Lib.compact a0).length) 0).toArray) (os:=#[]) hS;have hr:(aB (.slice (some ⟨b,0,none⟩) (Go.Lib.compact a0).length cap) 3 (dL .i64) (Go.Lib.compact a0)).p m [(b, .cells (Go.Sort.putCells (Value.int .i64) 0 (Go.Lib.compact a0++List.replicate (a0.length - (Go.Lib.compact a0).length) 0).toArray c) 3 (0,0))]:=
   row_of (by rw [aCt,h1]) (by omega) (by
    rw [aDK (by simp) (by simp;omega)];simp) (by omega)
  obtain⟨m',h4,h5,h6⟩:=pC (H:=[_]) (R:=[]) hS';exact⟨m',[],h5,_,rfl,jL m _ hr m' h4 h6,rfl⟩
open Go.SX Go.SW Go.Dt
def kT (y1:ScopeDef):Nat → (List Int) → Int → Option (List Int)
| 0,_,_=>none
| k+1,x10,x11=>
 if x11<(y1.Rules.length:Int)then
  (idx y1.Rules x11).bind fun y2=>
  (cN (x10++[y2.Node])).bind fun z1=>
  (chk (x11+1)).bind fun z2=>
  kT y1 k z1 z2
 else
  some x10
def lS (y1:ScopeDef):Nat → (List Int) → Int → Option (List Int)
| 0,_,_=>none
| k+1,x14,x15=>
 if x15<(y1.Spots.length:Int)then
  (idx y1.Spots x15).bind fun y3=>
  (cN (x14++[y3.Node])).bind fun z3=>
  (chk (x15+1)).bind fun z4=>
  lS y1 k z3 z4
 else
  some x14
def lD (fuel:Nat) (a0:CodeProg):Nat → (List Int) → Int → Option (List Int)
| 0,_,_=>none
| k+1,x4,x5=>
 if x5<(a0.Defs.length:Int)then
  ((idx a0.Defs x5).bind fun y1=>
  (kT y1 fuel x4 0).bind fun x7=>
  lS y1 fuel x7 0).bind fun x6=>
  (chk (x5+1)).bind fun z5=>
  lD fuel a0 k x6 z5
 else
  some x4
def lQ (a0:CodeProg):Nat → (List Int) → Int → Option (List Int)
| 0,_,_=>none
| k+1,x19,x20=>
 if x20<(a0.Code.length:Int)then
  ((idx a0.Code x20).bind fun y4=>
  (rW y4.Op).bind fun y5=>
  bif y5 then
   (cN (x19++[y4.B])).bind fun z6=>
   some z6
  else
   some x19).bind fun x21=>
  (chk (x20+1)).bind fun z7=>
  lQ a0 k x21 z7
 else
  some x19
def tB (fuel:Nat) (a0:CodeProg):Option (List Int):=
 (lD fuel a0 fuel [a0.Main] 0).bind fun x1=>
 (lQ a0 fuel x1 0).bind fun x16=>
 some x16
theorem aFY (fuel:Nat)  (a0:CodeProg) (r:List Int) (H:tB fuel a0=some r):FnS Tryz.prog 117 [fSt kK a0] [] fS (fun v=>[(fun v=>aB v 3 tI r) v]):=by
 unfold tB at H
 refine dN Tryz.func117 rfl Tryz.ntmps117 rfl (fun β=>?_)
 refine Z1 ?_
 refine Tn (dO rfl hh cO) fun b1=>?_
 refine Z5 ?_
 refine Tn (iH (t:=tI) (xs:=[a0.Main]) rfl (et rfl) (cS.cons rfl (has rfl) (dJ (aG trivial)) cS.nil) rfl rfl rfl) fun b2=>?_
 generalize (Value.slice (some ⟨b2,0,none⟩) _ _)=v1
 refine aD 0 rfl (fun hc_v1=>?_)
 revert H;refine B2 fun o1 H Hr1=>?_
 refine bD (ι:=List Int × Value) (fun i=>o1=i.1) (fun i=>[(1,fEq (ptr b1)),(3,fEq i.2)]) (fun i=>[aA b1 25 [fI a0.Free,fSl aF a0.Defs,fSl aJ a0.Code,fI a0.Main],aB i.2 3 tI i.1]) ?_ ?_
 refine Z7 ?_
 refine aE [1,0] (by decide) ?_
 refine Tl (ι:=Nat × List Int × Int × Value) (fun i=>lD fuel a0 i.1 i.2.1 i.2.2.1=_) (fun i=>i.1) (fun i=>[(1,fEq (ptr b1)),(3,fEq i.2.2.2),(16,fSl aF a0.Defs),(17,fI (a0.Defs.length:Int)),(18,fI i.2.2.1)]) (fun i=>[aA b1 25 [fI a0.Free,fSl aF a0.Defs,fSl aJ a0.Code,fI a0.Main],aB i.2.2.2 3 tI i.2.1]) (fuel,[a0.Main],0,v1) H ?_
 clear H;rintro⟨k1,x4,x5,v4⟩ H
 replace H:lD fuel a0 k1 x4 x5=_:=H
 try dsimp only
 obtain _ | k1:=k1
 rw [lD]at H;cases H
 rw [lD]at H
 refine aD 1 rfl (fun hc_v4=>?_)
 refine Z3 ?_
 refine aW ?_
 revert H;refine is (fun c1 H=>?_) fun c1 H=>?_
 revert H;refine B3 fun o2 H Hr2=>?_
 refine bD (ι:=List Int × Value) (fun i=>o2=i.1) (fun i=>[(1,fEq (ptr b1)),(3,fEq i.2),(16,fSl aF a0.Defs),(17,fI (a0.Defs.length:Int)),(18,fI x5)]) (fun i=>[aA b1 25 [fI a0.Free,fSl aF a0.Defs,fSl aJ a0.Code,fI a0.Main],aB i.2 3 tI i.1]) ?_ ?_
 revert H;refine B2 fun y1 h1 H=>?_
 refine Z2 ?_
 refine Tn (cM rfl rU rfl) fun b3=>?_
 refine cU (φs':=[fSl dA y1.Chans,fSl cL y1.Spots,fSl bW y1.Rules]) trivial rfl rfl (has rfl) (has rfl) (aM (cR) (aM (cR) (aM (cR) bO))) (sz rfl) rfl rfl rfl ?_
 revert H;refine B1 fun o3 H Hr3=>?_
 refine bD (ι:=List Int × Value) (fun i=>o3=i.1) (fun i=>[(1,fEq (ptr b1)),(3,fEq i.2),(16,fSl aF a0.Defs),(17,fI (a0.Defs.length:Int)),(18,fI x5),(5,fEq (ptr b3))]) (fun i=>[aA b3 63 [fSl dA y1.Chans,fSl cL y1.Spots,fSl bW y1.Rules],aA b1 25 [fI a0.Free,fSl aF a0.Defs,fSl aJ a0.Code,fI a0.Main],aB i.2 3 tI i.1]) ?_ ?_
 refine Z7 ?_
 refine Tl (ι:=Nat × List Int × Int × Value) (fun i=>kT y1 i.1 i.2.1 i.2.2.1=_) (fun i=>i.1) (fun i=>[(1,fEq (ptr b1)),(3,fEq i.2.2.2),(16,fSl aF a0.Defs),(17,fI (a0.Defs.length:Int)),(18,fI x5),(5,fEq (ptr b3)),(23,fSl bW y1.Rules),(24,fI (y1.Rules.length:Int)),(25,fI i.2.2.1)]) (fun i=>[aA b3 63 [fSl dA y1.Chans,fSl cL y1.Spots,fSl bW y1.Rules],aA b1 25 [fI a0.Free,fSl aF a0.Defs,fSl aJ a0.Code,fI a0.Main],aB i.2.2.2 3 tI i.2.1]) (fuel,x4,0,v4) H ?_
 clear H;rintro⟨k2,x10,x11,v8⟩ H
 replace H:kT y1 k2 x10 x11=_:=H
 try dsimp only
 obtain _ | k2:=k2
 rw [kT]at H;cases H
 rw [kT]at H
 refine aD 2 rfl (fun hc_v8=>?_)
 refine Z3 ?_
 refine aW ?_
 revert H;refine is (fun c2 H=>?_) fun c2 H=>?_
 refine Z3 ?_
 refine aW ?_
 revert H;refine B2 fun y2 h2 H=>?_
 refine Z2 ?_
 refine Tn (cM rfl aAU rfl) fun b4=>?_
 refine cU (φs':=[fI y2.At,fSl tI y2.Joins,fI y2.Node]) trivial rfl rfl (has rfl) (has rfl) (aM (aG trivial) (aM (cR) (aM (aG trivial) bO))) (sz rfl) rfl rfl rfl ?_
 refine Z5 ?_
 refine Tn (iH (t:=tI) (xs:=[y2.Node]) rfl (et rfl) (cS.cons rfl (has rfl) (dJ (aG trivial)) cS.nil) rfl rfl rfl) fun b5=>?_
 generalize (Value.slice (some ⟨b5,0,none⟩) _ _)=v9
 refine aD 0 rfl (fun hc_v9=>?_)
 revert H;refine bs fun z1 h3 H=>?_
 refine aY ?_
 refine aR ?_
 refine nN trivial rfl rfl rfl (has rfl) (has rfl) (et rfl) rfl h3 (fun v10=>?_)
 refine aD 0 rfl (fun hc_v10=>?_)
 revert H;refine B5 fun z2 h4 H=>?_
 refine Z3 ?_
 refine aE [2,3,0] (by decide) ?_
 exact Tm ((k2,z1,z2,v10)) ⟨H,ls⟩
 refine Z6 ?_
 exact Tm ((x10,v8)) (ij H)
 clear H;intro i hi;obtain⟨x7,v6⟩:=i;subst o3;have H:=Hr3;clear Hr3;try dsimp only at H
 try dsimp only
 refine aD 2 rfl (fun hc_v6=>?_)
 refine Z7 ?_
 refine Tl (ι:=Nat × List Int × Int × Value) (fun i=>lS y1 i.1 i.2.1 i.2.2.1=_) (fun i=>i.1) (fun i=>[(1,fEq (ptr b1)),(3,fEq i.2.2.2),(16,fSl aF a0.Defs),(17,fI (a0.Defs.length:Int)),(18,fI x5),(36,fSl cL y1.Spots),(37,fI (y1.Spots.length:Int)),(38,fI i.2.2.1)]) (fun i=>[aA b3 63 [fSl dA y1.Chans,fSl cL y1.Spots,fSl bW y1.Rules],aA b1 25 [fI a0.Free,fSl aF a0.Defs,fSl aJ a0.Code,fI a0.Main],aB i.2.2.2 3 tI i.2.1]) (fuel,x7,0,v6) H ?_
 clear H;rintro⟨k3,x14,x15,v12⟩ H
 replace H:lS y1 k3 x14 x15=_:=H
 try dsimp only
 obtain _ | k3:=k3
 rw [lS]at H;cases H
 rw [lS]at H
 refine aD 2 rfl (fun hc_v12=>?_)
 refine Z3 ?_
 refine aW ?_
 revert H;refine is (fun c3 H=>?_) fun c3 H=>?_
 refine Z3 ?_
 refine aW ?_
 revert H;refine B2 fun y3 h5 H=>?_
 refine Z2 ?_
 refine Tn (cM rfl wH rfl) fun b6=>?_
 refine cU (φs':=[fI y3.In,fI y3.Node]) trivial rfl rfl (has rfl) (has rfl) (aM (aG trivial) (aM (aG trivial) bO)) (sz rfl) rfl rfl rfl ?_
 refine Z5 ?_
 refine Tn (iH (t:=tI) (xs:=[y3.Node]) rfl (et rfl) (cS.cons rfl (has rfl) (dJ (aG trivial)) cS.nil) rfl rfl rfl) fun b7=>?_
 generalize (Value.slice (some ⟨b7,0,none⟩) _ _)=v13
 refine aD 0 rfl (fun hc_v13=>?_)
 revert H;refine bs fun z3 h6 H=>?_
 refine aY ?_
 refine aR ?_
 refine nN trivial rfl rfl rfl (has rfl) (has rfl) (et rfl) rfl h6 (fun v14=>?_)
 refine aD 0 rfl (fun hc_v14=>?_)
 revert H;refine B5 fun z4 h7 H=>?_
 refine Z3 ?_
 refine aE [2,3,0] (by decide) ?_
 exact Tm ((k3,z3,z4,v14)) ⟨H,ls⟩
 refine Z7 ?_
 refine aE [1,2] (by decide) ?_
 exact Tm ((x14,v12)) (ij H)
 clear H;intro i hi;obtain⟨x6,v5⟩:=i;subst o2;have H:=Hr2;clear Hr2;try dsimp only at H
 try dsimp only
 refine aD 1 rfl (fun hc_v5=>?_)
 revert H;refine B1 fun z5 h8 H=>?_
 refine Z3 ?_
 exact Tm ((k1,x6,z5,v5)) ⟨H,ls⟩
 refine Z6 ?_
 exact Tm ((x4,v4)) (ij H)
 clear H;intro i hi;obtain⟨x1,v2⟩:=i;subst o1;have H:=Hr1;clear Hr1;try dsimp only at H
 try dsimp only
 refine aD 1 rfl (fun hc_v2=>?_)
 revert H;refine bs fun o4 H Hr4=>?_
 refine bD (ι:=List Int × Value) (fun i=>o4=i.1) (fun i=>[(3,fEq i.2)]) (fun i=>[aA b1 25 [fI a0.Free,fSl aF a0.Defs,fSl aJ a0.Code,fI a0.Main],aB i.2 3 tI i.1]) ?_ ?_
 refine Z7 ?_
 refine Tl (ι:=Nat × List Int × Int × Value) (fun i=>lQ a0 i.1 i.2.1 i.2.2.1=_) (fun i=>i.1) (fun i=>[(3,fEq i.2.2.2),(50,fSl aJ a0.Code),(51,fI (a0.Code.length:Int)),(52,fI i.2.2.1)]) (fun i=>[aA b1 25 [fI a0.Free,fSl aF a0.Defs,fSl aJ a0.Code,fI a0.Main],aB i.2.2.2 3 tI i.2.1]) (fuel,x1,0,v2) H ?_
 clear H;rintro⟨k4,x19,x20,v17⟩ H
 replace H:lQ a0 k4 x19 x20=_:=H
 try dsimp only
 obtain _ | k4:=k4
 rw [lQ]at H;cases H
 rw [lQ]at H
 refine aD 1 rfl (fun hc_v17=>?_)
 refine Z3 ?_
 refine aW ?_
 revert H;refine is (fun c4 H=>?_) fun c4 H=>?_
 revert H;refine B3 fun o5 H Hr5=>?_
 refine bD (ι:=List Int × Value) (fun i=>o5=i.1) (fun i=>[(50,fSl aJ a0.Code),(51,fI (a0.Code.length:Int)),(52,fI x20),(3,fEq i.2)]) (fun i=>[aA b1 25 [fI a0.Free,fSl aF a0.Defs,fSl aJ a0.Code,fI a0.Main],aB i.2 3 tI i.1]) ?_ ?_
 revert H;refine B2 fun y4 h9 H=>?_
 refine Z2 ?_
 refine Tn (cM rfl xH rfl) fun b8=>?_
 refine cU (φs':=[fI y4.Op,fI y4.A,fI y4.B]) trivial rfl rfl (has rfl) (has rfl) (aM (aG trivial) (aM (aG trivial) (aM (aG trivial) bO))) (sz rfl) rfl rfl rfl ?_
 revert H;refine B4 fun y5 h10 H=>?_
 refine Tc (aFH _ _ h10) ?_
 refine Z1 ?_
 revert H;refine cs (fun c5 H=>?_) fun c5 H=>?_
 refine Z5 ?_
 refine Tn (iH (t:=tI) (xs:=[y4.B]) rfl (et rfl) (cS.cons rfl (has rfl) (dJ (aG trivial)) cS.nil) rfl rfl rfl) fun b9=>?_
 generalize (Value.slice (some ⟨b9,0,none⟩) _ _)=v19
 refine aD 0 rfl (fun hc_v19=>?_)
 revert H;refine bs fun z6 h11 H=>?_
 refine bI ?_
 refine aR ?_
 refine nN trivial rfl rfl rfl (has rfl) (has rfl) (et rfl) rfl h11 (fun v20=>?_)
 refine aD 0 rfl (fun hc_v20=>?_)
 refine Z4 ?_
 refine aE [2,0] (by decide) ?_
 exact Tm ((z6,v20)) (ij H)
 refine Z4 ?_
 refine aE [1,2] (by decide) ?_
 exact Tm ((x19,v17)) (ij H)
 clear H;intro i hi;obtain⟨x21,v18⟩:=i;subst o5;have H:=Hr5;clear Hr5;try dsimp only at H
 try dsimp only
 refine aD 1 rfl (fun hc_v18=>?_)
 revert H;refine B1 fun z7 h12 H=>?_
 refine Z3 ?_
 exact Tm ((k4,x21,z7,v18)) ⟨H,ls⟩
 refine Z6 ?_
 exact Tm ((x19,v17)) (ij H)
 clear H;intro i hi;obtain⟨x16,v15⟩:=i;subst o4;have H:=Hr4;clear Hr4;try dsimp only at H
 try dsimp only
 refine aD 1 rfl (fun hc_v15=>?_)
 refine Z5 ?_
 cases H
 refine aE [1] (by decide) ?_
 exact uZ rfl (iZ rfl) (fun _ _ _=>trivial) rfl
def jY (a0:Code_checker):Nat → Int → Option (Int)
| 0,_=>none
| k+1,x13=>
 if x13<(a0.CodeProg.Code.length:Int)then
  (idx a0.CodeProg.Code x13).bind fun y9=>
  if y9.Op≠16 then
   (chk (x13+1)).bind fun z1=>
   jY a0 k z1
  else
   some x13
 else
  some x13
def kW (x11:Int):Nat → Int → (List Int) → Option (List Int)
| 0,_,_=>none
| k+1,x17,x18=>
 if x17 ≤ x11 then
  (idx x18 x17).bind fun y11=>
  (chk (x17+1)).bind fun z2=>
  kW x11 k z2 (x18.set x17.toNat x11)
 else
  some x18
def iW (fuel:Nat) (a0:Code_checker) (y2:List Int):Nat → Int → Int → (List Int) → Option ((Int × List Int) ⊕ (Code_checker ⊕ Value))
| 0,_,_,_=>none
| k+1,x6,x7,x8=>
 if x7<(y2.length:Int)then
  ((idx y2 x7).bind fun y7=>
  (bJ (decide (y7=x6))).bind fun y8=>
  match y8 with
  | Sum.inr pv2=>((some (Sum.inr pv2)).bind fun r=>some (Sum.inr r)).bind fun r=>some (Sum.inr r)
  | Sum.inl y8=>
  (jY a0 fuel x6).bind fun x11=>
  (bJ (decide (x11<(a0.CodeProg.Code.length:Int)))).bind fun y10=>
  match y10 with
  | Sum.inr pv3=>((some (Sum.inr pv3)).bind fun r=>some (Sum.inr r)).bind fun r=>some (Sum.inr r)
  | Sum.inl y10=>
  (kW x11 fuel y7 x8).bind fun x14=>
  (chk (x11+1)).bind fun z3=>
  some (Sum.inl (z3,x14))).bind fun o=>match o with
  | Sum.inr r=>some r
  | Sum.inl (x9,x10)=>
  (chk (x7+1)).bind fun z4=>
  iW fuel a0 y2 k x9 z4 x10
 else
  some (Sum.inl (x6,x8))
def kN (fuel:Nat) (a0:Code_checker):Option (Code_checker ⊕ Value):=
 (tB fuel (⟨a0.CodeProg.Free,a0.CodeProg.Defs,a0.CodeProg.Code,a0.CodeProg.Main⟩:CodeProg)).bind fun y1=>
 (aCZ y1).bind fun y2=>
 (tE y2).bind fun y3=>
 (aD6 y3).bind fun y4=>
 (bJ (decide ((y4.length:Int)=(y2.length:Int)))).bind fun y5=>
 match y5 with
 | Sum.inr pv1=>some (Sum.inr pv1)
 | Sum.inl y5=>
 (mk 0 (a0.CodeProg.Code.length:Int)).bind fun y6=>
 (iW fuel a0 y2 fuel 0 0 y6).bind fun o=>match o with
 | Sum.inr r=>some r
 | Sum.inl (x1,x2)=>
 (bJ (decide (x1=(a0.CodeProg.Code.length:Int)))).bind fun y12=>
 match y12 with
 | Sum.inr pv4=>some (Sum.inr pv4)
 | Sum.inl y12=>
 some (Sum.inl (⟨(⟨a0.CodeProg.Free,a0.CodeProg.Defs,a0.CodeProg.Code,a0.CodeProg.Main⟩:CodeProg),y2,x2,a0.levels,a0.todo⟩:Code_checker))
theorem aEc (fuel:Nat) (p0:Nat) (a0:Code_checker) (r:Code_checker ⊕ Value) (H:kN fuel a0=some r):FnE Tryz.prog 73 [fEq (.pointer (some ⟨p0,0,none⟩))] [cX p0 a0] r (fun r=>dZ []) (fun r=>[cX p0 r]):=by
 unfold kN at H
 refine gU Tryz.func73 rfl Tryz.ntmps73 rfl (fun β=>?_)
 refine cY (fun v1 v2 v3=>?_)
 refine aT ?_
 refine cW (fun b1 h1=>?_);subst h1
 refine aD 2 rfl (fun hc_v1=>?_)
 refine aD 3 rfl (fun hc_v3=>?_)
 revert H;refine B5 fun y1 h2 H=>?_
 refine aBi trivial rfl rfl rfl (has rfl) (aK.cons (has rfl) aK.nil) rfl (cb rfl) (aFY fuel (⟨a0.CodeProg.Free,a0.CodeProg.Defs,a0.CodeProg.Code,a0.CodeProg.Main⟩:CodeProg) y1 h2) (Δi:=[]) rfl (fun v4=>?_)
 dsimp only [List.append,List.cons_append,List.nil_append]
 refine aD 0 rfl (fun hc_v4=>?_)
 revert H;refine B4 fun y2 h3 H=>?_
 refine Tc (aFO _ _ _ h3) ?_
 refine Z3 ?_
 refine kF (φ:=fSl tI y2) (v:=v4) [11,2,12,14] jL fz ?_
 refine jS ?_
 revert H;refine bs fun y3 h4 H=>?_
 refine aBi trivial rfl rfl rfl (has rfl) (aK.cons (has rfl) aK.nil) rfl (cb rfl) (aG0 y2 y3 h4) (Δi:=[]) rfl (fun v5=>?_)
 dsimp only [List.append,List.cons_append,List.nil_append]
 refine aD 0 rfl (fun hc_v5=>?_)
 revert H;refine bs fun y4 h5 H=>?_
 refine Tc (aFl _ _ _ h5) ?_
 revert H;refine B4 fun y5 h6 H=>?_
 rcases y5 with y5 | pv1 <;> dsimp only at H
 refine Tc (aO _ _ h6).s ?_
 revert H;refine B9 fun y6 h7 H=>?_
 refine Tn (aAD (t:=tI) (z:=0) rfl hh (et rfl) rfl ty_ze_3 rfl h7) fun b2=>?_
 generalize (Value.slice (some ⟨b2,0,none⟩) _ _)=v6
 refine aD 0 rfl (fun hc_v6=>?_)
 refine Z2 ?_
 refine aT ?_
 refine cF (φs':=[fI a0.CodeProg.Free,fSl aF a0.CodeProg.Defs,fSl aJ a0.CodeProg.Code,fI a0.CodeProg.Main,fSl tI a0.begins,fEq v6,fEq (.map (some b1)),fEq v3]) trivial rfl rfl (has rfl) (has rfl) (aG hc_v6) (sz rfl) rfl rfl ?_
 revert H;refine B4 fun o1 H Hr1=>?_
 refine bD (ι:=Int × List Int) (fun i=>o1=Sum.inl (i.1,i.2)) (fun i=>[(0,fEq (ptr p0)),(2,fSl tI y2),(3,fI i.1)]) (fun i=>[aA p0 90 [fI a0.CodeProg.Free,fSl aF a0.CodeProg.Defs,fSl aJ a0.CodeProg.Code,fI a0.CodeProg.Main,fSl tI a0.begins,fEq v6,fEq (.map (some b1)),fEq v3],bC aZ (fun y=>fSt bG y) b1 a0.levels,aB v6 3 tI i.2,aB v3 3 tI a0.todo]) ?_ ?_
 refine Z6 ?_
 refine aE [0,2,1,4] (by decide) ?_
 refine Tl (ι:=Nat × Int × Int × List Int) (fun i=>iW fuel a0 y2 i.1 i.2.1 i.2.2.1 i.2.2.2=_) (fun i=>i.1) (fun i=>[(0,fEq (ptr p0)),(2,fSl tI y2),(3,fI i.2.1),(32,fSl tI y2),(33,fI (y2.length:Int)),(34,fI i.2.2.1)]) (fun i=>[aA p0 90 [fI a0.CodeProg.Free,fSl aF a0.CodeProg.Defs,fSl aJ a0.CodeProg.Code,fI a0.CodeProg.Main,fSl tI a0.begins,fEq v6,fEq (.map (some b1)),fEq v3],bC aZ (fun y=>fSt bG y) b1 a0.levels,aB v6 3 tI i.2.2.2,aB v3 3 tI a0.todo]) (fuel,0,0,y6) H ?_
 clear H;rintro⟨k1,x6,x7,x8⟩ H
 replace H:iW fuel a0 y2 k1 x6 x7 x8=_:=H
 try dsimp only
 obtain _ | k1:=k1
 rw [iW]at H;cases H
 rw [iW]at H
 refine Z3 ?_
 refine aW ?_
 revert H;refine is (fun c1 H=>?_) fun c1 H=>?_
 revert H;refine B3 fun o2 H Hr2=>?_
 refine bD (ι:=Int × List Int) (fun i=>o2=Sum.inl (i.1,i.2)) (fun i=>[(0,fEq (ptr p0)),(2,fSl tI y2),(3,fI i.1),(32,fSl tI y2),(33,fI (y2.length:Int)),(34,fI x7)]) (fun i=>[aA p0 90 [fI a0.CodeProg.Free,fSl aF a0.CodeProg.Defs,fSl aJ a0.CodeProg.Code,fI a0.CodeProg.Main,fSl tI a0.begins,fEq v6,fEq (.map (some b1)),fEq v3],bC aZ (fun y=>fSt bG y) b1 a0.levels,aB v6 3 tI i.2,aB v3 3 tI a0.todo]) ?_ ?_
 revert H;refine B2 fun y7 h8 H=>?_
 revert H;refine B8 fun y8 h9 H=>?_
 rcases y8 with y8 | pv2 <;> dsimp only at H
 refine Tc (aO _ _ h9).s ?_
 revert H;refine B1 fun o3 H Hr3=>?_
 refine bD (ι:=Int) (fun i=>o3=i) (fun i=>[(0,fEq (ptr p0)),(2,fSl tI y2),(3,fI i),(32,fSl tI y2),(33,fI (y2.length:Int)),(34,fI x7),(5,fI y7)]) (fun i=>[aA p0 90 [fI a0.CodeProg.Free,fSl aF a0.CodeProg.Defs,fSl aJ a0.CodeProg.Code,fI a0.CodeProg.Main,fSl tI a0.begins,fEq v6,fEq (.map (some b1)),fEq v3],bC aZ (fun y=>fSt bG y) b1 a0.levels,aB v6 3 tI x8,aB v3 3 tI a0.todo]) ?_ ?_
 refine Z1 ?_
 refine Tl (ι:=Nat × Int) (fun i=>jY a0 i.1 i.2=_) (fun i=>i.1) (fun i=>[(0,fEq (ptr p0)),(2,fSl tI y2),(3,fI i.2),(32,fSl tI y2),(33,fI (y2.length:Int)),(34,fI x7),(5,fI y7)]) (fun i=>[aA p0 90 [fI a0.CodeProg.Free,fSl aF a0.CodeProg.Defs,fSl aJ a0.CodeProg.Code,fI a0.CodeProg.Main,fSl tI a0.begins,fEq v6,fEq (.map (some b1)),fEq v3],bC aZ (fun y=>fSt bG y) b1 a0.levels,aB v6 3 tI x8,aB v3 3 tI a0.todo]) (fuel,x6) H ?_
 clear H;rintro⟨k2,x13⟩ H
 replace H:jY a0 k2 x13=_:=H
 try dsimp only
 obtain _ | k2:=k2
 rw [jY]at H;cases H
 rw [jY]at H
 refine aW ?_
 revert H;refine I10 (fun c2 H=>?_) fun c2 H=>?_
 revert H;refine B6 fun y9 h10 H=>?_
 revert H;refine I6 (fun c3 H=>?_) fun c3 H=>?_
 revert H;refine B6 fun z1 h11 H=>?_
 refine Z5 ?_
 exact Tm ((k2,z1)) ⟨H,ls⟩
 refine Z6 ?_
 exact Tm (x13) (ij H)
 refine Z12 ?_
 refine Z6 ?_
 exact Tm (x13) (ij H)
 clear H;intro x11 hi;subst o3;have H:=Hr3;clear Hr3;try dsimp only at H
 try dsimp only
 revert H;refine B9 fun y10 h12 H=>?_
 rcases y10 with y10 | pv3 <;> dsimp only at H
 refine Tc (aO _ _ h12).s ?_
 revert H;refine B1 fun o4 H Hr4=>?_
 refine bD (ι:=List Int) (fun i=>o4=i) (fun i=>[(0,fEq (ptr p0)),(2,fSl tI y2),(3,fI x11),(32,fSl tI y2),(33,fI (y2.length:Int)),(34,fI x7)]) (fun i=>[aA p0 90 [fI a0.CodeProg.Free,fSl aF a0.CodeProg.Defs,fSl aJ a0.CodeProg.Code,fI a0.CodeProg.Main,fSl tI a0.begins,fEq v6,fEq (.map (some b1)),fEq v3],bC aZ (fun y=>fSt bG y) b1 a0.levels,aB v6 3 tI i,aB v3 3 tI a0.todo]) ?_ ?_
 refine Z5 ?_
 refine Tl (ι:=Nat × Int × List Int) (fun i=>kW x11 i.1 i.2.1 i.2.2=_) (fun i=>i.1) (fun i=>[(0,fEq (ptr p0)),(2,fSl tI y2),(3,fI x11),(32,fSl tI y2),(33,fI (y2.length:Int)),(34,fI x7),(6,fI i.2.1)]) (fun i=>[aA p0 90 [fI a0.CodeProg.Free,fSl aF a0.CodeProg.Defs,fSl aJ a0.CodeProg.Code,fI a0.CodeProg.Main,fSl tI a0.begins,fEq v6,fEq (.map (some b1)),fEq v3],bC aZ (fun y=>fSt bG y) b1 a0.levels,aB v6 3 tI i.2.2,aB v3 3 tI a0.todo]) (fuel,y7,x8) H ?_
 clear H;rintro⟨k3,x17,x18⟩ H
 replace H:kW x11 k3 x17 x18=_:=H
 try dsimp only
 obtain _ | k3:=k3
 rw [kW]at H;cases H
 rw [kW]at H
 refine aW ?_
 revert H;refine I5 (fun c4 H=>?_) fun c4 H=>?_
 refine Z3 ?_
 refine aW ?_
 revert H;refine B8 fun y11 h13 H=>?_
 refine Z1 ?_
 refine aT ?_
 refine aBn (z':=x11) trivial rfl rfl rfl (has rfl) (has rfl) (aG trivial) (sz rfl) (dU h13) rfl rfl ?_
 revert H;refine B5 fun z2 h14 H=>?_
 refine Z3 ?_
 refine aE [1,2,0,3] (by decide) ?_
 exact Tm ((k3,z2,x18.set x17.toNat x11)) ⟨H,ls⟩
 refine Z6 ?_
 exact Tm (x18) (ij H)
 clear H;intro x14 hi;subst o4;have H:=Hr4;clear Hr4;try dsimp only at H
 try dsimp only
 revert H;refine B2 fun z3 h15 H=>?_
 refine Z5 ?_
 exact Tm ((z3,x14)) (ij H)
 refine Tp (aO _ _ h12).pan ?_
 revert H;refine B3 fun r1 H e1=>?_
 cases e1;cases Hr2
 revert H;refine B3 fun r2 H e2=>?_
 cases e2;cases Hr1
 cases H
 exact bB
 refine Tp (aO _ _ h9).pan ?_
 revert H;refine B3 fun r3 H e3=>?_
 cases e3;cases Hr2
 revert H;refine B3 fun r4 H e4=>?_
 cases e4;cases Hr1
 cases H
 exact bB
 clear H;intro i hi;obtain⟨x9,x10⟩:=i;subst o2;have H:=Hr2;clear Hr2;try dsimp only at H
 try dsimp only
 revert H;refine B1 fun z4 h16 H=>?_
 refine Z3 ?_
 exact Tm ((k1,x9,z4,x10)) ⟨H,ls⟩
 refine Z6 ?_
 exact Tm ((x6,x8)) (ij H)
 clear H;intro i hi;obtain⟨x1,x2⟩:=i;subst o1;have H:=Hr1;clear Hr1;try dsimp only at H
 try dsimp only
 revert H;refine B9 fun y12 h17 H=>?_
 rcases y12 with y12 | pv4 <;> dsimp only at H
 refine Tc (aO _ _ h17).s ?_
 refine Z6 ?_
 refine cF (φs':=[fI a0.CodeProg.Free,fSl aF a0.CodeProg.Defs,fSl aJ a0.CodeProg.Code,fI a0.CodeProg.Main,fSl tI y2,fEq v6,fEq (.map (some b1)),fEq v3]) trivial rfl rfl (has rfl) (has rfl) (cR) (sz rfl) rfl rfl ?_
 refine Z1 ?_
 refine aR ?_
 refine cG ?_
 refine bI ?_
 refine aR ?_
 refine bI ?_
 refine bI ?_
 refine cD (x:=(⟨(⟨a0.CodeProg.Free,a0.CodeProg.Defs,a0.CodeProg.Code,a0.CodeProg.Main⟩:CodeProg),y2,x2,a0.levels,a0.todo⟩:Code_checker)) ?_
 cases H
 refine fM ?_
 exact eX (.inr rfl) rfl rfl
 refine Tp (aO _ _ h17).pan ?_
 refine Z1 ?_
 cases H
 exact bB
 refine Tp (aO _ _ h6).pan ?_
 refine Z1 ?_
 cases H
 exact bB
def jG (a0:Code_checker) (a1:Int) (a2:CodeLevel):Option (Code_checker ⊕ Value):=
 bif (a0.levels.get a1).isSome then
  (bJ (decide ((((a0.levels.get a1).getD (⟨0,0⟩:CodeLevel)).Stack)=a2.Stack) && decide ((((a0.levels.get a1).getD (⟨0,0⟩:CodeLevel)).Slots)=a2.Slots))).bind fun y1=>
  match y1 with
  | Sum.inr pv1=>some (Sum.inr pv1)
  | Sum.inl y1=>
  some (Sum.inl (⟨(⟨a0.CodeProg.Free,a0.CodeProg.Defs,a0.CodeProg.Code,a0.CodeProg.Main⟩:CodeProg),a0.begins,a0.last,a0.levels,a0.todo⟩:Code_checker))
 else
  (cN (a0.todo++[a1])).bind fun z1=>
  some (Sum.inl (⟨(⟨a0.CodeProg.Free,a0.CodeProg.Defs,a0.CodeProg.Code,a0.CodeProg.Main⟩:CodeProg),a0.begins,a0.last,aC.upd a0.levels a1 (⟨a2.Stack,a2.Slots⟩:CodeLevel),z1⟩:Code_checker))
theorem gN (p0:Nat) (a0:Code_checker) (a1:Int) (a2:CodeLevel) (r:Code_checker ⊕ Value) (H:jG a0 a1 a2=some r):FnE Tryz.prog 74 [fEq (.pointer (some ⟨p0,0,none⟩)),fI a1,fSt bG a2] [cX p0 a0] r (fun r=>dZ []) (fun r=>[cX p0 r]):=by
 unfold jG at H
 refine gU Tryz.func74 rfl Tryz.ntmps74 rfl (fun β=>?_)
 refine cY (fun v1 v2 v3=>?_)
 refine aT ?_
 refine cW (fun b1 h1=>?_);subst h1
 refine aD 2 rfl (fun hc_v1=>?_)
 refine aD 3 rfl (fun hc_v3=>?_)
 refine Z1 ?_
 refine Tn (dO rfl hh cO) fun b2=>?_
 refine Z1 ?_
 refine aW ?_
 refine Z6 ?_
 refine Yo 1 rfl (aFQ (zα:=(⟨0,0⟩:CodeLevel)) (k:=a1) rfl hh hh rfl sQ (rA [(.int .i64 0),(.int .i64 0)])) ?_
 refine Z3 ?_
 refine Tn (cM rfl zI rfl) fun b3=>?_
 refine cU (φs':=[fI (((a0.levels.get a1).getD (⟨0,0⟩:CodeLevel)).Stack),fI (((a0.levels.get a1).getD (⟨0,0⟩:CodeLevel)).Slots)]) trivial rfl rfl (has rfl) (has rfl) (aM (aG trivial) (aM (aG trivial) bO)) (sz rfl) rfl rfl rfl ?_
 refine Z5 ?_
 revert H;refine cs (fun c1 H=>?_) fun c1 H=>?_
 refine Z4 ?_
 refine Yy (o_eqSt2 (t:=bG) (u:=(⟨((a0.levels.get a1).getD (⟨0,0⟩:CodeLevel)).Stack,((a0.levels.get a1).getD (⟨0,0⟩:CodeLevel)).Slots⟩:CodeLevel)) (v:=(⟨a2.Stack,a2.Slots⟩:CodeLevel)) rfl hh hh rfl rfl aFi) ?_
 revert H;refine bs fun y1 h2 H=>?_
 rcases y1 with y1 | pv1 <;> dsimp only at H
 refine Tc (aO _ _ h2).s ?_
 refine Z2 ?_
 refine aT ?_
 refine cG ?_
 refine eZ ?_
 refine aR ?_
 refine eZ ?_
 refine eZ ?_
 refine cD (x:=(⟨(⟨a0.CodeProg.Free,a0.CodeProg.Defs,a0.CodeProg.Code,a0.CodeProg.Main⟩:CodeProg),a0.begins,a0.last,a0.levels,a0.todo⟩:Code_checker)) ?_
 cases H
 refine fM ?_
 refine aE [0] (by decide) ?_
 exact eX (.inl rfl) rfl rfl
 refine Tp (aO _ _ h2).pan ?_
 refine Z2 ?_
 cases H
 exact bB
 refine Z3 ?_
 refine aW ?_
 apply cB (ods:=[_,_,_,_,_,_]) 6 0 6 bZ rfl rfl rfl
 refine ND ?_
 refine M6 ?_
 intros
 refine Z1 ?_
 refine aT ?_
 refine aAu (k:=a1) (y:=(⟨a2.Stack,a2.Slots⟩:CodeLevel)) trivial (.inl rfl) rfl (has rfl) (has rfl) rfl (has rfl) rfl sQ ?_
 refine Z8 ?_
 refine Tn (iH (t:=tI) (xs:=[a1]) rfl (et rfl) (cS.cons rfl (has rfl) (dJ (aG trivial)) cS.nil) rfl rfl rfl) fun b4=>?_
 generalize (Value.slice (some ⟨b4,0,none⟩) _ _)=v4
 refine aD 0 rfl (fun hc_v4=>?_)
 revert H;refine bs fun z1 h3 H=>?_
 refine oN ?_
 refine aR ?_
 refine nN trivial rfl rfl rfl (has rfl) (has rfl) (et rfl) rfl h3 (fun v5=>?_)
 refine aD 0 rfl (fun hc_v5=>?_)
 refine Z2 ?_
 refine aY ?_
 refine cF (φs':=[fI a0.CodeProg.Free,fSl aF a0.CodeProg.Defs,fSl aJ a0.CodeProg.Code,fI a0.CodeProg.Main,fSl tI a0.begins,fEq v1,fEq (.map (some b1)),fEq v5]) trivial rfl rfl (has rfl) (has rfl) (aG hc_v5) (sz rfl) rfl rfl ?_
 refine Z1 ?_
 refine aT ?_
 refine cG ?_
 refine aT ?_
 refine aR ?_
 refine eZ ?_
 refine bI ?_
 refine cD (x:=(⟨(⟨a0.CodeProg.Free,a0.CodeProg.Defs,a0.CodeProg.Code,a0.CodeProg.Main⟩:CodeProg),a0.begins,a0.last,aC.upd a0.levels a1 (⟨a2.Stack,a2.Slots⟩:CodeLevel),z1⟩:Code_checker)) ?_
 cases H
 refine fM ?_
 refine aE [0] (by decide) ?_
 exact eX (.inr rfl) rfl rfl
 exact fk
 kernel_rfl
def kP (a0:CodeLevel) (a1:Int) (a2:Int):Option (CodeLevel ⊕ Value):=
 (bJ (decide (a1 ≤ a0.Stack))).bind fun y1=>
 match y1 with
 | Sum.inr pv1=>some (Sum.inr pv1)
 | Sum.inl y1=>
 (chk (a0.Stack - a1)).bind fun z1=>
 (chk (z1+a2)).bind fun z2=>
 some (Sum.inl (⟨z2,a0.Slots⟩:CodeLevel))
theorem kH  (a0:CodeLevel) (a1:Int) (a2:Int) (r:CodeLevel ⊕ Value) (H:kP a0 a1 a2=some r):FnE Tryz.prog 121 [fSt bG a0,fI a1,fI a2] [] r (fun r=>fSt bG r) (fun r=>[]):=by
 unfold kP at H
 refine gU Tryz.func121 rfl Tryz.ntmps121 rfl (fun β=>?_)
 refine Z1 ?_
 refine Tn (dO rfl hh cO) fun b1=>?_
 refine Tn (cM rfl zI rfl) fun b2=>?_
 revert H;refine B6 fun y1 h1 H=>?_
 rcases y1 with y1 | pv1 <;> dsimp only at H
 refine Tc (aO _ _ h1).s ?_
 revert H;refine B5 fun z1 h2 H=>?_
 revert H;refine B2 fun z2 h3 H=>?_
 refine Z3 ?_
 refine Yy (gF (ψs:=[fI z2,fI a0.Slots]) rfl uU rfl (bH.cons (has rfl) (dJ (aG trivial)) (bH.cons (has rfl) (dJ (aG trivial)) bH.nil)) rfl) ?_
 refine cU (φs':=[fI z2,fI a0.Slots]) trivial rfl rfl (has rfl) (has rfl) (aM (aG trivial) (aM (aG trivial) bO)) (sz rfl) rfl rfl rfl ?_
 refine Z2 ?_
 cases H
 refine fM ?_
 refine aE [0] (by decide) ?_
 exact aAX rfl (ag rfl) rfl (iZ rfl) Ent.rfl rfl
 refine Tp (aO _ _ h1).pan ?_
 refine Z1 ?_
 cases H
 exact bB
def lG (a1:ScopeDef) (a2:Int):Nat → Int → Int → (List ScopeDef) → (List CodeIns) → Int → (List Int) → (List Int) → (aC Int CodeLevel) → (List Int) → Option ((Int × List ScopeDef × List CodeIns × Int × List Int × List Int × aC Int CodeLevel × List Int) ⊕ (Code_checker ⊕ Value))
| 0,_,_,_,_,_,_,_,_,_=>none
| k+1,x18,x19,x20,x21,x22,x23,x24,x25,x26=>
 if x18<(a1.Spots.length:Int)then
  (idx a1.Spots x18).bind fun y1=>
  (jG (⟨(⟨x19,x20,x21,x22⟩:CodeProg),x23,x24,x25,x26⟩:Code_checker) y1.Node (⟨0,a2⟩:CodeLevel)).bind fun y2=>
  match y2 with
  | Sum.inr pv1=>(some (Sum.inr pv1)).bind fun r=>some (Sum.inr r)
  | Sum.inl y2=>
  (chk (x18+1)).bind fun z1=>
  lG a1 a2 k z1 y2.CodeProg.Free y2.CodeProg.Defs y2.CodeProg.Code y2.CodeProg.Main y2.begins y2.last y2.levels y2.todo
 else
  some (Sum.inl (x19,x20,x21,x22,x23,x24,x25,x26))
def lR (a1:ScopeDef) (y3:ScopeRule):Nat → Int → Int → Option (Int)
| 0,_,_=>none
| k+1,x56,x57=>
 if x57<(y3.Joins.length:Int)then
  (idx y3.Joins x57).bind fun y4=>
  (idx a1.Chans y4).bind fun y5=>
  (chk (x56+y5.Many)).bind fun z2=>
  (chk (x57+1)).bind fun z3=>
  lR a1 y3 k z2 z3
 else
  some x56
def kV (fuel:Nat) (a1:ScopeDef) (a2:Int):Nat → Int → Int → (List ScopeDef) → (List CodeIns) → Int → (List Int) → (List Int) → (aC Int CodeLevel) → (List Int) → Option (Code_checker ⊕ Value)
| 0,_,_,_,_,_,_,_,_,_=>none
| k+1,x36,x37,x38,x39,x40,x41,x42,x43,x44=>
 if x36<(a1.Rules.length:Int)then
  ((idx a1.Rules x36).bind fun y3=>
  (lR a1 y3 fuel 0 0).bind fun x53=>
  (chk (a2+x53)).bind fun z4=>
  (jG (⟨(⟨x37,x38,x39,x40⟩:CodeProg),x41,x42,x43,x44⟩:Code_checker) y3.Node (⟨0,z4⟩:CodeLevel)).bind fun y6=>
  match y6 with
  | Sum.inr pv2=>(some (Sum.inr pv2)).bind fun r=>some (Sum.inr r)
  | Sum.inl y6=>
  some (Sum.inl (y6.CodeProg.Free,y6.CodeProg.Defs,y6.CodeProg.Code,y6.CodeProg.Main,y6.begins,y6.last,y6.levels,y6.todo))).bind fun o=>match o with
  | Sum.inr r=>some r
  | Sum.inl (x45,x46,x47,x48,x49,x50,x51,x52)=>
  (chk (x36+1)).bind fun z5=>
  kV fuel a1 a2 k z5 x45 x46 x47 x48 x49 x50 x51 x52
 else
  some (Sum.inl (⟨(⟨x37,x38,x39,x40⟩:CodeProg),x41,x42,x43,x44⟩:Code_checker))
def uN (fuel:Nat) (a0:Code_checker) (a1:ScopeDef) (a2:Int):Option (Code_checker ⊕ Value):=
 (lG a1 a2 fuel 0 a0.CodeProg.Free a0.CodeProg.Defs a0.CodeProg.Code a0.CodeProg.Main a0.begins a0.last a0.levels a0.todo).bind fun o=>match o with
 | Sum.inr r=>some r
 | Sum.inl (x1,x2,x3,x4,x5,x6,x7,x8)=>
 kV fuel a1 a2 fuel 0 x1 x2 x3 x4 x5 x6 x7 x8
theorem aBO (fuel:Nat) (p0:Nat) (a0:Code_checker) (a1:ScopeDef) (a2:Int) (r:Code_checker ⊕ Value) (H:uN fuel a0 a1 a2=some r):FnE Tryz.prog 122 [fEq (.pointer (some ⟨p0,0,none⟩)),fSt aF a1,fI a2] [cX p0 a0] r (fun r=>dZ []) (fun r=>[cX p0 r]):=by
 unfold uN at H
 refine gU Tryz.func122 rfl Tryz.ntmps122 rfl (fun β=>?_)
 refine cY (fun v1 v2 v3=>?_)
 refine aT ?_
 refine cW (fun b1 h1=>?_);subst h1
 refine aD 2 rfl (fun hc_v1=>?_)
 refine aD 3 rfl (fun hc_v3=>?_)
 refine Z1 ?_
 refine Tn (dO rfl hh cO) fun b2=>?_
 revert H;refine B1 fun o1 H Hr1=>?_
 refine bD (ι:=Int × List ScopeDef × List CodeIns × Int × List Int × List Int × aC Int CodeLevel × List Int × Value × Nat × Value) (fun i=>o1=Sum.inl (i.1,i.2.1,i.2.2.1,i.2.2.2.1,i.2.2.2.2.1,i.2.2.2.2.2.1,i.2.2.2.2.2.2.1,i.2.2.2.2.2.2.2.1)) (fun i=>[(0,fEq (ptr p0)),(2,fI a2),(4,fEq (ptr b2))]) (fun i=>[aA b2 63 [fSl dA a1.Chans,fSl cL a1.Spots,fSl bW a1.Rules],aA p0 90 [fI i.1,fSl aF i.2.1,fSl aJ i.2.2.1,fI i.2.2.2.1,fSl tI i.2.2.2.2.1,fEq i.2.2.2.2.2.2.2.2.1,fEq (.map (some i.2.2.2.2.2.2.2.2.2.1)),fEq i.2.2.2.2.2.2.2.2.2.2],bC aZ (fun y=>fSt bG y) i.2.2.2.2.2.2.2.2.2.1 i.2.2.2.2.2.2.1,aB i.2.2.2.2.2.2.2.2.1 3 tI i.2.2.2.2.2.1,aB i.2.2.2.2.2.2.2.2.2.2 3 tI i.2.2.2.2.2.2.2.1]) ?_ ?_
 refine Z7 ?_
 refine aE [0,2,1,3,4] (by decide) ?_
 refine Tl (ι:=Nat × Int × Int × List ScopeDef × List CodeIns × Int × List Int × List Int × aC Int CodeLevel × List Int × Value × Nat × Value) (fun i=>lG a1 a2 i.1 i.2.1 i.2.2.1 i.2.2.2.1 i.2.2.2.2.1 i.2.2.2.2.2.1 i.2.2.2.2.2.2.1 i.2.2.2.2.2.2.2.1 i.2.2.2.2.2.2.2.2.1 i.2.2.2.2.2.2.2.2.2.1=_) (fun i=>i.1) (fun i=>[(0,fEq (ptr p0)),(2,fI a2),(4,fEq (ptr b2)),(14,fSl cL a1.Spots),(15,fI (a1.Spots.length:Int)),(16,fI i.2.1)]) (fun i=>[aA b2 63 [fSl dA a1.Chans,fSl cL a1.Spots,fSl bW a1.Rules],aA p0 90 [fI i.2.2.1,fSl aF i.2.2.2.1,fSl aJ i.2.2.2.2.1,fI i.2.2.2.2.2.1,fSl tI i.2.2.2.2.2.2.1,fEq i.2.2.2.2.2.2.2.2.2.2.1,fEq (.map (some i.2.2.2.2.2.2.2.2.2.2.2.1)),fEq i.2.2.2.2.2.2.2.2.2.2.2.2],bC aZ (fun y=>fSt bG y) i.2.2.2.2.2.2.2.2.2.2.2.1 i.2.2.2.2.2.2.2.2.1,aB i.2.2.2.2.2.2.2.2.2.2.1 3 tI i.2.2.2.2.2.2.2.1,aB i.2.2.2.2.2.2.2.2.2.2.2.2 3 tI i.2.2.2.2.2.2.2.2.2.1]) (fuel,0,a0.CodeProg.Free,a0.CodeProg.Defs,a0.CodeProg.Code,a0.CodeProg.Main,a0.begins,a0.last,a0.levels,a0.todo,v1,b1,v3) H ?_
 clear H;rintro⟨k1,x18,x19,x20,x21,x22,x23,x24,x25,x26,v8,b5,v9⟩ H
 replace H:lG a1 a2 k1 x18 x19 x20 x21 x22 x23 x24 x25 x26=_:=H
 try dsimp only
 obtain _ | k1:=k1
 rw [lG]at H;cases H
 rw [lG]at H
 refine aD 3 rfl (fun hc_v8=>?_)
 refine aD 4 rfl (fun hc_v9=>?_)
 refine Z3 ?_
 refine aW ?_
 revert H;refine is (fun c1 H=>?_) fun c1 H=>?_
 refine Z3 ?_
 refine aW ?_
 revert H;refine B2 fun y1 h2 H=>?_
 refine Z2 ?_
 refine Tn (cM rfl wH rfl) fun b6=>?_
 refine cU (φs':=[fI y1.In,fI y1.Node]) trivial rfl rfl (has rfl) (has rfl) (aM (aG trivial) (aM (aG trivial) bO)) (sz rfl) rfl rfl rfl ?_
 refine Z6 ?_
 refine Yy (gF (ψs:=[fI 0,fI a2]) rfl uU rfl (bH.cons (has rfl) (dJ (aG trivial)) bH.nil) rfl) ?_
 refine bI ?_
 refine cG ?_
 refine eZ ?_
 refine aR ?_
 refine eZ ?_
 refine eZ ?_
 refine cD (x:=(⟨(⟨x19,x20,x21,x22⟩:CodeProg),x23,x24,x25,x26⟩:Code_checker)) ?_
 revert H;refine bs fun y2 h3 H=>?_
 rcases y2 with y2 | pv1 <;> dsimp only at H
 refine Tc (gN _ _ _ _ _ h3).s ?_
 refine cY (fun v10 v11 v12=>?_)
 refine aT ?_
 refine cW (fun b7 h4=>?_);subst h4
 refine aD 2 rfl (fun hc_v10=>?_)
 refine aD 3 rfl (fun hc_v12=>?_)
 revert H;refine B4 fun z1 h5 H=>?_
 refine Z3 ?_
 refine aE [5,1,0,2,3] (by decide) ?_
 exact Tm ((k1,z1,y2.CodeProg.Free,y2.CodeProg.Defs,y2.CodeProg.Code,y2.CodeProg.Main,y2.begins,y2.last,y2.levels,y2.todo,v10,b7,v12)) ⟨H,ls⟩
 refine Tp (gN _ _ _ _ _ h3).pan ?_
 revert H;refine B5 fun r1 H e1=>?_
 cases e1;cases Hr1
 cases H
 exact bB
 refine Z6 ?_
 exact Tm ((x19,x20,x21,x22,x23,x24,x25,x26,v8,b5,v9)) (ij H)
 clear H;intro i hi;obtain⟨x1,x2,x3,x4,x5,x6,x7,x8,v4,b3,v5⟩:=i;subst o1;have H:=Hr1;clear Hr1;try dsimp only at H
 try dsimp only
 refine aD 3 rfl (fun hc_v4=>?_)
 refine aD 4 rfl (fun hc_v5=>?_)
 refine Z7 ?_
 refine Tl (ι:=Nat × Int × Int × List ScopeDef × List CodeIns × Int × List Int × List Int × aC Int CodeLevel × List Int × Value × Nat × Value) (fun i=>kV fuel a1 a2 i.1 i.2.1 i.2.2.1 i.2.2.2.1 i.2.2.2.2.1 i.2.2.2.2.2.1 i.2.2.2.2.2.2.1 i.2.2.2.2.2.2.2.1 i.2.2.2.2.2.2.2.2.1 i.2.2.2.2.2.2.2.2.2.1=_) (fun i=>i.1) (fun i=>[(0,fEq (ptr p0)),(2,fI a2),(4,fEq (ptr b2)),(28,fSl bW a1.Rules),(29,fI (a1.Rules.length:Int)),(30,fI i.2.1)]) (fun i=>[aA b2 63 [fSl dA a1.Chans,fSl cL a1.Spots,fSl bW a1.Rules],aA p0 90 [fI i.2.2.1,fSl aF i.2.2.2.1,fSl aJ i.2.2.2.2.1,fI i.2.2.2.2.2.1,fSl tI i.2.2.2.2.2.2.1,fEq i.2.2.2.2.2.2.2.2.2.2.1,fEq (.map (some i.2.2.2.2.2.2.2.2.2.2.2.1)),fEq i.2.2.2.2.2.2.2.2.2.2.2.2],bC aZ (fun y=>fSt bG y) i.2.2.2.2.2.2.2.2.2.2.2.1 i.2.2.2.2.2.2.2.2.1,aB i.2.2.2.2.2.2.2.2.2.2.1 3 tI i.2.2.2.2.2.2.2.1,aB i.2.2.2.2.2.2.2.2.2.2.2.2 3 tI i.2.2.2.2.2.2.2.2.2.1]) (fuel,0,x1,x2,x3,x4,x5,x6,x7,x8,v4,b3,v5) H ?_
 clear H;rintro⟨k2,x36,x37,x38,x39,x40,x41,x42,x43,x44,v15,b9,v16⟩ H
 replace H:kV fuel a1 a2 k2 x36 x37 x38 x39 x40 x41 x42 x43 x44=_:=H
 try dsimp only
 obtain _ | k2:=k2
 rw [kV]at H;cases H
 rw [kV]at H
 refine aD 3 rfl (fun hc_v15=>?_)
 refine aD 4 rfl (fun hc_v16=>?_)
 refine Z3 ?_
 refine aW ?_
 revert H;refine is (fun c2 H=>?_) fun c2 H=>?_
 revert H;refine B3 fun o2 H Hr2=>?_
 refine bD (ι:=Int × List ScopeDef × List CodeIns × Int × List Int × List Int × aC Int CodeLevel × List Int × Value × Nat × Value) (fun i=>o2=Sum.inl (i.1,i.2.1,i.2.2.1,i.2.2.2.1,i.2.2.2.2.1,i.2.2.2.2.2.1,i.2.2.2.2.2.2.1,i.2.2.2.2.2.2.2.1)) (fun i=>[(0,fEq (ptr p0)),(2,fI a2),(4,fEq (ptr b2)),(28,fSl bW a1.Rules),(29,fI (a1.Rules.length:Int)),(30,fI x36)]) (fun i=>[aA p0 90 [fI i.1,fSl aF i.2.1,fSl aJ i.2.2.1,fI i.2.2.2.1,fSl tI i.2.2.2.2.1,fEq i.2.2.2.2.2.2.2.2.1,fEq (.map (some i.2.2.2.2.2.2.2.2.2.1)),fEq i.2.2.2.2.2.2.2.2.2.2],aA b2 63 [fSl dA a1.Chans,fSl cL a1.Spots,fSl bW a1.Rules],bC aZ (fun y=>fSt bG y) i.2.2.2.2.2.2.2.2.2.1 i.2.2.2.2.2.2.1,aB i.2.2.2.2.2.2.2.2.1 3 tI i.2.2.2.2.2.1,aB i.2.2.2.2.2.2.2.2.2.2 3 tI i.2.2.2.2.2.2.2.1]) ?_ ?_
 revert H;refine B2 fun y3 h6 H=>?_
 refine Z2 ?_
 refine Tn (cM rfl aAU rfl) fun b11=>?_
 refine cU (φs':=[fI y3.At,fSl tI y3.Joins,fI y3.Node]) trivial rfl rfl (has rfl) (has rfl) (aM (aG trivial) (aM (cR) (aM (aG trivial) bO))) (sz rfl) rfl rfl rfl ?_
 revert H;refine B4 fun o3 H Hr3=>?_
 refine bD (ι:=Int) (fun i=>o3=i) (fun i=>[(0,fEq (ptr p0)),(2,fI a2),(4,fEq (ptr b2)),(28,fSl bW a1.Rules),(29,fI (a1.Rules.length:Int)),(30,fI x36),(9,fEq (ptr b11)),(10,fI i)]) (fun i=>[aA b11 114 [fI y3.At,fSl tI y3.Joins,fI y3.Node],aA b2 63 [fSl dA a1.Chans,fSl cL a1.Spots,fSl bW a1.Rules],aA p0 90 [fI x37,fSl aF x38,fSl aJ x39,fI x40,fSl tI x41,fEq v15,fEq (.map (some b9)),fEq v16],bC aZ (fun y=>fSt bG y) b9 x43,aB v15 3 tI x42,aB v16 3 tI x44]) ?_ ?_
 refine Z7 ?_
 refine Tl (ι:=Nat × Int × Int) (fun i=>lR a1 y3 i.1 i.2.1 i.2.2=_) (fun i=>i.1) (fun i=>[(0,fEq (ptr p0)),(2,fI a2),(4,fEq (ptr b2)),(28,fSl bW a1.Rules),(29,fI (a1.Rules.length:Int)),(30,fI x36),(9,fEq (ptr b11)),(10,fI i.2.1),(35,fSl tI y3.Joins),(36,fI (y3.Joins.length:Int)),(37,fI i.2.2)]) (fun i=>[aA b11 114 [fI y3.At,fSl tI y3.Joins,fI y3.Node],aA b2 63 [fSl dA a1.Chans,fSl cL a1.Spots,fSl bW a1.Rules],aA p0 90 [fI x37,fSl aF x38,fSl aJ x39,fI x40,fSl tI x41,fEq v15,fEq (.map (some b9)),fEq v16],bC aZ (fun y=>fSt bG y) b9 x43,aB v15 3 tI x42,aB v16 3 tI x44]) (fuel,0,0) H ?_
 clear H;rintro⟨k3,x56,x57⟩ H
 replace H:lR a1 y3 k3 x56 x57=_:=H
 try dsimp only
 obtain _ | k3:=k3
 rw [lR]at H;cases H
 rw [lR]at H
 refine Z3 ?_
 refine aW ?_
 revert H;refine is (fun c3 H=>?_) fun c3 H=>?_
 refine Z3 ?_
 refine aW ?_
 revert H;refine B2 fun y4 h7 H=>?_
 revert H;refine B9 fun y5 h8 H=>?_
 revert H;refine B3 fun z2 h9 H=>?_
 revert H;refine B6 fun z3 h10 H=>?_
 refine Z3 ?_
 exact Tm ((k3,z2,z3)) ⟨H,ls⟩
 refine Z6 ?_
 exact Tm (x56) (ij H)
 clear H;intro x53 hi;subst o3;have H:=Hr3;clear Hr3;try dsimp only at H
 try dsimp only
 revert H;refine B6 fun z4 h11 H=>?_
 refine Z1 ?_
 refine Yy (gF (ψs:=[fI 0,fI z4]) rfl uU rfl (bH.cons (has rfl) (dJ (aG trivial)) bH.nil) rfl) ?_
 refine bI ?_
 refine cG ?_
 refine eZ ?_
 refine aR ?_
 refine eZ ?_
 refine eZ ?_
 refine cD (x:=(⟨(⟨x37,x38,x39,x40⟩:CodeProg),x41,x42,x43,x44⟩:Code_checker)) ?_
 revert H;refine bs fun y6 h12 H=>?_
 rcases y6 with y6 | pv2 <;> dsimp only at H
 refine Tc (gN _ _ _ _ _ h12).s ?_
 refine cY (fun v19 v20 v21=>?_)
 refine aT ?_
 refine cW (fun b12 h13=>?_);subst h13
 refine aD 2 rfl (fun hc_v19=>?_)
 refine aD 3 rfl (fun hc_v21=>?_)
 refine Z3 ?_
 refine aE [1,5,0,2,3] (by decide) ?_
 exact Tm ((y6.CodeProg.Free,y6.CodeProg.Defs,y6.CodeProg.Code,y6.CodeProg.Main,y6.begins,y6.last,y6.levels,y6.todo,v19,b12,v21)) (ij H)
 refine Tp (gN _ _ _ _ _ h12).pan ?_
 revert H;refine B2 fun r2 H e2=>?_
 cases e2;cases Hr2
 refine Z2 ?_
 cases H
 exact bB
 clear H;intro i hi;obtain⟨x45,x46,x47,x48,x49,x50,x51,x52,v17,b10,v18⟩:=i;subst o2;have H:=Hr2;clear Hr2;try dsimp only at H
 try dsimp only
 refine aD 3 rfl (fun hc_v17=>?_)
 refine aD 4 rfl (fun hc_v18=>?_)
 revert H;refine B1 fun z5 h14 H=>?_
 refine Z3 ?_
 refine aE [1,0,2,3,4] (by decide) ?_
 exact Tm ((k2,z5,x45,x46,x47,x48,x49,x50,x51,x52,v17,b10,v18)) ⟨H,ls⟩
 refine Z5 ?_
 refine aT ?_
 refine cG ?_
 refine aY ?_
 refine aR ?_
 refine aY ?_
 refine aY ?_
 refine cD (x:=(⟨(⟨x37,x38,x39,x40⟩:CodeProg),x41,x42,x43,x44⟩:Code_checker)) ?_
 cases H
 refine fM ?_
 refine aE [0] (by decide) ?_
 exact eX (.inr rfl) rfl rfl
open Go.SX Go.SW Go.Dt
def oE (w0:CodeIns) (w1:CodeLevel):Option (CodeLevel ⊕ Value):=
 (bJ (decide (w0.A<w1.Slots))).bind fun y1=>
 match y1 with
 | Sum.inr pv1=>some (Sum.inr pv1)
 | Sum.inl y1=>
 some (Sum.inl (⟨w1.Stack,w1.Slots⟩:CodeLevel))
theorem pF (q1:Nat) (w0:CodeIns) (w1:CodeLevel) (r:CodeLevel ⊕ Value) (H:oE w0 w1=some r):FnE Tryz.prog 119 [bK aJ w0,fEq (.pointer (some ⟨q1,0,none⟩))] [qG q1 w1] r (fun r=>dZ []) (fun r=>[qG q1 r]):=by
 unfold oE at H
 refine gU Tryz.func119 rfl Tryz.ntmps119 rfl (fun β=>?_)
 refine lN ?_
 revert H;refine B6 fun y1 h1 H=>?_
 rcases y1 with y1 | pv1 <;> dsimp only at H
 refine Tc (aO _ _ h1).s ?_
 refine Z1 ?_
 refine lF (x:=(⟨w1.Stack,w1.Slots⟩:CodeLevel)) ?_
 cases H
 refine fM ?_
 exact eX (.inr rfl) rfl rfl
 refine Tp (aO _ _ h1).pan ?_
 cases H
 exact bB
def nJ (w0:CodeLevel):Option (CodeLevel ⊕ Value):=
 (bJ (decide (w0.Stack=0))).bind fun y1=>
 match y1 with
 | Sum.inr pv1=>some (Sum.inr pv1)
 | Sum.inl y1=>
 some (Sum.inl (⟨w0.Stack,w0.Slots⟩:CodeLevel))
theorem mE (q0:Nat) (w0:CodeLevel) (r:CodeLevel ⊕ Value) (H:nJ w0=some r):FnE Tryz.prog 120 [fEq (.pointer (some ⟨q0,0,none⟩))] [qG q0 w0] r (fun r=>dZ []) (fun r=>[qG q0 r]):=by
 unfold nJ at H
 refine gU Tryz.func120 rfl Tryz.ntmps120 rfl (fun β=>?_)
 refine lN ?_
 revert H;refine B4 fun y1 h1 H=>?_
 rcases y1 with y1 | pv1 <;> dsimp only at H
 refine Tc (aO _ _ h1).s ?_
 refine Z1 ?_
 refine lF (x:=(⟨w0.Stack,w0.Slots⟩:CodeLevel)) ?_
 cases H
 refine fM ?_
 exact eX (.inr rfl) rfl rfl
 refine Tp (aO _ _ h1).pan ?_
 cases H
 exact bB
def pV (fuel:Nat) (a0:Code_checker) (a1:Int):Option (Code_checker ⊕ Value):=
 (idx a0.CodeProg.Code a1).bind fun y1=>
 (if ((⟨y1.Op,y1.A,y1.B⟩:CodeIns).Op)=1 then
  (kP (⟨((a0.levels.get a1).getD (⟨0,0⟩:CodeLevel)).Stack,((a0.levels.get a1).getD (⟨0,0⟩:CodeLevel)).Slots⟩:CodeLevel) 0 1).bind fun y2=>
  match y2 with
  | Sum.inr pv1=>(some (Sum.inr pv1)).bind fun r=>some (Sum.inr r)
  | Sum.inl y2=>
  some (Sum.inl (y2.Stack,y2.Slots,a0.CodeProg.Free,a0.CodeProg.Defs,a0.CodeProg.Code,a0.CodeProg.Main,a0.begins,a0.last,a0.levels,a0.todo))
 else
  if ((⟨y1.Op,y1.A,y1.B⟩:CodeIns).Op)=2 then
   (oE (⟨y1.Op,y1.A,y1.B⟩:CodeIns) (⟨((a0.levels.get a1).getD (⟨0,0⟩:CodeLevel)).Stack,((a0.levels.get a1).getD (⟨0,0⟩:CodeLevel)).Slots⟩:CodeLevel)).bind fun y3=>
   match y3 with
   | Sum.inr pv2=>(some (Sum.inr pv2)).bind fun r=>some (Sum.inr r)
   | Sum.inl y3=>
   (kP (⟨y3.Stack,y3.Slots⟩:CodeLevel) 0 1).bind fun y4=>
   match y4 with
   | Sum.inr pv3=>(some (Sum.inr pv3)).bind fun r=>some (Sum.inr r)
   | Sum.inl y4=>
   some (Sum.inl (y4.Stack,y4.Slots,a0.CodeProg.Free,a0.CodeProg.Defs,a0.CodeProg.Code,a0.CodeProg.Main,a0.begins,a0.last,a0.levels,a0.todo))
  else
   (if ((⟨y1.Op,y1.A,y1.B⟩:CodeIns).Op)=3 then
    some (decide (((⟨y1.Op,y1.A,y1.B⟩:CodeIns).Op)=3))
   else
    if ((⟨y1.Op,y1.A,y1.B⟩:CodeIns).Op)=4 then
     some (decide (((⟨y1.Op,y1.A,y1.B⟩:CodeIns).Op)=4))
    else
     if ((⟨y1.Op,y1.A,y1.B⟩:CodeIns).Op)=5 then
      some (decide (((⟨y1.Op,y1.A,y1.B⟩:CodeIns).Op)=5))
     else
      if ((⟨y1.Op,y1.A,y1.B⟩:CodeIns).Op)=6 then
       some (decide (((⟨y1.Op,y1.A,y1.B⟩:CodeIns).Op)=6))
      else
       some (decide (((⟨y1.Op,y1.A,y1.B⟩:CodeIns).Op)=7))).bind fun x11=>
   bif x11 then
    (kP (⟨((a0.levels.get a1).getD (⟨0,0⟩:CodeLevel)).Stack,((a0.levels.get a1).getD (⟨0,0⟩:CodeLevel)).Slots⟩:CodeLevel) 2 1).bind fun y5=>
    match y5 with
    | Sum.inr pv4=>(some (Sum.inr pv4)).bind fun r=>some (Sum.inr r)
    | Sum.inl y5=>
    some (Sum.inl (y5.Stack,y5.Slots,a0.CodeProg.Free,a0.CodeProg.Defs,a0.CodeProg.Code,a0.CodeProg.Main,a0.begins,a0.last,a0.levels,a0.todo))
   else
    if ((⟨y1.Op,y1.A,y1.B⟩:CodeIns).Op)=8 then
     (oE (⟨y1.Op,y1.A,y1.B⟩:CodeIns) (⟨((a0.levels.get a1).getD (⟨0,0⟩:CodeLevel)).Stack,((a0.levels.get a1).getD (⟨0,0⟩:CodeLevel)).Slots⟩:CodeLevel)).bind fun y6=>
     match y6 with
     | Sum.inr pv5=>(some (Sum.inr pv5)).bind fun r=>some (Sum.inr r)
     | Sum.inl y6=>
     (kP (⟨y6.Stack,y6.Slots⟩:CodeLevel) ((⟨y1.Op,y1.A,y1.B⟩:CodeIns).B) 0).bind fun y7=>
     match y7 with
     | Sum.inr pv6=>(some (Sum.inr pv6)).bind fun r=>some (Sum.inr r)
     | Sum.inl y7=>
     some (Sum.inl (y7.Stack,y7.Slots,a0.CodeProg.Free,a0.CodeProg.Defs,a0.CodeProg.Code,a0.CodeProg.Main,a0.begins,a0.last,a0.levels,a0.todo))
    else
     if ((⟨y1.Op,y1.A,y1.B⟩:CodeIns).Op)=9 then
      (kP (⟨((a0.levels.get a1).getD (⟨0,0⟩:CodeLevel)).Stack,((a0.levels.get a1).getD (⟨0,0⟩:CodeLevel)).Slots⟩:CodeLevel) 1 0).bind fun y8=>
      match y8 with
      | Sum.inr pv7=>(some (Sum.inr pv7)).bind fun r=>some (Sum.inr r)
      | Sum.inl y8=>
      (idx a0.last a1).bind fun y9=>
      (bJ (decide (((⟨y1.Op,y1.A,y1.B⟩:CodeIns).A) ≤ y9))).bind fun y10=>
      match y10 with
      | Sum.inr pv8=>(some (Sum.inr pv8)).bind fun r=>some (Sum.inr r)
      | Sum.inl y10=>
      (jG (⟨(⟨a0.CodeProg.Free,a0.CodeProg.Defs,a0.CodeProg.Code,a0.CodeProg.Main⟩:CodeProg),a0.begins,a0.last,a0.levels,a0.todo⟩:Code_checker) ((⟨y1.Op,y1.A,y1.B⟩:CodeIns).A) (⟨y8.Stack,y8.Slots⟩:CodeLevel)).bind fun y11=>
      match y11 with
      | Sum.inr pv9=>(some (Sum.inr pv9)).bind fun r=>some (Sum.inr r)
      | Sum.inl y11=>
      some (Sum.inl (y8.Stack,y8.Slots,y11.CodeProg.Free,y11.CodeProg.Defs,y11.CodeProg.Code,y11.CodeProg.Main,y11.begins,y11.last,y11.levels,y11.todo))
     else
      if ((⟨y1.Op,y1.A,y1.B⟩:CodeIns).Op)=10 then
       (idx a0.last a1).bind fun y12=>
       (bJ (decide (((⟨y1.Op,y1.A,y1.B⟩:CodeIns).A) ≤ y12))).bind fun y13=>
       match y13 with
       | Sum.inr pv10=>(some (Sum.inr pv10)).bind fun r=>some (Sum.inr r)
       | Sum.inl y13=>
       (jG (⟨(⟨a0.CodeProg.Free,a0.CodeProg.Defs,a0.CodeProg.Code,a0.CodeProg.Main⟩:CodeProg),a0.begins,a0.last,a0.levels,a0.todo⟩:Code_checker) ((⟨y1.Op,y1.A,y1.B⟩:CodeIns).A) (⟨((a0.levels.get a1).getD (⟨0,0⟩:CodeLevel)).Stack,((a0.levels.get a1).getD (⟨0,0⟩:CodeLevel)).Slots⟩:CodeLevel)).bind fun y14=>
       match y14 with
       | Sum.inr pv11=>(some (Sum.inr pv11)).bind fun r=>some (Sum.inr r)
       | Sum.inl y14=>
       (some (Sum.inl (⟨(⟨y14.CodeProg.Free,y14.CodeProg.Defs,y14.CodeProg.Code,y14.CodeProg.Main⟩:CodeProg),y14.begins,y14.last,y14.levels,y14.todo⟩:Code_checker))).bind fun r=>some (Sum.inr r)
      else
       if ((⟨y1.Op,y1.A,y1.B⟩:CodeIns).Op)=11 then
        (nJ (⟨((a0.levels.get a1).getD (⟨0,0⟩:CodeLevel)).Stack,((a0.levels.get a1).getD (⟨0,0⟩:CodeLevel)).Slots⟩:CodeLevel)).bind fun y15=>
        match y15 with
        | Sum.inr pv12=>(some (Sum.inr pv12)).bind fun r=>some (Sum.inr r)
        | Sum.inl y15=>
        (idx a0.CodeProg.Defs ((⟨y1.Op,y1.A,y1.B⟩:CodeIns).A)).bind fun y16=>
        (chk ((y16.Chans.length:Int)+(y16.Spots.length:Int))).bind fun z1=>
        (chk (y15.Slots+z1)).bind fun z2=>
        (uN fuel (⟨(⟨a0.CodeProg.Free,a0.CodeProg.Defs,a0.CodeProg.Code,a0.CodeProg.Main⟩:CodeProg),a0.begins,a0.last,a0.levels,a0.todo⟩:Code_checker) (⟨y16.Chans,y16.Spots,y16.Rules⟩:ScopeDef) z2).bind fun y17=>
        match y17 with
        | Sum.inr pv13=>(some (Sum.inr pv13)).bind fun r=>some (Sum.inr r)
        | Sum.inl y17=>
        some (Sum.inl (y15.Stack,z2,y17.CodeProg.Free,y17.CodeProg.Defs,y17.CodeProg.Code,y17.CodeProg.Main,y17.begins,y17.last,y17.levels,y17.todo))
       else
        if ((⟨y1.Op,y1.A,y1.B⟩:CodeIns).Op)=12 then
         (bJ (decide (((⟨y1.Op,y1.A,y1.B⟩:CodeIns).A) ≤ (((a0.levels.get a1).getD (⟨0,0⟩:CodeLevel)).Slots)))).bind fun y18=>
         match y18 with
         | Sum.inr pv14=>(some (Sum.inr pv14)).bind fun r=>some (Sum.inr r)
         | Sum.inl y18=>
         some (Sum.inl (((a0.levels.get a1).getD (⟨0,0⟩:CodeLevel)).Stack,(⟨y1.Op,y1.A,y1.B⟩:CodeIns).A,a0.CodeProg.Free,a0.CodeProg.Defs,a0.CodeProg.Code,a0.CodeProg.Main,a0.begins,a0.last,a0.levels,a0.todo))
        else
         (if ((⟨y1.Op,y1.A,y1.B⟩:CodeIns).Op)=13 then
          some (decide (((⟨y1.Op,y1.A,y1.B⟩:CodeIns).Op)=13))
         else
          some (decide (((⟨y1.Op,y1.A,y1.B⟩:CodeIns).Op)=15))).bind fun x12=>
         bif x12 then
          (oE (⟨y1.Op,y1.A,y1.B⟩:CodeIns) (⟨((a0.levels.get a1).getD (⟨0,0⟩:CodeLevel)).Stack,((a0.levels.get a1).getD (⟨0,0⟩:CodeLevel)).Slots⟩:CodeLevel)).bind fun y19=>
          match y19 with
          | Sum.inr pv15=>(some (Sum.inr pv15)).bind fun r=>some (Sum.inr r)
          | Sum.inl y19=>
          (nJ (⟨y19.Stack,y19.Slots⟩:CodeLevel)).bind fun y20=>
          match y20 with
          | Sum.inr pv16=>(some (Sum.inr pv16)).bind fun r=>some (Sum.inr r)
          | Sum.inl y20=>
          (jG (⟨(⟨a0.CodeProg.Free,a0.CodeProg.Defs,a0.CodeProg.Code,a0.CodeProg.Main⟩:CodeProg),a0.begins,a0.last,a0.levels,a0.todo⟩:Code_checker) ((⟨y1.Op,y1.A,y1.B⟩:CodeIns).B) (⟨0,y20.Slots⟩:CodeLevel)).bind fun y21=>
          match y21 with
          | Sum.inr pv17=>(some (Sum.inr pv17)).bind fun r=>some (Sum.inr r)
          | Sum.inl y21=>
          some (Sum.inl (y20.Stack,y20.Slots,y21.CodeProg.Free,y21.CodeProg.Defs,y21.CodeProg.Code,y21.CodeProg.Main,y21.begins,y21.last,y21.levels,y21.todo))
         else
          if ((⟨y1.Op,y1.A,y1.B⟩:CodeIns).Op)=14 then
           (nJ (⟨((a0.levels.get a1).getD (⟨0,0⟩:CodeLevel)).Stack,((a0.levels.get a1).getD (⟨0,0⟩:CodeLevel)).Slots⟩:CodeLevel)).bind fun y22=>
           match y22 with
           | Sum.inr pv18=>(some (Sum.inr pv18)).bind fun r=>some (Sum.inr r)
           | Sum.inl y22=>
           some (Sum.inl (y22.Stack,y22.Slots,a0.CodeProg.Free,a0.CodeProg.Defs,a0.CodeProg.Code,a0.CodeProg.Main,a0.begins,a0.last,a0.levels,a0.todo))
          else
           if ((⟨y1.Op,y1.A,y1.B⟩:CodeIns).Op)=16 then
            (nJ (⟨((a0.levels.get a1).getD (⟨0,0⟩:CodeLevel)).Stack,((a0.levels.get a1).getD (⟨0,0⟩:CodeLevel)).Slots⟩:CodeLevel)).bind fun y23=>
            match y23 with
            | Sum.inr pv19=>(some (Sum.inr pv19)).bind fun r=>some (Sum.inr r)
            | Sum.inl y23=>
            (some (Sum.inl (⟨(⟨a0.CodeProg.Free,a0.CodeProg.Defs,a0.CodeProg.Code,a0.CodeProg.Main⟩:CodeProg),a0.begins,a0.last,a0.levels,a0.todo⟩:Code_checker))).bind fun r=>some (Sum.inr r)
           else
            some (Sum.inl (((a0.levels.get a1).getD (⟨0,0⟩:CodeLevel)).Stack,((a0.levels.get a1).getD (⟨0,0⟩:CodeLevel)).Slots,a0.CodeProg.Free,a0.CodeProg.Defs,a0.CodeProg.Code,a0.CodeProg.Main,a0.begins,a0.last,a0.levels,a0.todo))).bind fun o=>match o with
 | Sum.inr r=>some r
 | Sum.inl (x1,x2,x3,x4,x5,x6,x7,x8,x9,x10)=>
 (chk (a1+1)).bind fun z3=>
 (jG (⟨(⟨x3,x4,x5,x6⟩:CodeProg),x7,x8,x9,x10⟩:Code_checker) z3 (⟨x1,x2⟩:CodeLevel)).bind fun y24=>
 match y24 with
 | Sum.inr pv20=>some (Sum.inr pv20)
 | Sum.inl y24=>
 some (Sum.inl (⟨(⟨y24.CodeProg.Free,y24.CodeProg.Defs,y24.CodeProg.Code,y24.CodeProg.Main⟩:CodeProg),y24.begins,y24.last,y24.levels,y24.todo⟩:Code_checker))
theorem aB8 (fuel:Nat) (p0:Nat) (a0:Code_checker) (a1:Int) (r:Code_checker ⊕ Value) (H:pV fuel a0 a1=some r):FnE Tryz.prog 75 [fEq (.pointer (some ⟨p0,0,none⟩)),fI a1] [cX p0 a0] r (fun r=>dZ []) (fun r=>[cX p0 r]):=by
 unfold pV at H
 refine gU Tryz.func75 rfl Tryz.ntmps75 rfl (fun β=>?_)
 refine cY (fun v1 v2 v3=>?_)
 refine aT ?_
 refine cW (fun b1 h1=>?_);subst h1
 refine aD 2 rfl (fun hc_v1=>?_)
 refine aD 3 rfl (fun hc_v3=>?_)
 refine aW ?_
 revert H;refine bs fun y1 h2 H=>?_
 apply cB (ods:=[_,_,_,_,_,_,_,_,_,_,_,_,_,_,_,_,_,_]) 18 2 6 bZ rfl rfl rfl
 refine ND ?_
 refine M8 ?_
 intros
 refine M5 ?_
 intros
 refine Mo 0 rfl (aC5 (zα:=(⟨0,0⟩:CodeLevel)) (k:=a1) rfl hh hh rfl sQ (rA [(.int .i64 0),(.int .i64 0)])) fun _=>?_
 refine Mn 4 (fun b2=>ptr b2) (fun b2=>aA b2 73 [fI 0,fI 0,fI 0]) rfl (cM rfl xH rfl) (fun b2 u1=>?_)
 refine Mn 5 (fun b3=>ptr b3) (fun b3=>aA b3 79 [fI 0,fI 0]) rfl (cM rfl zI rfl) (fun b3 u2=>?_)
 refine aAx (od:=od1 14 [4] true (fun b2 _=>fS) (fun b2 _=>[aA b2 73 [fI y1.Op,fI y1.A,fI y1.B]])) (p:=4) (φs':=[fI y1.Op,fI y1.A,fI y1.B]) rfl (fun _=>rfl) (fun _=>rfl) trivial rfl rfl rfl (has rfl) (has rfl) (aM (aG trivial) (aM (aG trivial) (aM (aG trivial) bO))) (sz rfl) rfl rfl rfl (fun _=>?_)
 refine aAx (od:=od1 15 [5] true (fun b3 _=>fS) (fun b3 _=>[aA b3 79 [fI (((a0.levels.get a1).getD (⟨0,0⟩:CodeLevel)).Stack),fI (((a0.levels.get a1).getD (⟨0,0⟩:CodeLevel)).Slots)]])) (p:=5) (φs':=[fI (((a0.levels.get a1).getD (⟨0,0⟩:CodeLevel)).Stack),fI (((a0.levels.get a1).getD (⟨0,0⟩:CodeLevel)).Slots)]) rfl (fun _=>rfl) (fun _=>rfl) trivial rfl rfl rfl (has rfl) (has rfl) (aM (aG trivial) (aM (aG trivial) bO)) (sz rfl) rfl rfl rfl (fun _=>?_)
 refine Z3 ?_
 refine aY ?_
 refine kF (φ:=bK aJ (⟨y1.Op,y1.A,y1.B⟩:CodeIns)) (v:=ptr b2) [4] (yW aH.rfl) fz ?_
 refine jS ?_
 refine Yy (rX rfl (aK.cons hh (aK.cons hh aK.nil))) ?_
 refine Z3 ?_
 refine Yy (rX rfl (aK.cons hh aK.nil)) ?_
 revert H;refine B2 fun o1 H Hr1=>?_
 refine bD (ι:=Int × Int × Int × List ScopeDef × List CodeIns × Int × List Int × List Int × aC Int CodeLevel × List Int × Value × Nat × Value) (fun i=>o1=Sum.inl (i.1,i.2.1,i.2.2.1,i.2.2.2.1,i.2.2.2.2.1,i.2.2.2.2.2.1,i.2.2.2.2.2.2.1,i.2.2.2.2.2.2.2.1,i.2.2.2.2.2.2.2.2.1,i.2.2.2.2.2.2.2.2.2.1)) (fun i=>[(0,fEq (ptr p0)),(1,fI a1),(5,fEq (ptr b3))]) (fun i=>[aA b3 79 [fI i.1,fI i.2.1],aA p0 90 [fI i.2.2.1,fSl aF i.2.2.2.1,fSl aJ i.2.2.2.2.1,fI i.2.2.2.2.2.1,fSl tI i.2.2.2.2.2.2.1,fEq i.2.2.2.2.2.2.2.2.2.2.1,fEq (.map (some i.2.2.2.2.2.2.2.2.2.2.2.1)),fEq i.2.2.2.2.2.2.2.2.2.2.2.2],bC aZ (fun y=>fSt bG y) i.2.2.2.2.2.2.2.2.2.2.2.1 i.2.2.2.2.2.2.2.2.1,aB i.2.2.2.2.2.2.2.2.2.2.1 3 tI i.2.2.2.2.2.2.2.1,aB i.2.2.2.2.2.2.2.2.2.2.2.2 3 tI i.2.2.2.2.2.2.2.2.2.1]) ?_ ?_
 revert H;refine I9 (fun c1 H=>?_) fun c1 H=>?_
 revert H;refine B3 fun y2 h3 H=>?_
 rcases y2 with y2 | pv1 <;> dsimp only at H
 refine Tc (kH _ _ _ _ h3).s ?_
 refine aY ?_
 refine cU (φs':=[fI y2.Stack,fI y2.Slots]) trivial rfl rfl (has rfl) (has rfl) (aM (aG trivial) (aM (aG trivial) bO)) (sz rfl) rfl rfl rfl ?_
 refine Z3 ?_
 refine aE [0,2,1,3,4] (by decide) ?_
 exact Tm ((y2.Stack,y2.Slots,a0.CodeProg.Free,a0.CodeProg.Defs,a0.CodeProg.Code,a0.CodeProg.Main,a0.begins,a0.last,a0.levels,a0.todo,v1,b1,v3)) (ij H)
 refine Tp (kH _ _ _ _ h3).pan ?_
 revert H;refine B2 fun r1 H e1=>?_
 cases e1;cases Hr1
 cases H
 exact bB
 revert H;refine I5 (fun c2 H=>?_) fun c2 H=>?_
 refine Z3 ?_
 refine aY ?_
 refine lF (x:=(⟨((a0.levels.get a1).getD (⟨0,0⟩:CodeLevel)).Stack,((a0.levels.get a1).getD (⟨0,0⟩:CodeLevel)).Slots⟩:CodeLevel)) ?_
 revert H;refine bs fun y3 h4 H=>?_
 rcases y3 with y3 | pv2 <;> dsimp only at H
 refine kR trivial rfl rfl rfl (has rfl) aK.nil rfl (cb rfl) (pF b3 (⟨y1.Op,y1.A,y1.B⟩:CodeIns) (⟨((a0.levels.get a1).getD (⟨0,0⟩:CodeLevel)).Stack,((a0.levels.get a1).getD (⟨0,0⟩:CodeLevel)).Slots⟩:CodeLevel) (Sum.inl y3) h4).s rfl ?_
 refine lN ?_
 revert H;refine B3 fun y4 h5 H=>?_
 rcases y4 with y4 | pv3 <;> dsimp only at H
 refine Tc (kH _ _ _ _ h5).s ?_
 refine cU (φs':=[fI y4.Stack,fI y4.Slots]) trivial rfl rfl (has rfl) (has rfl) (aM (aG trivial) (aM (aG trivial) bO)) (sz rfl) rfl rfl rfl ?_
 refine Z3 ?_
 refine aE [0,2,1,3,4] (by decide) ?_
 exact Tm ((y4.Stack,y4.Slots,a0.CodeProg.Free,a0.CodeProg.Defs,a0.CodeProg.Code,a0.CodeProg.Main,a0.begins,a0.last,a0.levels,a0.todo,v1,b1,v3)) (ij H)
 refine Tp (kH _ _ _ _ h5).pan ?_
 revert H;refine B2 fun r2 H e2=>?_
 cases e2;cases Hr1
 cases H
 exact bB
 refine oO trivial rfl (has rfl) aK.nil rfl (cb rfl) (pF b3 (⟨y1.Op,y1.A,y1.B⟩:CodeIns) (⟨((a0.levels.get a1).getD (⟨0,0⟩:CodeLevel)).Stack,((a0.levels.get a1).getD (⟨0,0⟩:CodeLevel)).Slots⟩:CodeLevel) (Sum.inr pv2) h4).pan rfl ?_
 revert H;refine B3 fun r3 H e3=>?_
 cases e3;cases Hr1
 cases H
 exact bB
 revert H;refine B1 fun o2 H Hr2=>?_
 refine bD (ι:=Bool) (fun i=>o2=i) (fun i=>[(0,fEq (ptr p0)),(1,fI a1),(4,bK aJ (⟨y1.Op,y1.A,y1.B⟩:CodeIns)),(5,fEq (ptr b3)),(6,eP 119 [bK aJ (⟨y1.Op,y1.A,y1.B⟩:CodeIns),fEq (ptr b3)]),(7,eP 120 [fEq (ptr b3)]),(26,fI ((⟨y1.Op,y1.A,y1.B⟩:CodeIns).Op)),(37,aS i)]) (fun i=>[aA p0 90 [fI a0.CodeProg.Free,fSl aF a0.CodeProg.Defs,fSl aJ a0.CodeProg.Code,fI a0.CodeProg.Main,fSl tI a0.begins,fEq v1,fEq (.map (some b1)),fEq v3],aA b3 79 [fI (((a0.levels.get a1).getD (⟨0,0⟩:CodeLevel)).Stack),fI (((a0.levels.get a1).getD (⟨0,0⟩:CodeLevel)).Slots)],bC aZ (fun y=>fSt bG y) b1 a0.levels,aB v1 3 tI a0.last,aB v3 3 tI a0.todo]) ?_ ?_
 revert H;refine I4 (fun c3 H=>?_) fun c3 H=>?_
 refine Z3 ?_
 refine aE [1,4,0,2,3] (by decide) ?_
 exact Tm (decide (((⟨y1.Op,y1.A,y1.B⟩:CodeIns).Op)=3)) (ij H)
 revert H;refine I5 (fun c4 H=>?_) fun c4 H=>?_
 refine Z3 ?_
 refine aE [1,4,0,2,3] (by decide) ?_
 exact Tm (decide (((⟨y1.Op,y1.A,y1.B⟩:CodeIns).Op)=4)) (ij H)
 revert H;refine I5 (fun c5 H=>?_) fun c5 H=>?_
 refine Z3 ?_
 refine aE [1,4,0,2,3] (by decide) ?_
 exact Tm (decide (((⟨y1.Op,y1.A,y1.B⟩:CodeIns).Op)=5)) (ij H)
 revert H;refine I5 (fun c6 H=>?_) fun c6 H=>?_
 refine Z3 ?_
 refine aE [1,4,0,2,3] (by decide) ?_
 exact Tm (decide (((⟨y1.Op,y1.A,y1.B⟩:CodeIns).Op)=6)) (ij H)
 refine Z5 ?_
 refine aE [1,4,0,2,3] (by decide) ?_
 exact Tm (decide (((⟨y1.Op,y1.A,y1.B⟩:CodeIns).Op)=7)) (ij H)
 clear H;intro x11 hi;subst o2;have H:=Hr2;clear Hr2;try dsimp only at H
 try dsimp only
 revert H;refine cs (fun c7 H=>?_) fun c7 H=>?_
 revert H;refine B3 fun y5 h6 H=>?_
 rcases y5 with y5 | pv4 <;> dsimp only at H
 refine Tc (kH _ _ _ _ h6).s ?_
 refine aR ?_
 refine cU (φs':=[fI y5.Stack,fI y5.Slots]) trivial rfl rfl (has rfl) (has rfl) (aM (aG trivial) (aM (aG trivial) bO)) (sz rfl) rfl rfl rfl ?_
 refine Z3 ?_
 exact Tm ((y5.Stack,y5.Slots,a0.CodeProg.Free,a0.CodeProg.Defs,a0.CodeProg.Code,a0.CodeProg.Main,a0.begins,a0.last,a0.levels,a0.todo,v1,b1,v3)) (ij H)
 refine Tp (kH _ _ _ _ h6).pan ?_
 revert H;refine B2 fun r4 H e4=>?_
 cases e4;cases Hr1
 cases H
 exact bB
 revert H;refine I5 (fun c8 H=>?_) fun c8 H=>?_
 refine Z3 ?_
 refine aR ?_
 refine lF (x:=(⟨((a0.levels.get a1).getD (⟨0,0⟩:CodeLevel)).Stack,((a0.levels.get a1).getD (⟨0,0⟩:CodeLevel)).Slots⟩:CodeLevel)) ?_
 revert H;refine bs fun y6 h7 H=>?_
 rcases y6 with y6 | pv5 <;> dsimp only at H
 refine kR trivial rfl rfl rfl (has rfl) aK.nil rfl (cb rfl) (pF b3 (⟨y1.Op,y1.A,y1.B⟩:CodeIns) (⟨((a0.levels.get a1).getD (⟨0,0⟩:CodeLevel)).Stack,((a0.levels.get a1).getD (⟨0,0⟩:CodeLevel)).Slots⟩:CodeLevel) (Sum.inl y6) h7).s rfl ?_
 refine lN ?_
 revert H;refine B5 fun y7 h8 H=>?_
 rcases y7 with y7 | pv6 <;> dsimp only at H
 refine Tc (kH _ _ _ _ h8).s ?_
 refine cU (φs':=[fI y7.Stack,fI y7.Slots]) trivial rfl rfl (has rfl) (has rfl) (aM (aG trivial) (aM (aG trivial) bO)) (sz rfl) rfl rfl rfl ?_
 refine Z3 ?_
 exact Tm ((y7.Stack,y7.Slots,a0.CodeProg.Free,a0.CodeProg.Defs,a0.CodeProg.Code,a0.CodeProg.Main,a0.begins,a0.last,a0.levels,a0.todo,v1,b1,v3)) (ij H)
 refine Tp (kH _ _ _ _ h8).pan ?_
 revert H;refine B2 fun r5 H e5=>?_
 cases e5;cases Hr1
 cases H
 exact bB
 refine oO trivial rfl (has rfl) aK.nil rfl (cb rfl) (pF b3 (⟨y1.Op,y1.A,y1.B⟩:CodeIns) (⟨((a0.levels.get a1).getD (⟨0,0⟩:CodeLevel)).Stack,((a0.levels.get a1).getD (⟨0,0⟩:CodeLevel)).Slots⟩:CodeLevel) (Sum.inr pv5) h7).pan rfl ?_
 revert H;refine B3 fun r6 H e6=>?_
 cases e6;cases Hr1
 cases H
 exact bB
 revert H;refine I5 (fun c9 H=>?_) fun c9 H=>?_
 revert H;refine B3 fun y8 h9 H=>?_
 rcases y8 with y8 | pv7 <;> dsimp only at H
 refine Tc (kH _ _ _ _ h9).s ?_
 refine aR ?_
 refine cU (φs':=[fI y8.Stack,fI y8.Slots]) trivial rfl rfl (has rfl) (has rfl) (aM (aG trivial) (aM (aG trivial) bO)) (sz rfl) rfl rfl rfl ?_
 refine Z1 ?_
 refine aW ?_
 revert H;refine bs fun y9 h10 H=>?_
 apply cB (ods:=[_,_,_,_,_,_,_,_,_,_]) 10 0 5 bZ rfl rfl rfl
 refine ND ?_
 refine M8 ?_
 intros
 refine Mo 3 rfl (uX rfl rfl hh (sc rfl) (dU h10) rfl) fun _=>?_
 refine M1 ?_
 intros
 revert H;refine B1 fun y10 h11 H=>?_
 rcases y10 with y10 | pv8 <;> dsimp only at H
 refine Tc (aO _ _ h11).s ?_
 refine Z6 ?_
 refine aT ?_
 refine cG ?_
 refine aY ?_
 refine aR ?_
 refine aY ?_
 refine aY ?_
 refine cD (x:=(⟨(⟨a0.CodeProg.Free,a0.CodeProg.Defs,a0.CodeProg.Code,a0.CodeProg.Main⟩:CodeProg),a0.begins,a0.last,a0.levels,a0.todo⟩:Code_checker)) ?_
 revert H;refine bs fun y11 h12 H=>?_
 rcases y11 with y11 | pv9 <;> dsimp only at H
 refine Tc (gN _ _ _ _ _ h12).s ?_
 refine cY (fun v6 v7 v8=>?_)
 refine aT ?_
 refine cW (fun b5 h13=>?_);subst h13
 refine aD 2 rfl (fun hc_v6=>?_)
 refine aD 3 rfl (fun hc_v8=>?_)
 refine Z3 ?_
 refine aE [4,1,0,2,3] (by decide) ?_
 exact Tm ((y8.Stack,y8.Slots,y11.CodeProg.Free,y11.CodeProg.Defs,y11.CodeProg.Code,y11.CodeProg.Main,y11.begins,y11.last,y11.levels,y11.todo,v6,b5,v8)) (ij H)
 refine Tp (gN _ _ _ _ _ h12).pan ?_
 revert H;refine B2 fun r7 H e7=>?_
 cases e7;cases Hr1
 cases H
 exact bB
 refine Tp (aO _ _ h11).pan ?_
 revert H;refine B3 fun r8 H e8=>?_
 cases e8;cases Hr1
 cases H
 exact bB
 exact fk
 kernel_rfl
 refine Tp (kH _ _ _ _ h9).pan ?_
 revert H;refine B3 fun r9 H e9=>?_
 cases e9;cases Hr1
 cases H
 exact bB
 revert H;refine I5 (fun c10 H=>?_) fun c10 H=>?_
 refine Z1 ?_
 refine aW ?_
 revert H;refine bs fun y12 h14 H=>?_
 apply cB (ods:=[_,_,_,_,_,_,_,_,_,_]) 10 0 5 bZ rfl rfl rfl
 refine ND ?_
 refine M8 ?_
 intros
 refine Mo 3 rfl (uX rfl rfl hh (sc rfl) (dU h14) rfl) fun _=>?_
 refine M1 ?_
 intros
 revert H;refine B1 fun y13 h15 H=>?_
 rcases y13 with y13 | pv10 <;> dsimp only at H
 refine Tc (aO _ _ h15).s ?_
 refine Z6 ?_
 refine aT ?_
 refine cG ?_
 refine aY ?_
 refine aR ?_
 refine aY ?_
 refine bI ?_
 refine cD (x:=(⟨(⟨a0.CodeProg.Free,a0.CodeProg.Defs,a0.CodeProg.Code,a0.CodeProg.Main⟩:CodeProg),a0.begins,a0.last,a0.levels,a0.todo⟩:Code_checker)) ?_
 revert H;refine bs fun y14 h16 H=>?_
 rcases y14 with y14 | pv11 <;> dsimp only at H
 refine Tc (gN _ _ _ _ _ h16).s ?_
 refine cY (fun v9 v10 v11=>?_)
 refine aT ?_
 refine cW (fun b6 h17=>?_);subst h17
 refine aD 2 rfl (fun hc_v9=>?_)
 refine aD 3 rfl (fun hc_v11=>?_)
 revert H;refine B4 fun r10 H e10=>?_
 cases e10;cases Hr1
 refine cG ?_
 refine bI ?_
 refine aR ?_
 refine bI ?_
 refine bI ?_
 refine cD (x:=(⟨(⟨y14.CodeProg.Free,y14.CodeProg.Defs,y14.CodeProg.Code,y14.CodeProg.Main⟩:CodeProg),y14.begins,y14.last,y14.levels,y14.todo⟩:Code_checker)) ?_
 cases H
 refine fM ?_
 refine aE [0] (by decide) ?_
 exact eX (.inl rfl) rfl rfl
 refine Tp (gN _ _ _ _ _ h16).pan ?_
 revert H;refine B3 fun r11 H e11=>?_
 cases e11;cases Hr1
 cases H
 exact bB
 refine Tp (aO _ _ h15).pan ?_
 revert H;refine B3 fun r12 H e12=>?_
 cases e12;cases Hr1
 cases H
 exact bB
 exact fk
 kernel_rfl
 revert H;refine I5 (fun c11 H=>?_) fun c11 H=>?_
 refine Z3 ?_
 refine aR ?_
 refine lF (x:=(⟨((a0.levels.get a1).getD (⟨0,0⟩:CodeLevel)).Stack,((a0.levels.get a1).getD (⟨0,0⟩:CodeLevel)).Slots⟩:CodeLevel)) ?_
 revert H;refine bs fun y15 h18 H=>?_
 rcases y15 with y15 | pv12 <;> dsimp only at H
 refine kR trivial rfl rfl rfl (has rfl) aK.nil rfl (cb rfl) (mE b3 (⟨((a0.levels.get a1).getD (⟨0,0⟩:CodeLevel)).Stack,((a0.levels.get a1).getD (⟨0,0⟩:CodeLevel)).Slots⟩:CodeLevel) (Sum.inl y15) h18).s rfl ?_
 refine lN ?_
 refine Z1 ?_
 refine aW ?_
 revert H;refine bs fun y16 h19 H=>?_
 apply cB (ods:=[_,_,_,_,_,_,_,_,_,_,_]) 11 1 6 bZ rfl rfl rfl
 refine ND ?_
 refine M8 ?_
 intros
 refine M1 ?_
 intros
 refine Mn 5 (fun b7=>ptr b7) (fun b7=>aA b7 63 [fEq (.slice none 0 0),fEq (.slice none 0 0),fEq (.slice none 0 0)]) rfl (cM rfl rU rfl) (fun b7 u3=>?_)
 refine aAx (od:=od1 9 [5] true (fun b7 _=>fS) (fun b7 _=>[aA b7 63 [fSl dA y16.Chans,fSl cL y16.Spots,fSl bW y16.Rules]])) (p:=5) (φs':=[fSl dA y16.Chans,fSl cL y16.Spots,fSl bW y16.Rules]) rfl (fun _=>rfl) (fun _=>rfl) trivial rfl rfl rfl (has rfl) (has rfl) (aM (cR) (aM (cR) (aM (cR) bO))) (sz rfl) rfl rfl rfl (fun _=>?_)
 revert H;refine B11 fun z1 h20 H=>?_
 revert H;refine B1 fun z2 h21 H=>?_
 refine Z2 ?_
 refine cF (φs':=[fI y15.Stack,fI z2]) trivial rfl rfl (has rfl) (has rfl) (aG trivial) (sz rfl) rfl rfl ?_
 refine Z6 ?_
 refine aT ?_
 refine cG ?_
 refine aY ?_
 refine aR ?_
 refine aY ?_
 refine aY ?_
 refine cD (x:=(⟨(⟨a0.CodeProg.Free,a0.CodeProg.Defs,a0.CodeProg.Code,a0.CodeProg.Main⟩:CodeProg),a0.begins,a0.last,a0.levels,a0.todo⟩:Code_checker)) ?_
 revert H;refine bs fun y17 h22 H=>?_
 rcases y17 with y17 | pv13 <;> dsimp only at H
 refine Tc (aBO _ _ _ _ _ _ h22).s ?_
 refine cY (fun v12 v13 v14=>?_)
 refine aT ?_
 refine cW (fun b8 h23=>?_);subst h23
 refine aD 2 rfl (fun hc_v12=>?_)
 refine aD 3 rfl (fun hc_v14=>?_)
 refine Z3 ?_
 refine aE [4,1,0,2,3] (by decide) ?_
 exact Tm ((y15.Stack,z2,y17.CodeProg.Free,y17.CodeProg.Defs,y17.CodeProg.Code,y17.CodeProg.Main,y17.begins,y17.last,y17.levels,y17.todo,v12,b8,v14)) (ij H)
 refine Tp (aBO _ _ _ _ _ _ h22).pan ?_
 revert H;refine B2 fun r13 H e13=>?_
 cases e13;cases Hr1
 cases H
 exact bB
 exact fk
 kernel_rfl
 refine oO trivial rfl (has rfl) aK.nil rfl (cb rfl) (mE b3 (⟨((a0.levels.get a1).getD (⟨0,0⟩:CodeLevel)).Stack,((a0.levels.get a1).getD (⟨0,0⟩:CodeLevel)).Slots⟩:CodeLevel) (Sum.inr pv12) h18).pan rfl ?_
 revert H;refine B3 fun r14 H e14=>?_
 cases e14;cases Hr1
 cases H
 exact bB
 revert H;refine I5 (fun c12 H=>?_) fun c12 H=>?_
 revert H;refine B7 fun y18 h24 H=>?_
 rcases y18 with y18 | pv14 <;> dsimp only at H
 refine Tc (aO _ _ h24).s ?_
 refine Z5 ?_
 refine aR ?_
 refine cF (φs':=[fI (((a0.levels.get a1).getD (⟨0,0⟩:CodeLevel)).Stack),fI ((⟨y1.Op,y1.A,y1.B⟩:CodeIns).A)]) trivial rfl rfl (has rfl) (has rfl) (aG trivial) (sz rfl) rfl rfl ?_
 refine Z3 ?_
 exact Tm ((((a0.levels.get a1).getD (⟨0,0⟩:CodeLevel)).Stack,(⟨y1.Op,y1.A,y1.B⟩:CodeIns).A,a0.CodeProg.Free,a0.CodeProg.Defs,a0.CodeProg.Code,a0.CodeProg.Main,a0.begins,a0.last,a0.levels,a0.todo,v1,b1,v3)) (ij H)
 refine Tp (aO _ _ h24).pan ?_
 revert H;refine B3 fun r15 H e15=>?_
 cases e15;cases Hr1
 cases H
 exact bB
 revert H;refine B1 fun o3 H Hr3=>?_
 refine bD (ι:=Bool) (fun i=>o3=i) (fun i=>[(0,fEq (ptr p0)),(1,fI a1),(4,bK aJ (⟨y1.Op,y1.A,y1.B⟩:CodeIns)),(5,fEq (ptr b3)),(6,eP 119 [bK aJ (⟨y1.Op,y1.A,y1.B⟩:CodeIns),fEq (ptr b3)]),(7,eP 120 [fEq (ptr b3)]),(26,fI ((⟨y1.Op,y1.A,y1.B⟩:CodeIns).Op)),(131,aS i)]) (fun i=>[aA p0 90 [fI a0.CodeProg.Free,fSl aF a0.CodeProg.Defs,fSl aJ a0.CodeProg.Code,fI a0.CodeProg.Main,fSl tI a0.begins,fEq v1,fEq (.map (some b1)),fEq v3],aA b3 79 [fI (((a0.levels.get a1).getD (⟨0,0⟩:CodeLevel)).Stack),fI (((a0.levels.get a1).getD (⟨0,0⟩:CodeLevel)).Slots)],bC aZ (fun y=>fSt bG y) b1 a0.levels,aB v1 3 tI a0.last,aB v3 3 tI a0.todo]) ?_ ?_
 revert H;refine I4 (fun c13 H=>?_) fun c13 H=>?_
 refine Z3 ?_
 exact Tm (decide (((⟨y1.Op,y1.A,y1.B⟩:CodeIns).Op)=13)) (ij H)
 refine Z5 ?_
 exact Tm (decide (((⟨y1.Op,y1.A,y1.B⟩:CodeIns).Op)=15)) (ij H)
 clear H;intro x12 hi;subst o3;have H:=Hr3;clear Hr3;try dsimp only at H
 try dsimp only
 revert H;refine cs (fun c14 H=>?_) fun c14 H=>?_
 refine Z3 ?_
 refine aR ?_
 refine lF (x:=(⟨((a0.levels.get a1).getD (⟨0,0⟩:CodeLevel)).Stack,((a0.levels.get a1).getD (⟨0,0⟩:CodeLevel)).Slots⟩:CodeLevel)) ?_
 revert H;refine bs fun y19 h25 H=>?_
 rcases y19 with y19 | pv15 <;> dsimp only at H
 refine kR trivial rfl rfl rfl (has rfl) aK.nil rfl (cb rfl) (pF b3 (⟨y1.Op,y1.A,y1.B⟩:CodeIns) (⟨((a0.levels.get a1).getD (⟨0,0⟩:CodeLevel)).Stack,((a0.levels.get a1).getD (⟨0,0⟩:CodeLevel)).Slots⟩:CodeLevel) (Sum.inl y19) h25).s rfl ?_
 refine lN ?_
 refine Z3 ?_
 refine lF (x:=(⟨y19.Stack,y19.Slots⟩:CodeLevel)) ?_
 revert H;refine bs fun y20 h26 H=>?_
 rcases y20 with y20 | pv16 <;> dsimp only at H
 refine kR trivial rfl rfl rfl (has rfl) aK.nil rfl (cb rfl) (mE b3 (⟨y19.Stack,y19.Slots⟩:CodeLevel) (Sum.inl y20) h26).s rfl ?_
 refine lN ?_
 refine Z7 ?_
 refine Yy (gF (ψs:=[fI 0,fI y20.Slots]) rfl uU rfl (bH.cons (has rfl) (dJ (aG trivial)) bH.nil) rfl) ?_
 refine aT ?_
 refine cG ?_
 refine aY ?_
 refine aR ?_
 refine aY ?_
 refine aY ?_
 refine cD (x:=(⟨(⟨a0.CodeProg.Free,a0.CodeProg.Defs,a0.CodeProg.Code,a0.CodeProg.Main⟩:CodeProg),a0.begins,a0.last,a0.levels,a0.todo⟩:Code_checker)) ?_
 revert H;refine bs fun y21 h27 H=>?_
 rcases y21 with y21 | pv17 <;> dsimp only at H
 refine Tc (gN _ _ _ _ _ h27).s ?_
 refine cY (fun v15 v16 v17=>?_)
 refine aT ?_
 refine cW (fun b9 h28=>?_);subst h28
 refine aD 2 rfl (fun hc_v15=>?_)
 refine aD 3 rfl (fun hc_v17=>?_)
 refine Z3 ?_
 refine aE [4,1,0,2,3] (by decide) ?_
 exact Tm ((y20.Stack,y20.Slots,y21.CodeProg.Free,y21.CodeProg.Defs,y21.CodeProg.Code,y21.CodeProg.Main,y21.begins,y21.last,y21.levels,y21.todo,v15,b9,v17)) (ij H)
 refine Tp (gN _ _ _ _ _ h27).pan ?_
 revert H;refine B2 fun r16 H e16=>?_
 cases e16;cases Hr1
 cases H
 exact bB
 refine oO trivial rfl (has rfl) aK.nil rfl (cb rfl) (mE b3 (⟨y19.Stack,y19.Slots⟩:CodeLevel) (Sum.inr pv16) h26).pan rfl ?_
 revert H;refine B3 fun r17 H e17=>?_
 cases e17;cases Hr1
 cases H
 exact bB
 refine oO trivial rfl (has rfl) aK.nil rfl (cb rfl) (pF b3 (⟨y1.Op,y1.A,y1.B⟩:CodeIns) (⟨((a0.levels.get a1).getD (⟨0,0⟩:CodeLevel)).Stack,((a0.levels.get a1).getD (⟨0,0⟩:CodeLevel)).Slots⟩:CodeLevel) (Sum.inr pv15) h25).pan rfl ?_
 revert H;refine B3 fun r18 H e18=>?_
 cases e18;cases Hr1
 cases H
 exact bB
 revert H;refine I5 (fun c15 H=>?_) fun c15 H=>?_
 refine Z3 ?_
 refine aR ?_
 refine lF (x:=(⟨((a0.levels.get a1).getD (⟨0,0⟩:CodeLevel)).Stack,((a0.levels.get a1).getD (⟨0,0⟩:CodeLevel)).Slots⟩:CodeLevel)) ?_
 revert H;refine bs fun y22 h29 H=>?_
 rcases y22 with y22 | pv18 <;> dsimp only at H
 refine kR trivial rfl rfl rfl (has rfl) aK.nil rfl (cb rfl) (mE b3 (⟨((a0.levels.get a1).getD (⟨0,0⟩:CodeLevel)).Stack,((a0.levels.get a1).getD (⟨0,0⟩:CodeLevel)).Slots⟩:CodeLevel) (Sum.inl y22) h29).s rfl ?_
 refine lN ?_
 refine Z3 ?_
 exact Tm ((y22.Stack,y22.Slots,a0.CodeProg.Free,a0.CodeProg.Defs,a0.CodeProg.Code,a0.CodeProg.Main,a0.begins,a0.last,a0.levels,a0.todo,v1,b1,v3)) (ij H)
 refine oO trivial rfl (has rfl) aK.nil rfl (cb rfl) (mE b3 (⟨((a0.levels.get a1).getD (⟨0,0⟩:CodeLevel)).Stack,((a0.levels.get a1).getD (⟨0,0⟩:CodeLevel)).Slots⟩:CodeLevel) (Sum.inr pv18) h29).pan rfl ?_
 revert H;refine B2 fun r19 H e19=>?_
 cases e19;cases Hr1
 cases H
 exact bB
 revert H;refine I5 (fun c16 H=>?_) fun c16 H=>?_
 refine Z3 ?_
 refine aR ?_
 refine lF (x:=(⟨((a0.levels.get a1).getD (⟨0,0⟩:CodeLevel)).Stack,((a0.levels.get a1).getD (⟨0,0⟩:CodeLevel)).Slots⟩:CodeLevel)) ?_
 revert H;refine bs fun y23 h30 H=>?_
 rcases y23 with y23 | pv19 <;> dsimp only at H
 refine kR trivial rfl rfl rfl (has rfl) aK.nil rfl (cb rfl) (mE b3 (⟨((a0.levels.get a1).getD (⟨0,0⟩:CodeLevel)).Stack,((a0.levels.get a1).getD (⟨0,0⟩:CodeLevel)).Slots⟩:CodeLevel) (Sum.inl y23) h30).s rfl ?_
 refine lN ?_
 revert H;refine B4 fun r20 H e20=>?_
 cases e20;cases Hr1
 refine aT ?_
 refine cG ?_
 refine aY ?_
 refine aR ?_
 refine aY ?_
 refine aY ?_
 refine cD (x:=(⟨(⟨a0.CodeProg.Free,a0.CodeProg.Defs,a0.CodeProg.Code,a0.CodeProg.Main⟩:CodeProg),a0.begins,a0.last,a0.levels,a0.todo⟩:Code_checker)) ?_
 cases H
 refine fM ?_
 refine aE [0] (by decide) ?_
 exact eX (.inl rfl) rfl rfl
 refine oO trivial rfl (has rfl) aK.nil rfl (cb rfl) (mE b3 (⟨((a0.levels.get a1).getD (⟨0,0⟩:CodeLevel)).Stack,((a0.levels.get a1).getD (⟨0,0⟩:CodeLevel)).Slots⟩:CodeLevel) (Sum.inr pv19) h30).pan rfl ?_
 revert H;refine B3 fun r21 H e21=>?_
 cases e21;cases Hr1
 cases H
 exact bB
 refine Z4 ?_
 refine aE [1,0,2,3,4] (by decide) ?_
 exact Tm ((((a0.levels.get a1).getD (⟨0,0⟩:CodeLevel)).Stack,((a0.levels.get a1).getD (⟨0,0⟩:CodeLevel)).Slots,a0.CodeProg.Free,a0.CodeProg.Defs,a0.CodeProg.Code,a0.CodeProg.Main,a0.begins,a0.last,a0.levels,a0.todo,v1,b1,v3)) (ij H)
 clear H;intro i hi;obtain⟨x1,x2,x3,x4,x5,x6,x7,x8,x9,x10,v4,b4,v5⟩:=i;subst o1;have H:=Hr1;clear Hr1;try dsimp only at H
 try dsimp only
 refine aD 3 rfl (fun hc_v4=>?_)
 refine aD 4 rfl (fun hc_v5=>?_)
 revert H;refine B3 fun z3 h31 H=>?_
 refine Z2 ?_
 refine aT ?_
 refine cG ?_
 refine aY ?_
 refine aR ?_
 refine aY ?_
 refine aY ?_
 refine cD (x:=(⟨(⟨x3,x4,x5,x6⟩:CodeProg),x7,x8,x9,x10⟩:Code_checker)) ?_
 revert H;refine bs fun y24 h32 H=>?_
 rcases y24 with y24 | pv20 <;> dsimp only at H
 refine Tc (gN _ _ _ _ _ h32).s ?_
 refine cY (fun v18 v19 v20=>?_)
 refine aT ?_
 refine cW (fun b10 h33=>?_);subst h33
 refine aD 2 rfl (fun hc_v18=>?_)
 refine aD 3 rfl (fun hc_v20=>?_)
 refine Z1 ?_
 refine cG ?_
 refine bI ?_
 refine aR ?_
 refine bI ?_
 refine bI ?_
 refine cD (x:=(⟨(⟨y24.CodeProg.Free,y24.CodeProg.Defs,y24.CodeProg.Code,y24.CodeProg.Main⟩:CodeProg),y24.begins,y24.last,y24.levels,y24.todo⟩:Code_checker)) ?_
 cases H
 refine fM ?_
 refine aE [0] (by decide) ?_
 exact eX (.inr rfl) rfl rfl
 refine Tp (gN _ _ _ _ _ h32).pan ?_
 cases H
 exact bB
 exact fk
 kernel_rfl
open Go.SX Go.SW Go.Dt
theorem aF3 (p0 p1:Nat) (φ0 φ1:Fact):FnD Tryz.prog 68 [fEq (ptr p0),fEq (ptr p1)] [aA p0 85 [φ0],aA p1 4 [φ1]] (.returning) [aA p0 85 [φ0],aA p1 4 [φ1]]:=by
 refine yD Tryz.func68 rfl Tryz.ntmps68 rfl (fun β c₀ cs hc=>?_)
 refine aD9 (v:= .nilIface) (cs':=c₀ :: cs) (by simp [recoverD,hc]) rfl rfl rfl rfl ?_
 refine T_inS ?_
 refine Z2 ?_
 refine Yy (aDi rfl hh xP (rfl:mA _=some true)) ?_
 refine Z6 ?_
 exact xX (u':= .returning) (.inr rfl) rfl (by cases c₀;cases hc;rfl) rfl rfl
theorem iJ (p0 p1:Nat) (φ0 φ1:Fact):FnD Tryz.prog 68 [fEq (ptr p0),fEq (ptr p1)] [aA p0 85 [φ0],aA p1 4 [φ1]] (.panicking [{ v:=(.iface 163 (.agg #[])),recovered:=false }]) [aA p0 85 [fEq (Go.Value.pointer Option.none)],aA p1 4 [aS false]]:=by
 refine yD Tryz.func68 rfl Tryz.ntmps68 rfl (fun β c₀ cs hc=>?_)
 refine aD9 (v:=(.iface 163 (.agg #[]))) (cs':={ c₀ with mode:= .panicking [{ v:=(.iface 163 (.agg #[])),recovered:=true }] } :: cs) (by simp [recoverD,hc]) rfl rfl rfl rfl ?_
 refine T_inS ?_
 refine Z2 ?_
 refine Yy (aDi rfl hh xP (rfl:mA _=some false)) ?_
 refine Z3 ?_
 refine Yy (aG4 rfl hh aCg aG1) ?_
 refine Z2 ?_
 refine oX 10 rfl (rA []) ?_
 refine Z3 ?_
 refine Tn (cM rfl aGT rfl) fun b1=>?_
 refine cU (φs':=[]) trivial rfl rfl hh hh bO (sz rfl) rfl rfl rfl ?_
 refine Z2 ?_
 refine aR ?_
 refine cF (φs':=[fEq (Go.Value.pointer Option.none)]) trivial rfl rfl (has rfl) (has rfl) (aG trivial) (sz rfl) rfl rfl ?_
 refine aT ?_
 refine cF (φs':=[aS false]) trivial rfl rfl (has rfl) (has rfl) (aG trivial) (sz rfl) rfl rfl ?_
 refine Z2 ?_
 refine aE [1,0] (by decide) ?_
 exact xX (u':= .panicking [{ v:=(.iface 163 (.agg #[])),recovered:=true }]) (.inr rfl) rfl rfl rfl rfl
def lV (fuel:Nat) (a0:CodeProg):Nat → Int → Int → (List ScopeDef) → (List CodeIns) → Int → (List Int) → (List Int) → (aC Int CodeLevel) → (List Int) → Option ((Int × List ScopeDef × List CodeIns × Int × List Int × List Int × aC Int CodeLevel × List Int) ⊕ ((Option Code_checker) × Bool))
| 0,_,_,_,_,_,_,_,_,_=>none
| k+1,x26,x27,x28,x29,x30,x31,x32,x33,x34=>
 if x26<(a0.Defs.length:Int)then
  (idx a0.Defs x26).bind fun y8=>
  (tW fuel (⟨(⟨x27,x28,x29,x30⟩:CodeProg),x31,x32,x33,x34⟩:Code_checker) (⟨y8.Chans,y8.Spots,y8.Rules⟩:ScopeDef)).bind fun y9=>
  match y9 with
  | Sum.inr pv7=>((unW 163 pv7).bind fun e14=>some (none,false)).bind fun r=>some (Sum.inr r)
  | Sum.inl y9=>
  (chk (x26+1)).bind fun z1=>
  lV fuel a0 k z1 y9.CodeProg.Free y9.CodeProg.Defs y9.CodeProg.Code y9.CodeProg.Main y9.begins y9.last y9.levels y9.todo
 else
  some (Sum.inl (x27,x28,x29,x30,x31,x32,x33,x34))
def iF (fuel:Nat):Nat → Int → (List ScopeDef) → (List CodeIns) → Int → (List Int) → (List Int) → (aC Int CodeLevel) → (List Int) → Option ((Int × List ScopeDef × List CodeIns × Int × List Int × List Int × aC Int CodeLevel × List Int) ⊕ ((Option Code_checker) × Bool))
| 0,_,_,_,_,_,_,_,_=>none
| k+1,x51,x52,x53,x54,x55,x56,x57,x58=>
 if 0<(x58.length:Int)then
  (chk ((x58.length:Int) - 1)).bind fun z2=>
  (idx x58 z2).bind fun y13=>
  (chk ((x58.length:Int) - 1)).bind fun z3=>
  (slc x58 0 z3).bind fun y14=>
  (pV fuel (⟨(⟨x51,x52,x53,x54⟩:CodeProg),x55,x56,x57,y14⟩:Code_checker) y13).bind fun y15=>
  match y15 with
  | Sum.inr pv11=>((unW 163 pv11).bind fun e16=>some (none,false)).bind fun r=>some (Sum.inr r)
  | Sum.inl y15=>
  iF fuel k y15.CodeProg.Free y15.CodeProg.Defs y15.CodeProg.Code y15.CodeProg.Main y15.begins y15.last y15.levels y15.todo
 else
  some (Sum.inl (x51,x52,x53,x54,x55,x56,x57,x58))
def eI (fuel:Nat) (a0:CodeProg):Option ((Option Code_checker) × Bool):=
 (if 0 ≤ a0.Free then
  if a0.Free ≤ 12 then
   if (a0.Defs.length:Int) ≤ 12 then
    if 0<(a0.Code.length:Int)then
     if (a0.Code.length:Int) ≤ 12000 then
      (jP (⟨(⟨a0.Free,a0.Defs,a0.Code,a0.Main⟩:CodeProg),[],[],(aC.none:aC Int CodeLevel),[]⟩:Code_checker) a0.Main).bind fun y1=>
      (bJ y1.2).bind fun y2=>
      match y2 with
      | Sum.inr pv1=>((unW 163 pv1).bind fun e2=>some (none,false)).bind fun r=>some (Sum.inr r)
      | Sum.inl y2=>
      some (Sum.inl (y1.1.CodeProg.Free,y1.1.CodeProg.Defs,y1.1.CodeProg.Code,y1.1.CodeProg.Main,y1.1.begins,y1.1.last,y1.1.levels,y1.1.todo))
     else
      (bJ false).bind fun y3=>
      match y3 with
      | Sum.inr pv2=>((unW 163 pv2).bind fun e4=>some (none,false)).bind fun r=>some (Sum.inr r)
      | Sum.inl y3=>
      some (Sum.inl (a0.Free,a0.Defs,a0.Code,a0.Main,[],[],(aC.none:aC Int CodeLevel),[]))
    else
     (bJ false).bind fun y4=>
     match y4 with
     | Sum.inr pv3=>((unW 163 pv3).bind fun e6=>some (none,false)).bind fun r=>some (Sum.inr r)
     | Sum.inl y4=>
     some (Sum.inl (a0.Free,a0.Defs,a0.Code,a0.Main,[],[],(aC.none:aC Int CodeLevel),[]))
   else
    (bJ false).bind fun y5=>
    match y5 with
    | Sum.inr pv4=>((unW 163 pv4).bind fun e8=>some (none,false)).bind fun r=>some (Sum.inr r)
    | Sum.inl y5=>
    some (Sum.inl (a0.Free,a0.Defs,a0.Code,a0.Main,[],[],(aC.none:aC Int CodeLevel),[]))
  else
   (bJ false).bind fun y6=>
   match y6 with
   | Sum.inr pv5=>((unW 163 pv5).bind fun e10=>some (none,false)).bind fun r=>some (Sum.inr r)
   | Sum.inl y6=>
   some (Sum.inl (a0.Free,a0.Defs,a0.Code,a0.Main,[],[],(aC.none:aC Int CodeLevel),[]))
 else
  (bJ false).bind fun y7=>
  match y7 with
  | Sum.inr pv6=>((unW 163 pv6).bind fun e12=>some (none,false)).bind fun r=>some (Sum.inr r)
  | Sum.inl y7=>
  some (Sum.inl (a0.Free,a0.Defs,a0.Code,a0.Main,[],[],(aC.none:aC Int CodeLevel),[]))).bind fun o=>match o with
 | Sum.inr r=>some r
 | Sum.inl (x1,x2,x3,x4,x5,x6,x7,x8)=>
 (lV fuel a0 fuel 0 x1 x2 x3 x4 x5 x6 x7 x8).bind fun o=>match o with
 | Sum.inr r=>some r
 | Sum.inl (x9,x10,x11,x12,x13,x14,x15,x16)=>
 (sF fuel (⟨(⟨x9,x10,x11,x12⟩:CodeProg),x13,x14,x15,x16⟩:Code_checker)).bind fun y10=>
 match y10 with
 | Sum.inr pv8=>(unW 163 pv8).bind fun e20=>some (none,false)
 | Sum.inl y10=>
 (kN fuel (⟨(⟨y10.CodeProg.Free,y10.CodeProg.Defs,y10.CodeProg.Code,y10.CodeProg.Main⟩:CodeProg),y10.begins,y10.last,y10.levels,y10.todo⟩:Code_checker)).bind fun y11=>
 match y11 with
 | Sum.inr pv9=>(unW 163 pv9).bind fun e19=>some (none,false)
 | Sum.inl y11=>
 (jG (⟨(⟨y11.CodeProg.Free,y11.CodeProg.Defs,y11.CodeProg.Code,y11.CodeProg.Main⟩:CodeProg),y11.begins,y11.last,y11.levels,y11.todo⟩:Code_checker) a0.Main (⟨0,a0.Free⟩:CodeLevel)).bind fun y12=>
 match y12 with
 | Sum.inr pv10=>(unW 163 pv10).bind fun e18=>some (none,false)
 | Sum.inl y12=>
 (iF fuel fuel y12.CodeProg.Free y12.CodeProg.Defs y12.CodeProg.Code y12.CodeProg.Main y12.begins y12.last y12.levels y12.todo).bind fun o=>match o with
 | Sum.inr r=>some r
 | Sum.inl (x35,x36,x37,x38,x39,x40,x41,x42)=>
 (bJ (decide ((x41.size:Int)=(a0.Code.length:Int)))).bind fun y16=>
 match y16 with
 | Sum.inr pv12=>(unW 163 pv12).bind fun e17=>some (none,false)
 | Sum.inl y16=>
 some (some (⟨(⟨x35,x36,x37,x38⟩:CodeProg),x39,x40,x41,x42⟩:Code_checker),true)
theorem aFs (fuel:Nat)  (a0:CodeProg) (r:(Option Code_checker) × Bool) (H:eI fuel a0=some r):FnS Tryz.prog 31 [fSt kK a0] [] (dZ [fOpt aA1 r.1,aS r.2]) (fun _=>[]):=by
 unfold eI at H
 refine aEl Tryz.func31 rfl Tryz.ntmps31 rfl (fun β=>?_)
 refine Z1 ?_
 refine Tn (dO rfl hh cO) fun b1=>?_
 refine Tn (cM rfl ty_ze_85 rfl) fun b2=>?_
 refine Tn (cM rfl aA0 rfl) fun b3=>?_
 refine Z2 ?_
 refine Yy (rX rfl (aK.cons hh (aK.cons hh aK.nil))) ?_
 refine aDE (vs:=[ptr b2,ptr b3]) trivial rfl rfl (has rfl) ?_
 refine Z3 ?_
 refine Tn (aAT (fun y=>fSt bG y) aZ rfl) fun b4=>?_
 refine Yy (gF (ψs:=[fI a0.Free,fSl aF a0.Defs,fSl aJ a0.Code,fI a0.Main,fEq (.slice none 0 0),fEq (.slice none 0 0),fEq (.map (some b4)),fEq (.slice none 0 0)]) rfl ty_bu_90 rfl (bH.cons (has rfl) cO (bH.cons (has rfl) (dJ (aG trivial)) bH.nil)) rfl) ?_
 refine Tn (dO rfl hh cO) fun b5=>?_
 refine bI ?_
 refine cF (φs':=[fEq (ptr b5)]) trivial rfl rfl (has rfl) (has rfl) (aG trivial) (sz rfl) rfl rfl ?_
 revert H;refine B1 fun o1 H Hr1=>?_
 refine bD (ι:=Int × List ScopeDef × List CodeIns × Int × List Int × List Int × aC Int CodeLevel × List Int × Value × Nat × Value) (fun i=>o1=Sum.inl (i.1,i.2.1,i.2.2.1,i.2.2.2.1,i.2.2.2.2.1,i.2.2.2.2.2.1,i.2.2.2.2.2.2.1,i.2.2.2.2.2.2.2.1)) (fun i=>[(1,fEq (ptr b1)),(2,fEq (ptr b2)),(3,fEq (ptr b3))]) (fun i=>[aA b5 90 [fI i.1,fSl aF i.2.1,fSl aJ i.2.2.1,fI i.2.2.2.1,fSl tI i.2.2.2.2.1,fEq i.2.2.2.2.2.2.2.2.1,fEq (.map (some i.2.2.2.2.2.2.2.2.2.1)),fEq i.2.2.2.2.2.2.2.2.2.2],aA b2 85 [fEq (ptr b5)],aA b3 4 [aS false],aA b1 25 [fI a0.Free,fSl aF a0.Defs,fSl aJ a0.Code,fI a0.Main],bC aZ (fun y=>fSt bG y) i.2.2.2.2.2.2.2.2.2.1 i.2.2.2.2.2.2.1,aB i.2.2.2.2.2.2.2.2.1 3 tI i.2.2.2.2.2.1,aB i.2.2.2.2.2.2.2.2.2.2 3 tI i.2.2.2.2.2.2.2.1]) ?_ ?_
 revert H;refine I5 (fun c1 H=>?_) fun c1 H=>?_
 revert H;refine I5 (fun c2 H=>?_) fun c2 H=>?_
 revert H;refine I6 (fun c3 H=>?_) fun c3 H=>?_
 revert H;refine I6 (fun c4 H=>?_) fun c4 H=>?_
 revert H;refine I6 (fun c5 H=>?_) fun c5 H=>?_
 refine Z3 ?_
 refine fK tI 3 ?_
 refine fK tI 3 ?_
 refine bI ?_
 refine nP (ψs:=[fI (((⟨(⟨a0.Free,a0.Defs,a0.Code,a0.Main⟩:CodeProg),[],[],(aC.none:aC Int CodeLevel),[]⟩:Code_checker).CodeProg).Free),fSl aF (((⟨(⟨a0.Free,a0.Defs,a0.Code,a0.Main⟩:CodeProg),[],[],(aC.none:aC Int CodeLevel),[]⟩:Code_checker).CodeProg).Defs),fSl aJ (((⟨(⟨a0.Free,a0.Defs,a0.Code,a0.Main⟩:CodeProg),[],[],(aC.none:aC Int CodeLevel),[]⟩:Code_checker).CodeProg).Code),fI (((⟨(⟨a0.Free,a0.Defs,a0.Code,a0.Main⟩:CodeProg),[],[],(aC.none:aC Int CodeLevel),[]⟩:Code_checker).CodeProg).Main),fSl tI ((⟨(⟨a0.Free,a0.Defs,a0.Code,a0.Main⟩:CodeProg),[],[],(aC.none:aC Int CodeLevel),[]⟩:Code_checker).begins),fEq (.slice none 0 0),fEq (.map (some b4)),fEq (.slice none 0 0)]) (aH.cons Ent.rfl (aH.cons Ent.rfl (aH.cons Ent.rfl (aH.cons Ent.rfl (aH.cons eM (aH.cons Ent.rfl (aH.cons Ent.rfl (aH.cons Ent.rfl aH.nil)))))))) ?_
 refine aY ?_
 refine cG ?_
 refine aT ?_
 refine aR ?_
 refine bI ?_
 refine bI ?_
 refine cD (x:=(⟨(⟨a0.Free,a0.Defs,a0.Code,a0.Main⟩:CodeProg),[],[],(aC.none:aC Int CodeLevel),[]⟩:Code_checker)) ?_
 revert H;refine bs fun y1 h1 H=>?_
 refine Tc (rV _ _ _ _ h1) ?_
 refine cY (fun v3 v4 v5=>?_)
 refine aT ?_
 refine cW (fun b7 h2=>?_);subst h2
 refine aD 2 rfl (fun hc_v3=>?_)
 refine aD 3 rfl (fun hc_v5=>?_)
 revert H;refine B1 fun y2 h3 H=>?_
 rcases y2 with y2 | pv1 <;> dsimp only at H
 refine Tc (aO _ _ h3).s ?_
 refine Z1 ?_
 refine aE [1,4,5,6,0,2,3] (by decide) ?_
 exact Tm ((y1.1.CodeProg.Free,y1.1.CodeProg.Defs,y1.1.CodeProg.Code,y1.1.CodeProg.Main,y1.1.begins,y1.1.last,y1.1.levels,y1.1.todo,v3,b7,v5)) (ij H)
 refine Tp (aO _ _ h3).pan ?_
 revert H;refine B1 fun r1 H e1=>?_
 cases e1;cases Hr1
 have H0:=H;clear H;obtain⟨e2,h4,H⟩:=bind_some H0;clear H0;have hv_e2:=iI h4;subst hv_e2
 cases H
 refine aE [4,5] (by decide) ?_
 exact iB (fX (vs:=[ptr b2,ptr b3]) (u:= .panicking [{ v:= .iface 163 (.agg #[]),recovered:=false }]) (by simp) (cb rfl) (iJ _ _ _ _) rfl (dX rfl rfl rfl (sc rfl) (sc rfl) iM Ent.rfl))
 revert H;refine B5 fun y3 h5 H=>?_
 rcases y3 with y3 | pv2 <;> dsimp only at H
 refine Tc (aO _ _ h5).s ?_
 refine Z1 ?_
 refine fK tI 3 ?_
 refine fK tI 3 ?_
 refine bI ?_
 refine nP (ψs:=[fI a0.Free,fSl aF a0.Defs,fSl aJ a0.Code,fI a0.Main,fSl tI [],fEq (.slice none 0 0),fEq (.map (some b4)),fEq (.slice none 0 0)]) (aH.cons Ent.rfl (aH.cons Ent.rfl (aH.cons Ent.rfl (aH.cons Ent.rfl (aH.cons eM (aH.cons Ent.rfl (aH.cons Ent.rfl (aH.cons Ent.rfl aH.nil)))))))) ?_
 refine aE [0,3,5,6,4,2,1] (by decide) ?_
 exact Tm ((a0.Free,a0.Defs,a0.Code,a0.Main,[],[],(aC.none:aC Int CodeLevel),[],(.slice none 0 0),b4,(.slice none 0 0))) (ij H)
 refine Tp (aO _ _ h5).pan ?_
 revert H;refine B1 fun r2 H e3=>?_
 cases e3;cases Hr1
 have H0:=H;clear H;obtain⟨e4,h6,H⟩:=bind_some H0;clear H0;have hv_e4:=iI h6;subst hv_e4
 cases H
 refine aE [0,3] (by decide) ?_
 exact iB (fX (vs:=[ptr b2,ptr b3]) (u:= .panicking [{ v:= .iface 163 (.agg #[]),recovered:=false }]) (by simp) (cb rfl) (iJ _ _ _ _) rfl (dX rfl rfl rfl (sc rfl) (sc rfl) iM Ent.rfl))
 revert H;refine B11 fun y4 h7 H=>?_
 rcases y4 with y4 | pv3 <;> dsimp only at H
 refine Tc (aO _ _ h7).s ?_
 refine Z1 ?_
 refine fK tI 3 ?_
 refine fK tI 3 ?_
 refine bI ?_
 refine nP (ψs:=[fI a0.Free,fSl aF a0.Defs,fSl aJ a0.Code,fI a0.Main,fSl tI [],fEq (.slice none 0 0),fEq (.map (some b4)),fEq (.slice none 0 0)]) (aH.cons Ent.rfl (aH.cons Ent.rfl (aH.cons Ent.rfl (aH.cons Ent.rfl (aH.cons eM (aH.cons Ent.rfl (aH.cons Ent.rfl (aH.cons Ent.rfl aH.nil)))))))) ?_
 refine aE [0,3,5,6,4,2,1] (by decide) ?_
 exact Tm ((a0.Free,a0.Defs,a0.Code,a0.Main,[],[],(aC.none:aC Int CodeLevel),[],(.slice none 0 0),b4,(.slice none 0 0))) (ij H)
 refine Tp (aO _ _ h7).pan ?_
 revert H;refine B1 fun r3 H e5=>?_
 cases e5;cases Hr1
 have H0:=H;clear H;obtain⟨e6,h8,H⟩:=bind_some H0;clear H0;have hv_e6:=iI h8;subst hv_e6
 cases H
 refine aE [0,3] (by decide) ?_
 exact iB (fX (vs:=[ptr b2,ptr b3]) (u:= .panicking [{ v:= .iface 163 (.agg #[]),recovered:=false }]) (by simp) (cb rfl) (iJ _ _ _ _) rfl (dX rfl rfl rfl (sc rfl) (sc rfl) iM Ent.rfl))
 refine Z12 ?_
 revert H;refine B5 fun y5 h9 H=>?_
 rcases y5 with y5 | pv4 <;> dsimp only at H
 refine Tc (aO _ _ h9).s ?_
 refine Z1 ?_
 refine fK tI 3 ?_
 refine fK tI 3 ?_
 refine bI ?_
 refine nP (ψs:=[fI a0.Free,fSl aF a0.Defs,fSl aJ a0.Code,fI a0.Main,fSl tI [],fEq (.slice none 0 0),fEq (.map (some b4)),fEq (.slice none 0 0)]) (aH.cons Ent.rfl (aH.cons Ent.rfl (aH.cons Ent.rfl (aH.cons Ent.rfl (aH.cons eM (aH.cons Ent.rfl (aH.cons Ent.rfl (aH.cons Ent.rfl aH.nil)))))))) ?_
 refine aE [0,3,5,6,4,2,1] (by decide) ?_
 exact Tm ((a0.Free,a0.Defs,a0.Code,a0.Main,[],[],(aC.none:aC Int CodeLevel),[],(.slice none 0 0),b4,(.slice none 0 0))) (ij H)
 refine Tp (aO _ _ h9).pan ?_
 revert H;refine B1 fun r4 H e7=>?_
 cases e7;cases Hr1
 have H0:=H;clear H;obtain⟨e8,h10,H⟩:=bind_some H0;clear H0;have hv_e8:=iI h10;subst hv_e8
 cases H
 refine aE [0,3] (by decide) ?_
 exact iB (fX (vs:=[ptr b2,ptr b3]) (u:= .panicking [{ v:= .iface 163 (.agg #[]),recovered:=false }]) (by simp) (cb rfl) (iJ _ _ _ _) rfl (dX rfl rfl rfl (sc rfl) (sc rfl) iM Ent.rfl))
 refine Z12 ?_
 revert H;refine B11 fun y6 h11 H=>?_
 rcases y6 with y6 | pv5 <;> dsimp only at H
 refine Tc (aO _ _ h11).s ?_
 refine Z1 ?_
 refine fK tI 3 ?_
 refine fK tI 3 ?_
 refine bI ?_
 refine nP (ψs:=[fI a0.Free,fSl aF a0.Defs,fSl aJ a0.Code,fI a0.Main,fSl tI [],fEq (.slice none 0 0),fEq (.map (some b4)),fEq (.slice none 0 0)]) (aH.cons Ent.rfl (aH.cons Ent.rfl (aH.cons Ent.rfl (aH.cons Ent.rfl (aH.cons eM (aH.cons Ent.rfl (aH.cons Ent.rfl (aH.cons Ent.rfl aH.nil)))))))) ?_
 refine aE [0,3,5,6,4,2,1] (by decide) ?_
 exact Tm ((a0.Free,a0.Defs,a0.Code,a0.Main,[],[],(aC.none:aC Int CodeLevel),[],(.slice none 0 0),b4,(.slice none 0 0))) (ij H)
 refine Tp (aO _ _ h11).pan ?_
 revert H;refine B1 fun r5 H e9=>?_
 cases e9;cases Hr1
 have H0:=H;clear H;obtain⟨e10,h12,H⟩:=bind_some H0;clear H0;have hv_e10:=iI h12;subst hv_e10
 cases H
 refine aE [0,3] (by decide) ?_
 exact iB (fX (vs:=[ptr b2,ptr b3]) (u:= .panicking [{ v:= .iface 163 (.agg #[]),recovered:=false }]) (by simp) (cb rfl) (iJ _ _ _ _) rfl (dX rfl rfl rfl (sc rfl) (sc rfl) iM Ent.rfl))
 refine Z12 ?_
 refine Z12 ?_
 revert H;refine B4 fun y7 h13 H=>?_
 rcases y7 with y7 | pv6 <;> dsimp only at H
 refine Tc (aO _ _ h13).s ?_
 refine Z1 ?_
 refine fK tI 3 ?_
 refine fK tI 3 ?_
 refine bI ?_
 refine nP (ψs:=[fI a0.Free,fSl aF a0.Defs,fSl aJ a0.Code,fI a0.Main,fSl tI [],fEq (.slice none 0 0),fEq (.map (some b4)),fEq (.slice none 0 0)]) (aH.cons Ent.rfl (aH.cons Ent.rfl (aH.cons Ent.rfl (aH.cons Ent.rfl (aH.cons eM (aH.cons Ent.rfl (aH.cons Ent.rfl (aH.cons Ent.rfl aH.nil)))))))) ?_
 refine aE [0,3,5,6,4,2,1] (by decide) ?_
 exact Tm ((a0.Free,a0.Defs,a0.Code,a0.Main,[],[],(aC.none:aC Int CodeLevel),[],(.slice none 0 0),b4,(.slice none 0 0))) (ij H)
 refine Tp (aO _ _ h13).pan ?_
 revert H;refine B1 fun r6 H e11=>?_
 cases e11;cases Hr1
 have H0:=H;clear H;obtain⟨e12,h14,H⟩:=bind_some H0;clear H0;have hv_e12:=iI h14;subst hv_e12
 cases H
 refine aE [0,3] (by decide) ?_
 exact iB (fX (vs:=[ptr b2,ptr b3]) (u:= .panicking [{ v:= .iface 163 (.agg #[]),recovered:=false }]) (by simp) (cb rfl) (iJ _ _ _ _) rfl (dX rfl rfl rfl (sc rfl) (sc rfl) iM Ent.rfl))
 clear H;intro i hi;obtain⟨x1,x2,x3,x4,x5,x6,x7,x8,v1,b6,v2⟩:=i;subst o1;have H:=Hr1;clear Hr1;try dsimp only at H
 try dsimp only
 refine aD 5 rfl (fun hc_v1=>?_)
 refine aD 6 rfl (fun hc_v2=>?_)
 revert H;refine bs fun o2 H Hr2=>?_
 refine bD (ι:=Int × List ScopeDef × List CodeIns × Int × List Int × List Int × aC Int CodeLevel × List Int × Value × Nat × Value) (fun i=>o2=Sum.inl (i.1,i.2.1,i.2.2.1,i.2.2.2.1,i.2.2.2.2.1,i.2.2.2.2.2.1,i.2.2.2.2.2.2.1,i.2.2.2.2.2.2.2.1)) (fun i=>[(1,fEq (ptr b1)),(2,fEq (ptr b2)),(3,fEq (ptr b3))]) (fun i=>[aA b5 90 [fI i.1,fSl aF i.2.1,fSl aJ i.2.2.1,fI i.2.2.2.1,fSl tI i.2.2.2.2.1,fEq i.2.2.2.2.2.2.2.2.1,fEq (.map (some i.2.2.2.2.2.2.2.2.2.1)),fEq i.2.2.2.2.2.2.2.2.2.2],aA b2 85 [fEq (ptr b5)],aA b3 4 [aS false],aA b1 25 [fI a0.Free,fSl aF a0.Defs,fSl aJ a0.Code,fI a0.Main],bC aZ (fun y=>fSt bG y) i.2.2.2.2.2.2.2.2.2.1 i.2.2.2.2.2.2.1,aB i.2.2.2.2.2.2.2.2.1 3 tI i.2.2.2.2.2.1,aB i.2.2.2.2.2.2.2.2.2.2 3 tI i.2.2.2.2.2.2.2.1]) ?_ ?_
 refine Z7 ?_
 refine Tl (ι:=Nat × Int × Int × List ScopeDef × List CodeIns × Int × List Int × List Int × aC Int CodeLevel × List Int × Value × Nat × Value) (fun i=>lV fuel a0 i.1 i.2.1 i.2.2.1 i.2.2.2.1 i.2.2.2.2.1 i.2.2.2.2.2.1 i.2.2.2.2.2.2.1 i.2.2.2.2.2.2.2.1 i.2.2.2.2.2.2.2.2.1 i.2.2.2.2.2.2.2.2.2.1=_) (fun i=>i.1) (fun i=>[(1,fEq (ptr b1)),(2,fEq (ptr b2)),(3,fEq (ptr b3)),(46,fSl aF a0.Defs),(47,fI (a0.Defs.length:Int)),(48,fI i.2.1)]) (fun i=>[aA b5 90 [fI i.2.2.1,fSl aF i.2.2.2.1,fSl aJ i.2.2.2.2.1,fI i.2.2.2.2.2.1,fSl tI i.2.2.2.2.2.2.1,fEq i.2.2.2.2.2.2.2.2.2.2.1,fEq (.map (some i.2.2.2.2.2.2.2.2.2.2.2.1)),fEq i.2.2.2.2.2.2.2.2.2.2.2.2],aA b2 85 [fEq (ptr b5)],aA b3 4 [aS false],aA b1 25 [fI a0.Free,fSl aF a0.Defs,fSl aJ a0.Code,fI a0.Main],bC aZ (fun y=>fSt bG y) i.2.2.2.2.2.2.2.2.2.2.2.1 i.2.2.2.2.2.2.2.2.1,aB i.2.2.2.2.2.2.2.2.2.2.1 3 tI i.2.2.2.2.2.2.2.1,aB i.2.2.2.2.2.2.2.2.2.2.2.2 3 tI i.2.2.2.2.2.2.2.2.2.1]) (fuel,0,x1,x2,x3,x4,x5,x6,x7,x8,v1,b6,v2) H ?_
 clear H;rintro⟨k1,x26,x27,x28,x29,x30,x31,x32,x33,x34,v10,b10,v11⟩ H
 replace H:lV fuel a0 k1 x26 x27 x28 x29 x30 x31 x32 x33 x34=_:=H
 try dsimp only
 obtain _ | k1:=k1
 rw [lV]at H;cases H
 rw [lV]at H
 refine aD 5 rfl (fun hc_v10=>?_)
 refine aD 6 rfl (fun hc_v11=>?_)
 refine Z3 ?_
 refine aW ?_
 revert H;refine is (fun c6 H=>?_) fun c6 H=>?_
 refine Z3 ?_
 refine aW ?_
 revert H;refine B2 fun y8 h15 H=>?_
 refine Z2 ?_
 refine Tn (cM rfl rU rfl) fun b11=>?_
 refine cU (φs':=[fSl dA y8.Chans,fSl cL y8.Spots,fSl bW y8.Rules]) trivial rfl rfl (has rfl) (has rfl) (aM (cR) (aM (cR) (aM (cR) bO))) (sz rfl) rfl rfl rfl ?_
 refine Z4 ?_
 refine eZ ?_
 refine cG ?_
 refine T_fr7 ?_
 refine aR ?_
 refine T_fr7 ?_
 refine aY ?_
 refine cD (x:=(⟨(⟨x27,x28,x29,x30⟩:CodeProg),x31,x32,x33,x34⟩:Code_checker)) ?_
 revert H;refine bs fun y9 h16 H=>?_
 rcases y9 with y9 | pv7 <;> dsimp only at H
 refine Tc (aD7 _ _ _ _ _ h16).s ?_
 refine cY (fun v12 v13 v14=>?_)
 refine aT ?_
 refine cW (fun b12 h17=>?_);subst h17
 refine aD 2 rfl (fun hc_v12=>?_)
 refine aD 3 rfl (fun hc_v14=>?_)
 revert H;refine B4 fun z1 h18 H=>?_
 refine Z3 ?_
 refine aE [1,5,6,7,0,2,3] (by decide) ?_
 exact Tm ((k1,z1,y9.CodeProg.Free,y9.CodeProg.Defs,y9.CodeProg.Code,y9.CodeProg.Main,y9.begins,y9.last,y9.levels,y9.todo,v12,b12,v14)) ⟨H,ls⟩
 refine Tp (aD7 _ _ _ _ _ h16).pan ?_
 revert H;refine B5 fun r7 H e13=>?_
 cases e13;cases Hr2
 have H0:=H;clear H;obtain⟨e14,h19,H⟩:=bind_some H0;clear H0;have hv_e14:=iI h19;subst hv_e14
 cases H
 refine aE [1,2] (by decide) ?_
 exact iB (fX (vs:=[ptr b2,ptr b3]) (u:= .panicking [{ v:= .iface 163 (.agg #[]),recovered:=false }]) (by simp) (cb rfl) (iJ _ _ _ _) rfl (dX rfl rfl rfl (sc rfl) (sc rfl) iM Ent.rfl))
 refine Z6 ?_
 exact Tm ((x27,x28,x29,x30,x31,x32,x33,x34,v10,b10,v11)) (ij H)
 clear H;intro i hi;obtain⟨x9,x10,x11,x12,x13,x14,x15,x16,v6,b8,v7⟩:=i;subst o2;have H:=Hr2;clear Hr2;try dsimp only at H
 try dsimp only
 refine aD 5 rfl (fun hc_v6=>?_)
 refine aD 6 rfl (fun hc_v7=>?_)
 refine Z2 ?_
 refine aY ?_
 refine cG ?_
 refine oN ?_
 refine aR ?_
 refine oN ?_
 refine bI ?_
 refine cD (x:=(⟨(⟨x9,x10,x11,x12⟩:CodeProg),x13,x14,x15,x16⟩:Code_checker)) ?_
 revert H;refine bs fun y10 h20 H=>?_
 rcases y10 with y10 | pv8 <;> dsimp only at H
 refine Tc (aEq _ _ _ _ h20).s ?_
 refine cY (fun v15 v16 v17=>?_)
 refine aT ?_
 refine cW (fun b13 h21=>?_);subst h21
 refine aD 2 rfl (fun hc_v15=>?_)
 refine aD 3 rfl (fun hc_v17=>?_)
 refine Z3 ?_
 refine cG ?_
 refine bI ?_
 refine aR ?_
 refine bI ?_
 refine bI ?_
 refine cD (x:=(⟨(⟨y10.CodeProg.Free,y10.CodeProg.Defs,y10.CodeProg.Code,y10.CodeProg.Main⟩:CodeProg),y10.begins,y10.last,y10.levels,y10.todo⟩:Code_checker)) ?_
 revert H;refine bs fun y11 h22 H=>?_
 rcases y11 with y11 | pv9 <;> dsimp only at H
 refine Tc (aEc _ _ _ _ h22).s ?_
 refine cY (fun v18 v19 v20=>?_)
 refine aT ?_
 refine cW (fun b14 h23=>?_);subst h23
 refine aD 2 rfl (fun hc_v18=>?_)
 refine aD 3 rfl (fun hc_v20=>?_)
 refine Z7 ?_
 refine Yy (gF (ψs:=[fI 0,fI a0.Free]) rfl uU rfl (bH.cons (has rfl) (dJ (aG trivial)) bH.nil) rfl) ?_
 refine cG ?_
 refine bI ?_
 refine aR ?_
 refine bI ?_
 refine bI ?_
 refine cD (x:=(⟨(⟨y11.CodeProg.Free,y11.CodeProg.Defs,y11.CodeProg.Code,y11.CodeProg.Main⟩:CodeProg),y11.begins,y11.last,y11.levels,y11.todo⟩:Code_checker)) ?_
 revert H;refine bs fun y12 h24 H=>?_
 rcases y12 with y12 | pv10 <;> dsimp only at H
 refine Tc (gN _ _ _ _ _ h24).s ?_
 refine cY (fun v21 v22 v23=>?_)
 refine aT ?_
 refine cW (fun b15 h25=>?_);subst h25
 refine aD 2 rfl (fun hc_v21=>?_)
 refine aD 3 rfl (fun hc_v23=>?_)
 revert H;refine B1 fun o3 H Hr3=>?_
 refine bD (ι:=Int × List ScopeDef × List CodeIns × Int × List Int × List Int × aC Int CodeLevel × List Int × Value × Nat × Value) (fun i=>o3=Sum.inl (i.1,i.2.1,i.2.2.1,i.2.2.2.1,i.2.2.2.2.1,i.2.2.2.2.2.1,i.2.2.2.2.2.2.1,i.2.2.2.2.2.2.2.1)) (fun i=>[(1,fEq (ptr b1)),(2,fEq (ptr b2)),(3,fEq (ptr b3))]) (fun i=>[aA b5 90 [fI i.1,fSl aF i.2.1,fSl aJ i.2.2.1,fI i.2.2.2.1,fSl tI i.2.2.2.2.1,fEq i.2.2.2.2.2.2.2.2.1,fEq (.map (some i.2.2.2.2.2.2.2.2.2.1)),fEq i.2.2.2.2.2.2.2.2.2.2],aA b2 85 [fEq (ptr b5)],aA b3 4 [aS false],aA b1 25 [fI a0.Free,fSl aF a0.Defs,fSl aJ a0.Code,fI a0.Main],bC aZ (fun y=>fSt bG y) i.2.2.2.2.2.2.2.2.2.1 i.2.2.2.2.2.2.1,aB i.2.2.2.2.2.2.2.2.1 3 tI i.2.2.2.2.2.1,aB i.2.2.2.2.2.2.2.2.2.2 3 tI i.2.2.2.2.2.2.2.1]) ?_ ?_
 refine Z1 ?_
 refine aE [1,4,5,6,0,2,3] (by decide) ?_
 refine Tl (ι:=Nat × Int × List ScopeDef × List CodeIns × Int × List Int × List Int × aC Int CodeLevel × List Int × Value × Nat × Value) (fun i=>iF fuel i.1 i.2.1 i.2.2.1 i.2.2.2.1 i.2.2.2.2.1 i.2.2.2.2.2.1 i.2.2.2.2.2.2.1 i.2.2.2.2.2.2.2.1 i.2.2.2.2.2.2.2.2.1=_) (fun i=>i.1) (fun i=>[(1,fEq (ptr b1)),(2,fEq (ptr b2)),(3,fEq (ptr b3))]) (fun i=>[aA b5 90 [fI i.2.1,fSl aF i.2.2.1,fSl aJ i.2.2.2.1,fI i.2.2.2.2.1,fSl tI i.2.2.2.2.2.1,fEq i.2.2.2.2.2.2.2.2.2.1,fEq (.map (some i.2.2.2.2.2.2.2.2.2.2.1)),fEq i.2.2.2.2.2.2.2.2.2.2.2],aA b2 85 [fEq (ptr b5)],aA b3 4 [aS false],aA b1 25 [fI a0.Free,fSl aF a0.Defs,fSl aJ a0.Code,fI a0.Main],bC aZ (fun y=>fSt bG y) i.2.2.2.2.2.2.2.2.2.2.1 i.2.2.2.2.2.2.2.1,aB i.2.2.2.2.2.2.2.2.2.1 3 tI i.2.2.2.2.2.2.1,aB i.2.2.2.2.2.2.2.2.2.2.2 3 tI i.2.2.2.2.2.2.2.2.1]) (fuel,y12.CodeProg.Free,y12.CodeProg.Defs,y12.CodeProg.Code,y12.CodeProg.Main,y12.begins,y12.last,y12.levels,y12.todo,v21,b15,v23) H ?_
 clear H;rintro⟨k2,x51,x52,x53,x54,x55,x56,x57,x58,v28,b18,v29⟩ H
 replace H:iF fuel k2 x51 x52 x53 x54 x55 x56 x57 x58=_:=H
 try dsimp only
 obtain _ | k2:=k2
 rw [iF]at H;cases H
 rw [iF]at H
 refine aD 5 rfl (fun hc_v28=>?_)
 refine aD 6 rfl (fun hc_v29=>?_)
 refine aW ?_
 revert H;refine I8 (fun c7 H=>?_) fun c7 H=>?_
 refine Z4 ?_
 refine aW ?_
 revert H;refine bs fun z2 h26 H=>?_
 revert H;refine bs fun y13 h27 H=>?_
 apply cB (ods:=[_,_,_,_,_,_,_,_,_,_,_,_,_]) 13 0 7 bZ rfl rfl rfl
 refine ND ?_
 refine M8 ?_
 intros
 refine M3 ?_
 intros
 refine Mo 6 rfl (uX rfl rfl hh (sc rfl) (dU h27) rfl) fun _=>?_
 refine M1 ?_
 intros
 refine Z2 ?_
 refine aW ?_
 revert H;refine bs fun z3 h28 H=>?_
 revert H;refine bs fun y14 h29 H=>?_
 apply cB (ods:=[_,_,_,_,_,_,_,_,_,_,_,_,_,_]) 14 0 7 bZ rfl rfl rfl
 refine ND ?_
 refine M8 ?_
 intros
 refine M3 ?_
 intros
 refine Mo 6 rfl (yI rfl hh hh (el rfl) h29) fun _=>?_
 refine M2 ?_
 intros
 refine Z1 ?_
 refine oN ?_
 refine T_cut 96 rfl h29 (fun v30=>?_)
 refine aD 0 rfl (fun hc_v30=>?_)
 refine aR ?_
 refine cF (φs':=[fI x51,fSl aF x52,fSl aJ x53,fI x54,fSl tI x55,fEq v28,fEq (.map (some b18)),fEq v30]) trivial rfl rfl (has rfl) (has rfl) (aG hc_v30) (sz rfl) rfl rfl ?_
 refine Z4 ?_
 refine eZ ?_
 refine cG ?_
 refine aT ?_
 refine aR ?_
 refine oN ?_
 refine bI ?_
 refine cD (x:=(⟨(⟨x51,x52,x53,x54⟩:CodeProg),x55,x56,x57,y14⟩:Code_checker)) ?_
 revert H;refine bs fun y15 h30 H=>?_
 rcases y15 with y15 | pv11 <;> dsimp only at H
 refine Tc (aB8 _ _ _ _ _ h30).s ?_
 refine cY (fun v31 v32 v33=>?_)
 refine aT ?_
 refine cW (fun b19 h31=>?_);subst h31
 refine aD 2 rfl (fun hc_v31=>?_)
 refine aD 3 rfl (fun hc_v33=>?_)
 refine Z3 ?_
 refine aE [1,4,5,6,0,2,3] (by decide) ?_
 exact Tm ((k2,y15.CodeProg.Free,y15.CodeProg.Defs,y15.CodeProg.Code,y15.CodeProg.Main,y15.begins,y15.last,y15.levels,y15.todo,v31,b19,v33)) ⟨H,ls⟩
 refine Tp (aB8 _ _ _ _ _ h30).pan ?_
 revert H;refine B4 fun r8 H e15=>?_
 cases e15;cases Hr3
 have H0:=H;clear H;obtain⟨e16,h32,H⟩:=bind_some H0;clear H0;have hv_e16:=iI h32;subst hv_e16
 cases H
 refine aE [0,1] (by decide) ?_
 exact iB (fX (vs:=[ptr b2,ptr b3]) (u:= .panicking [{ v:= .iface 163 (.agg #[]),recovered:=false }]) (by simp) (cb rfl) (iJ _ _ _ _) rfl (dX rfl rfl rfl (sc rfl) (sc rfl) iM Ent.rfl))
 exact fk
 kernel_rfl
 exact fk
 kernel_rfl
 refine Z6 ?_
 exact Tm ((x51,x52,x53,x54,x55,x56,x57,x58,v28,b18,v29)) (ij H)
 clear H;intro i hi;obtain⟨x35,x36,x37,x38,x39,x40,x41,x42,v24,b16,v25⟩:=i;subst o3;have H:=Hr3;clear Hr3;try dsimp only at H
 try dsimp only
 refine aD 5 rfl (fun hc_v24=>?_)
 refine aD 6 rfl (fun hc_v25=>?_)
 refine aW ?_
 apply cB (ods:=[_,_,_,_,_,_,_,_,_]) 9 0 7 bZ rfl rfl rfl
 refine ND ?_
 refine M4 ?_
 intros
 refine Mo 4 rfl (aBp rfl hh sQ) fun _=>?_
 refine M4 ?_
 intros
 revert H;refine B1 fun y16 h33 H=>?_
 rcases y16 with y16 | pv12 <;> dsimp only at H
 refine Tc (aO _ _ h33).s ?_
 refine Z3 ?_
 refine aR ?_
 refine cF (φs':=[fEq (ptr b5)]) trivial rfl rfl (has rfl) (has rfl) (aG trivial) (sz rfl) rfl rfl ?_
 refine aT ?_
 refine cF (φs':=[aS true]) trivial rfl rfl (has rfl) (has rfl) (aG trivial) (sz rfl) rfl rfl ?_
 refine Z2 ?_
 refine eZ ?_
 refine kF (φ:=fSl tI x40) (v:=v24) [] jL (fun _ h=>nomatch h) ?_
 refine bI ?_
 refine aR ?_
 refine oY (φs':=[fI x35,fSl aF x36,fSl aJ x37,fI x38,fSl tI x39,fSl tI x40,fEq (.map (some b16)),fEq v25]) (i:=5) rfl rfl ?_
 refine jS ?_
 refine aY ?_
 refine kF (φ:=fMap aZ (fun y=>fSt bG y) x41) (v:= .map (some b16)) [105] frz_map fz ?_
 refine oY (φs':=[fI x35,fSl aF x36,fSl aJ x37,fI x38,fSl tI x39,fSl tI x40,fMap aZ (fun y=>fSt bG y) x41,fEq v25]) (i:=6) rfl rfl ?_
 refine jS ?_
 refine aY ?_
 refine kF (φ:=fSl tI x42) (v:=v25) [] jL (fun _ h=>nomatch h) ?_
 refine oY (φs':=[fI x35,fSl aF x36,fSl aJ x37,fI x38,fSl tI x39,fSl tI x40,fMap aZ (fun y=>fSt bG y) x41,fSl tI x42]) (i:=7) rfl rfl ?_
 refine jS ?_
 refine kF (φ:=bK aA1 (⟨(⟨x35,x36,x37,x38⟩:CodeProg),x39,x40,x41,x42⟩:Code_checker)) (v:=ptr b5) [102,103,112] (yW aH.rfl) fz ?_
 refine aT ?_
 refine aR ?_
 refine oY (φs':=[bK aA1 (⟨(⟨x35,x36,x37,x38⟩:CodeProg),x39,x40,x41,x42⟩:Code_checker)]) (i:=0) rfl rfl ?_
 refine jS ?_
 cases H
 refine aE [0,1] (by decide) ?_
 exact aBL (fX (vs:=[ptr b2,ptr b3]) (u:= .returning) (by simp) (cb rfl) (aF3 _ _ _ _) rfl (dX rfl rfl rfl (sc rfl) (sc rfl) ent_optS Ent.rfl))
 refine Tp (aO _ _ h33).pan ?_
 refine Z1 ?_
 have H0:=H;clear H;obtain⟨e17,h34,H⟩:=bind_some H0;clear H0;have hv_e17:=iI h34;subst hv_e17
 cases H
 refine aE [1,2] (by decide) ?_
 exact iB (fX (vs:=[ptr b2,ptr b3]) (u:= .panicking [{ v:= .iface 163 (.agg #[]),recovered:=false }]) (by simp) (cb rfl) (iJ _ _ _ _) rfl (dX rfl rfl rfl (sc rfl) (sc rfl) iM Ent.rfl))
 exact fk
 kernel_rfl
 refine Tp (gN _ _ _ _ _ h24).pan ?_
 refine Z1 ?_
 have H0:=H;clear H;obtain⟨e18,h35,H⟩:=bind_some H0;clear H0;have hv_e18:=iI h35;subst hv_e18
 cases H
 refine aE [0,1] (by decide) ?_
 exact iB (fX (vs:=[ptr b2,ptr b3]) (u:= .panicking [{ v:= .iface 163 (.agg #[]),recovered:=false }]) (by simp) (cb rfl) (iJ _ _ _ _) rfl (dX rfl rfl rfl (sc rfl) (sc rfl) iM Ent.rfl))
 refine Tp (aEc _ _ _ _ h22).pan ?_
 refine Z1 ?_
 have H0:=H;clear H;obtain⟨e19,h36,H⟩:=bind_some H0;clear H0;have hv_e19:=iI h36;subst hv_e19
 cases H
 refine aE [0,1] (by decide) ?_
 exact iB (fX (vs:=[ptr b2,ptr b3]) (u:= .panicking [{ v:= .iface 163 (.agg #[]),recovered:=false }]) (by simp) (cb rfl) (iJ _ _ _ _) rfl (dX rfl rfl rfl (sc rfl) (sc rfl) iM Ent.rfl))
 refine Tp (aEq _ _ _ _ h20).pan ?_
 refine Z1 ?_
 have H0:=H;clear H;obtain⟨e20,h37,H⟩:=bind_some H0;clear H0;have hv_e20:=iI h37;subst hv_e20
 cases H
 refine aE [0,1] (by decide) ?_
 exact iB (fX (vs:=[ptr b2,ptr b3]) (u:= .panicking [{ v:= .iface 163 (.agg #[]),recovered:=false }]) (by simp) (cb rfl) (iJ _ _ _ _) rfl (dX rfl rfl rfl (sc rfl) (sc rfl) iM Ent.rfl))
def rM (a0:aP) (a1:SolVal):Option (aP × Bool):=
 (if a1.Kind=1 then
  (if (-1000000000) ≤ a1.N then
   some (decide (a1.N ≤ 1000000000))
  else
   some false).bind fun x2=>
  (some ((⟨(⟨a0.CodeProg.Free,a0.CodeProg.Defs,a0.CodeProg.Code,a0.CodeProg.Main⟩:CodeProg),a0.chans,a0.spots,a0.acts⟩:aP),x2)).bind fun r=>some (Sum.inr r)
 else
  if a1.Kind=2 then
   some (Sum.inl a0.CodeProg.Free)
  else
   if a1.Kind=3 then
    some (Sum.inl a0.chans)
   else
    if a1.Kind=4 then
     some (Sum.inl a0.spots)
    else
     some (Sum.inl 0)).bind fun o=>match o with
 | Sum.inr r=>some r
 | Sum.inl x1=>
 (if 0 ≤ a1.N then
  some (decide (a1.N<x1))
 else
  some false).bind fun x3=>
 some ((⟨(⟨a0.CodeProg.Free,a0.CodeProg.Defs,a0.CodeProg.Code,a0.CodeProg.Main⟩:CodeProg),a0.chans,a0.spots,a0.acts⟩:aP),x3)
theorem aGf (p0:Nat) (a0:aP) (a1:SolVal) (r:aP × Bool) (H:rM a0 a1=some r):FnS Tryz.prog 51 [fEq (.pointer (some ⟨p0,0,none⟩)),fSt aU a1] [fN p0 a0] (aS r.2) (fun _=>[fN p0 r.1]):=by
 unfold rM at H
 refine dN Tryz.func51 rfl Tryz.ntmps51 rfl (fun β=>?_)
 refine fP (fun v1=>?_)
 refine aD 1 rfl (fun hc_v1=>?_)
 refine Z1 ?_
 refine Tn (dO rfl hh cO) fun b1=>?_
 revert H;refine B5 fun o1 H Hr1=>?_
 refine bD (ι:=Int) (fun i=>o1=Sum.inl i) (fun i=>[(0,fEq (ptr p0)),(3,fEq (ptr b1)),(5,fI i)]) (fun i=>[aA b1 70 [fI a1.Kind,fI a1.N],aA p0 125 [fI a0.CodeProg.Free,fSl aF a0.CodeProg.Defs,fSl aJ a0.CodeProg.Code,fI a0.CodeProg.Main,fI a0.chans,fI a0.spots,fEq v1],aB v1 67 cH a0.acts]) ?_ ?_
 revert H;refine I9 (fun c1 H=>?_) fun c1 H=>?_
 revert H;refine B1 fun o2 H Hr2=>?_
 refine bD (ι:=Bool) (fun i=>o2=i) (fun i=>[(0,fEq (ptr p0)),(4,aS i)]) (fun i=>[aA b1 70 [fI a1.Kind,fI a1.N],aA p0 125 [fI a0.CodeProg.Free,fSl aF a0.CodeProg.Defs,fSl aJ a0.CodeProg.Code,fI a0.CodeProg.Main,fI a0.chans,fI a0.spots,fEq v1],aB v1 67 cH a0.acts]) ?_ ?_
 revert H;refine I5 (fun c2 H=>?_) fun c2 H=>?_
 refine Z6 ?_
 exact Tm (decide (a1.N ≤ 1000000000)) (ij H)
 refine Z6 ?_
 exact Tm (false) (ij H)
 clear H;intro x2 hi;subst o2;have H:=Hr2;clear Hr2;try dsimp only at H
 try dsimp only
 revert H;refine B3 fun r1 H e1=>?_
 cases e1;cases Hr1
 refine aT ?_
 refine aT ?_
 refine eR (x:=(⟨(⟨a0.CodeProg.Free,a0.CodeProg.Defs,a0.CodeProg.Code,a0.CodeProg.Main⟩:CodeProg),a0.chans,a0.spots,a0.acts⟩:aP)) ?_
 cases H
 refine aE [0] (by decide) ?_
 exact To
 revert H;refine I5 (fun c3 H=>?_) fun c3 H=>?_
 refine Z11 ?_
 exact Tm (a0.CodeProg.Free) (ij H)
 revert H;refine I5 (fun c4 H=>?_) fun c4 H=>?_
 refine Z10 ?_
 exact Tm (a0.chans) (ij H)
 revert H;refine I5 (fun c5 H=>?_) fun c5 H=>?_
 refine Z10 ?_
 exact Tm (a0.spots) (ij H)
 refine Z4 ?_
 exact Tm (0) (ij H)
 clear H;intro x1 hi;subst o1;have H:=Hr1;clear Hr1;try dsimp only at H
 try dsimp only
 revert H;refine bs fun o3 H Hr3=>?_
 refine bD (ι:=Bool) (fun i=>o3=i) (fun i=>[(0,fEq (ptr p0)),(4,aS i)]) (fun i=>[aA b1 70 [fI a1.Kind,fI a1.N],aA p0 125 [fI a0.CodeProg.Free,fSl aF a0.CodeProg.Defs,fSl aJ a0.CodeProg.Code,fI a0.CodeProg.Main,fI a0.chans,fI a0.spots,fEq v1],aB v1 67 cH a0.acts]) ?_ ?_
 revert H;refine I5 (fun c6 H=>?_) fun c6 H=>?_
 refine Z7 ?_
 exact Tm (decide (a1.N<x1)) (ij H)
 refine Z7 ?_
 exact Tm (false) (ij H)
 clear H;intro x3 hi;subst o3;have H:=Hr3;clear Hr3;try dsimp only at H
 try dsimp only
 refine Z1 ?_
 refine aT ?_
 refine aT ?_
 refine eR (x:=(⟨(⟨a0.CodeProg.Free,a0.CodeProg.Defs,a0.CodeProg.Code,a0.CodeProg.Main⟩:CodeProg),a0.chans,a0.spots,a0.acts⟩:aP)) ?_
 cases H
 refine aE [0] (by decide) ?_
 exact To
def mT (a0:List SolVal):Option (List SolVal):=
 (cN (([]:List SolVal)++a0)).bind fun z1=>
 some z1
theorem aAe  (a0:List SolVal) (r:List SolVal) (H:mT a0=some r):FnS Tryz.prog 92 [fSl aU a0] [] fS (fun v=>[(fun v=>aB v 70 aU r) v]):=by
 unfold mT at H
 refine dN Tryz.func92 rfl Tryz.ntmps92 rfl (fun β=>?_)
 refine Z3 ?_
 refine aW ?_
 refine Z2 ?_
 refine Yy (aCv rfl hh (us rfl)) ?_
 refine Z1 ?_
 refine aED (has rfl) (fun hx=>?_) ?_
 replace H:some ([]:List SolVal)=some r:=by subst hx;exact H
 refine Z4 ?_
 refine fK aU 70 ?_
 cases H
 exact uZ rfl (iZ rfl) (fun _ _ _=>trivial) rfl
 refine Z3 ?_
 refine Tn (iH (t:=aU) (xs:=([]:List SolVal)) rfl (et rfl) cS.nil rfl rfl rfl) fun b1=>?_
 generalize (Value.slice (some ⟨b1,0,none⟩) _ _)=v1
 refine aD 0 rfl (fun hc_v1=>?_)
 revert H;refine B1 fun z1 h1 H=>?_
 refine aCd (ys:=a0) trivial rfl rfl rfl (has rfl) (has rfl) (et rfl) rfl h1 (fun v2=>?_)
 refine aD 0 rfl (fun hc_v2=>?_)
 refine Z3 ?_
 cases H
 exact uZ rfl (iZ rfl) (fun _ _ _=>trivial) rfl
theorem aFp  (a0:List SolVal) (r:List SolVal) (H:mT a0=some r):FnS Tryz.prog 92 [fSl aU a0] [] (fSl aU r) (fun _=>[]):=(aAe a0 r H).frz (fun v=>jL)
def nI (a0:aP) (a1:Int) (a2:Int) (a3:Int) (a4:List SolVal):Option (aP):=
 (mT a4).bind fun y1=>
 (cN (a0.acts++[(⟨a1,a2,a3,y1⟩:CodeAct)])).bind fun z1=>
 some (⟨(⟨a0.CodeProg.Free,a0.CodeProg.Defs,a0.CodeProg.Code,a0.CodeProg.Main⟩:CodeProg),a0.chans,a0.spots,z1⟩:aP)
theorem wK (p0:Nat) (σ4:Tk) (φ4:Fact) (Λ4:List (Value × Fact)) (a0:aP) (a1:Int) (a2:Int) (a3:Int) (a4:List SolVal) (r:aP) (hF4:jH [σ4] Λ4) (hW4:EntW Λ4 φ4 (fSl aU a4)) (H:nI a0 a1 a2 a3 a4=some r):FnS Tryz.prog 96 [fEq (.pointer (some ⟨p0,0,none⟩)),fI a1,fI a2,fI a3,φ4] [fN p0 a0,σ4] (dZ []) (fun _=>[fN p0 r,σ4]):=by
 unfold nI at H
 refine dN Tryz.func96 rfl Tryz.ntmps96 rfl (fun β=>?_)
 refine fP (fun v1=>?_)
 refine aD 1 rfl (fun hc_v1=>?_)
 revert H;refine bs fun y1 h1 H=>?_
 revert H;refine bs fun z1 h2 H=>?_
 apply cB (ods:=[_,_,_,_,_,_,_,_,_,_,_,_,_,_,_,_]) 16 0 3 bZ rfl rfl rfl
 refine ND ?_
 refine M8 ?_
 intros
 refine M1 ?_
 intros
 refine N_callLF (od:=odC [2] false (fSl aU y1) [eQ]) rfl (fun _=>rfl) trivial rfl rfl rfl (has rfl) (fG.cons rfl hW4 fG.nil) (cb rfl) (aAe a4 y1 h1) (fun _=>(ind_row (fun x φ h=>by simp only [aU,List.mem_cons,List.not_mem_nil,or_false]at h;rcases h with rfl | rfl <;> exact indF_eq))) hF4 (fun _=>jL) (fun _=>?_)
 refine My (gF (ψs:=[fI a1,fI a2,fI a3,fSl aU y1]) rfl ty_bu_67 rfl (bH.cons (has rfl) (dJ (aG trivial)) (bH.cons (has rfl) (dJ (aG trivial)) (bH.cons (has rfl) (dJ (aG trivial)) (bH.cons (has rfl) (dJ (cR)) bH.nil)))) rfl) fun _=>?_
 refine Mf (φ:=fSl cH [(⟨a1,a2,a3,y1⟩:CodeAct)]) (iH (t:=cH) (xs:=[(⟨a1,a2,a3,y1⟩:CodeAct)]) rfl (et rfl) (cS.cons rfl (has rfl) cO cS.nil) rfl rfl rfl) (fun b=>jL) fun _=>?_
 refine N_appR (od:=odN [1] true (fun _ v3=>gM v3) (fun _ v3=>[aB v3 67 cH z1])) (p:=1) rfl (fun _=>rfl) (fun _=>rfl) trivial rfl rfl rfl (has rfl) (has rfl) (et rfl) rfl h2 (fun u1 v3=>?_)
 refine M2 ?_
 intros
 refine aBF (od:=od1 12 [0] true (fun _ v3=>fS) (fun _ v3=>[aA p0 125 [fI a0.CodeProg.Free,fSl aF a0.CodeProg.Defs,fSl aJ a0.CodeProg.Code,fI a0.CodeProg.Main,fI a0.chans,fI a0.spots,gM v3]])) (p:=0) (φs':=[fI a0.CodeProg.Free,fSl aF a0.CodeProg.Defs,fSl aJ a0.CodeProg.Code,fI a0.CodeProg.Main,fI a0.chans,fI a0.spots,gM v3]) rfl (fun _=>rfl) (fun _=>rfl) trivial rfl rfl rfl (has rfl) (has rfl) (wY) (sz rfl) rfl rfl (fun _=>?_)
 refine Z1 ?_
 refine oX 22 rfl aBY ?_
 refine aD 1 rfl (fun hc_v3=>?_)
 refine nP (aH.cons Ent.rfl (aH.cons Ent.rfl (aH.cons Ent.rfl (aH.cons Ent.rfl (aH.cons Ent.rfl (aH.cons Ent.rfl (aH.cons aBY aH.nil))))))) ?_
 refine Z1 ?_
 refine eR (x:=(⟨(⟨a0.CodeProg.Free,a0.CodeProg.Defs,a0.CodeProg.Code,a0.CodeProg.Main⟩:CodeProg),a0.chans,a0.spots,z1⟩:aP)) ?_
 cases H
 exact eX (.inr rfl) rfl rfl
 exact fk
 kernel_rfl
def tK (a0:aP) (a1:SolVal) (a2:Int) (a3:List SolVal):Option (aP):=
 if a1.Kind=2 then
  (nI (⟨(⟨a0.CodeProg.Free,a0.CodeProg.Defs,a0.CodeProg.Code,a0.CodeProg.Main⟩:CodeProg),a0.chans,a0.spots,a0.acts⟩:aP) 1 a2 a1.N a3).bind fun y1=>
  some (⟨(⟨y1.CodeProg.Free,y1.CodeProg.Defs,y1.CodeProg.Code,y1.CodeProg.Main⟩:CodeProg),y1.chans,y1.spots,y1.acts⟩:aP)
 else
  if a1.Kind=3 then
   (nI (⟨(⟨a0.CodeProg.Free,a0.CodeProg.Defs,a0.CodeProg.Code,a0.CodeProg.Main⟩:CodeProg),a0.chans,a0.spots,a0.acts⟩:aP) 2 a2 a1.N a3).bind fun y2=>
   some (⟨(⟨y2.CodeProg.Free,y2.CodeProg.Defs,y2.CodeProg.Code,y2.CodeProg.Main⟩:CodeProg),y2.chans,y2.spots,y2.acts⟩:aP)
  else
   some (⟨(⟨a0.CodeProg.Free,a0.CodeProg.Defs,a0.CodeProg.Code,a0.CodeProg.Main⟩:CodeProg),a0.chans,a0.spots,a0.acts⟩:aP)
theorem aHj (p0:Nat) (σ3:Tk) (φ3:Fact) (Λ3:List (Value × Fact)) (a0:aP) (a1:SolVal) (a2:Int) (a3:List SolVal) (r:aP) (hF3:jH [σ3] Λ3) (hW3:EntW Λ3 φ3 (fSl aU a3)) (H:tK a0 a1 a2 a3=some r):FnS Tryz.prog 93 [fEq (.pointer (some ⟨p0,0,none⟩)),fSt aU a1,fI a2,φ3] [fN p0 a0,σ3] (dZ []) (fun _=>[fN p0 r,σ3]):=by
 unfold tK at H
 refine dN Tryz.func93 rfl Tryz.ntmps93 rfl (fun β=>?_)
 refine fP (fun v1=>?_)
 refine aD 1 rfl (fun hc_v1=>?_)
 refine Z1 ?_
 refine nH trivial rfl rfl (dO rfl (has rfl) cO) (fun b1=>?_)
 refine Z10 ?_
 revert H;refine is (fun c1 H=>?_) fun c1 H=>?_
 refine Z7 ?_
 refine aT ?_
 refine aT ?_
 refine eR (x:=(⟨(⟨a0.CodeProg.Free,a0.CodeProg.Defs,a0.CodeProg.Code,a0.CodeProg.Main⟩:CodeProg),a0.chans,a0.spots,a0.acts⟩:aP)) ?_
 refine aT ?_
 refine aR ?_
 revert H;refine bs fun y1 h1 H=>?_
 refine iK trivial rfl rfl rfl hh (aK.cons hh (aK.cons hh (aK.cons hh (aK.cons hh (aK.cons hh aK.nil))))) rfl (cb rfl) (wK p0 σ3 φ3 Λ3 (⟨(⟨a0.CodeProg.Free,a0.CodeProg.Defs,a0.CodeProg.Code,a0.CodeProg.Main⟩:CodeProg),a0.chans,a0.spots,a0.acts⟩:aP) 1 a2 a1.N a3 y1 hF3 hW3 h1) rfl ?_
 refine fP (fun v2=>?_)
 refine aD 1 rfl (fun hc_v2=>?_)
 refine Z2 ?_
 refine eR (x:=(⟨(⟨y1.CodeProg.Free,y1.CodeProg.Defs,y1.CodeProg.Code,y1.CodeProg.Main⟩:CodeProg),y1.chans,y1.spots,y1.acts⟩:aP)) ?_
 cases H
 refine aE [0,1] (by decide) ?_
 exact eX (.inr rfl) rfl rfl
 refine Z5 ?_
 revert H;refine is (fun c2 H=>?_) fun c2 H=>?_
 refine Z7 ?_
 refine aT ?_
 refine aT ?_
 refine eR (x:=(⟨(⟨a0.CodeProg.Free,a0.CodeProg.Defs,a0.CodeProg.Code,a0.CodeProg.Main⟩:CodeProg),a0.chans,a0.spots,a0.acts⟩:aP)) ?_
 refine aT ?_
 refine aR ?_
 revert H;refine bs fun y2 h2 H=>?_
 refine iK trivial rfl rfl rfl hh (aK.cons hh (aK.cons hh (aK.cons hh (aK.cons hh (aK.cons hh aK.nil))))) rfl (cb rfl) (wK p0 σ3 φ3 Λ3 (⟨(⟨a0.CodeProg.Free,a0.CodeProg.Defs,a0.CodeProg.Code,a0.CodeProg.Main⟩:CodeProg),a0.chans,a0.spots,a0.acts⟩:aP) 2 a2 a1.N a3 y2 hF3 hW3 h2) rfl ?_
 refine fP (fun v3=>?_)
 refine aD 1 rfl (fun hc_v3=>?_)
 refine Z2 ?_
 refine eR (x:=(⟨(⟨y2.CodeProg.Free,y2.CodeProg.Defs,y2.CodeProg.Code,y2.CodeProg.Main⟩:CodeProg),y2.chans,y2.spots,y2.acts⟩:aP)) ?_
 cases H
 refine aE [0,1] (by decide) ?_
 exact eX (.inr rfl) rfl rfl
 refine Z3 ?_
 refine aT ?_
 refine aT ?_
 refine eR (x:=(⟨(⟨a0.CodeProg.Free,a0.CodeProg.Defs,a0.CodeProg.Code,a0.CodeProg.Main⟩:CodeProg),a0.chans,a0.spots,a0.acts⟩:aP)) ?_
 cases H
 refine aE [0,2] (by decide) ?_
 exact eX (.inr rfl) rfl rfl
def nY (a0:SolVal):Option (Int):=
 if a0.Kind=1 then
  some a0.N
 else
  some 0
theorem zN  (a0:SolVal) (r:Int) (H:nY a0=some r):FnS Tryz.prog 94 [fSt aU a0] [] (fI r) (fun _=>[]):=by
 unfold nY at H
 refine dN Tryz.func94 rfl Tryz.ntmps94 rfl (fun β=>?_)
 refine Z1 ?_
 refine Tn (dO rfl hh cO) fun b1=>?_
 refine Z2 ?_
 refine aW ?_
 revert H;refine I5 (fun c1 H=>?_) fun c1 H=>?_
 refine Z7 ?_
 cases H
 refine aE [] (by decide) ?_
 exact To
 refine Z7 ?_
 cases H
 refine aE [] (by decide) ?_
 exact To
open Go.SX Go.SW Go.Dt
def lE (a1:ScopeDef):Nat → (List SolVal) → Int → Int → Option (List SolVal × Int)
| 0,_,_,_=>none
| k+1,x6,x7,x8=>
 if x7<(a1.Chans.length:Int)then
  (cN (x6++[(⟨3,x8⟩:SolVal)])).bind fun z1=>
  (chk (x8+1)).bind fun z2=>
  (chk (x7+1)).bind fun z3=>
  lE a1 k z1 z3 z2
 else
  some (x6,x8)
def lU (a1:ScopeDef):Nat → (List SolVal) → Int → Int → Option (List SolVal × Int)
| 0,_,_,_=>none
| k+1,x14,x15,x16=>
 if x15<(a1.Spots.length:Int)then
  (cN (x14++[(⟨4,x16⟩:SolVal)])).bind fun z4=>
  (chk (x16+1)).bind fun z5=>
  (chk (x15+1)).bind fun z6=>
  lU a1 k z4 z6 z5
 else
  some (x14,x16)
def sE (fuel:Nat) (a0:aP) (a1:ScopeDef) (a2:List SolVal):Option ((aP × List SolVal) ⊕ Value):=
 (mT a2).bind fun y1=>
 (lE a1 fuel y1 0 a0.chans).bind fun (x1,x2)=>
 (lU a1 fuel x1 0 a0.spots).bind fun (x9,x10)=>
 if 60<x2 then
  some (Sum.inr (.iface 29 (.int .i64 3)))
 else
  if 24<x10 then
   some (Sum.inr (.iface 29 (.int .i64 3)))
  else
   some (Sum.inl ((⟨(⟨a0.CodeProg.Free,a0.CodeProg.Defs,a0.CodeProg.Code,a0.CodeProg.Main⟩:CodeProg),x2,x10,a0.acts⟩:aP),x9))
theorem aDW (fuel:Nat) (p0:Nat) (a0:aP) (a1:ScopeDef) (a2:List SolVal) (r:(aP × List SolVal) ⊕ Value) (H:sE fuel a0 a1 a2=some r):FnE Tryz.prog 131 [fEq (.pointer (some ⟨p0,0,none⟩)),fSt aF a1,fSl aU a2] [fN p0 a0] r (fun r=>fSl aU r.2) (fun r=>[fN p0 r.1]):=by
 unfold sE at H
 refine gU Tryz.func131 rfl Tryz.ntmps131 rfl (fun β=>?_)
 refine fP (fun v1=>?_)
 refine aD 1 rfl (fun hc_v1=>?_)
 refine Z1 ?_
 refine Tn (dO rfl hh cO) fun b1=>?_
 revert H;refine B4 fun y1 h1 H=>?_
 refine aBi trivial rfl rfl rfl (has rfl) (aK.cons (has rfl) aK.nil) rfl (cb rfl) (aAe a2 y1 h1) (Δi:=[]) rfl (fun v2=>?_)
 dsimp only [List.append,List.cons_append,List.nil_append]
 refine aD 0 rfl (fun hc_v2=>?_)
 revert H;refine B2 fun o1 H Hr1=>?_
 refine bD (ι:=List SolVal × Int × Value) (fun i=>o1=(i.1,i.2.1)) (fun i=>[(0,fEq (ptr p0)),(4,fEq (ptr b1)),(7,fEq i.2.2)]) (fun i=>[aA b1 63 [fSl dA a1.Chans,fSl cL a1.Spots,fSl bW a1.Rules],aA p0 125 [fI a0.CodeProg.Free,fSl aF a0.CodeProg.Defs,fSl aJ a0.CodeProg.Code,fI a0.CodeProg.Main,fI i.2.1,fI a0.spots,fEq v1],aB i.2.2 70 aU i.1,aB v1 67 cH a0.acts]) ?_ ?_
 refine Z7 ?_
 refine aE [1,2,0,3] (by decide) ?_
 refine Tl (ι:=Nat × List SolVal × Int × Int × Value) (fun i=>lE a1 i.1 i.2.1 i.2.2.1 i.2.2.2.1=_) (fun i=>i.1) (fun i=>[(0,fEq (ptr p0)),(4,fEq (ptr b1)),(7,fEq i.2.2.2.2),(12,fI (a1.Chans.length:Int)),(13,fI i.2.2.1)]) (fun i=>[aA b1 63 [fSl dA a1.Chans,fSl cL a1.Spots,fSl bW a1.Rules],aA p0 125 [fI a0.CodeProg.Free,fSl aF a0.CodeProg.Defs,fSl aJ a0.CodeProg.Code,fI a0.CodeProg.Main,fI i.2.2.2.1,fI a0.spots,fEq v1],aB i.2.2.2.2 70 aU i.2.1,aB v1 67 cH a0.acts]) (fuel,y1,0,a0.chans,v2) H ?_
 clear H;rintro⟨k1,x6,x7,x8,v5⟩ H
 replace H:lE a1 k1 x6 x7 x8=_:=H
 try dsimp only
 obtain _ | k1:=k1
 rw [lE]at H;cases H
 rw [lE]at H
 refine aD 2 rfl (fun hc_v5=>?_)
 refine Z3 ?_
 refine aW ?_
 revert H;refine is (fun c1 H=>?_) fun c1 H=>?_
 refine Z3 ?_
 refine aW ?_
 refine Z7 ?_
 refine Yy (gF (ψs:=[fI 3,fI x8]) rfl sY rfl (bH.cons (has rfl) (dJ (aG trivial)) (bH.cons (has rfl) (dJ (aG trivial)) bH.nil)) rfl) ?_
 refine Tn (iH (t:=aU) (xs:=[(⟨3,x8⟩:SolVal)]) rfl (et rfl) (cS.cons rfl hh cO cS.nil) rfl rfl rfl) fun b2=>?_
 generalize (Value.slice (some ⟨b2,0,none⟩) _ _)=v6
 refine aD 0 rfl (fun hc_v6=>?_)
 revert H;refine bs fun z1 h2 H=>?_
 refine bI ?_
 refine aR ?_
 refine nN trivial rfl rfl rfl (has rfl) (has rfl) (et rfl) rfl h2 (fun v7=>?_)
 refine aD 0 rfl (fun hc_v7=>?_)
 revert H;refine B7 fun z2 h3 H=>?_
 refine Z3 ?_
 refine aT ?_
 refine cF (φs':=[fI a0.CodeProg.Free,fSl aF a0.CodeProg.Defs,fSl aJ a0.CodeProg.Code,fI a0.CodeProg.Main,fI z2,fI a0.spots,fEq v1]) trivial rfl rfl (has rfl) (has rfl) (aG trivial) (sz rfl) rfl rfl ?_
 revert H;refine B4 fun z3 h4 H=>?_
 refine Z3 ?_
 refine aE [2,0,1,3] (by decide) ?_
 exact Tm ((k1,z1,z3,z2,v7)) ⟨H,ls⟩
 refine Z6 ?_
 exact Tm ((x6,x8,v5)) (ij H)
 clear H;intro i hi;obtain⟨x1,x2,v3⟩:=i;subst o1;have H:=Hr1;clear Hr1;try dsimp only at H
 try dsimp only
 refine aD 2 rfl (fun hc_v3=>?_)
 revert H;refine bs fun o2 H Hr2=>?_
 refine bD (ι:=List SolVal × Int × Value) (fun i=>o2=(i.1,i.2.1)) (fun i=>[(0,fEq (ptr p0)),(7,fEq i.2.2)]) (fun i=>[aA b1 63 [fSl dA a1.Chans,fSl cL a1.Spots,fSl bW a1.Rules],aA p0 125 [fI a0.CodeProg.Free,fSl aF a0.CodeProg.Defs,fSl aJ a0.CodeProg.Code,fI a0.CodeProg.Main,fI x2,fI i.2.1,fEq v1],aB i.2.2 70 aU i.1,aB v1 67 cH a0.acts]) ?_ ?_
 refine Z7 ?_
 refine Tl (ι:=Nat × List SolVal × Int × Int × Value) (fun i=>lU a1 i.1 i.2.1 i.2.2.1 i.2.2.2.1=_) (fun i=>i.1) (fun i=>[(0,fEq (ptr p0)),(7,fEq i.2.2.2.2),(33,fI (a1.Spots.length:Int)),(34,fI i.2.2.1)]) (fun i=>[aA b1 63 [fSl dA a1.Chans,fSl cL a1.Spots,fSl bW a1.Rules],aA p0 125 [fI a0.CodeProg.Free,fSl aF a0.CodeProg.Defs,fSl aJ a0.CodeProg.Code,fI a0.CodeProg.Main,fI x2,fI i.2.2.2.1,fEq v1],aB i.2.2.2.2 70 aU i.2.1,aB v1 67 cH a0.acts]) (fuel,x1,0,a0.spots,v3) H ?_
 clear H;rintro⟨k2,x14,x15,x16,v10⟩ H
 replace H:lU a1 k2 x14 x15 x16=_:=H
 try dsimp only
 obtain _ | k2:=k2
 rw [lU]at H;cases H
 rw [lU]at H
 refine aD 2 rfl (fun hc_v10=>?_)
 refine Z3 ?_
 refine aW ?_
 revert H;refine is (fun c2 H=>?_) fun c2 H=>?_
 refine Z3 ?_
 refine aW ?_
 refine Z7 ?_
 refine Yy (gF (ψs:=[fI 4,fI x16]) rfl sY rfl (bH.cons (has rfl) (dJ (aG trivial)) (bH.cons (has rfl) (dJ (aG trivial)) bH.nil)) rfl) ?_
 refine Tn (iH (t:=aU) (xs:=[(⟨4,x16⟩:SolVal)]) rfl (et rfl) (cS.cons rfl hh cO cS.nil) rfl rfl rfl) fun b3=>?_
 generalize (Value.slice (some ⟨b3,0,none⟩) _ _)=v11
 refine aD 0 rfl (fun hc_v11=>?_)
 revert H;refine bs fun z4 h5 H=>?_
 refine bI ?_
 refine aR ?_
 refine nN trivial rfl rfl rfl (has rfl) (has rfl) (et rfl) rfl h5 (fun v12=>?_)
 refine aD 0 rfl (fun hc_v12=>?_)
 revert H;refine B7 fun z5 h6 H=>?_
 refine Z3 ?_
 refine aT ?_
 refine cF (φs':=[fI a0.CodeProg.Free,fSl aF a0.CodeProg.Defs,fSl aJ a0.CodeProg.Code,fI a0.CodeProg.Main,fI x2,fI z5,fEq v1]) trivial rfl rfl (has rfl) (has rfl) (aG trivial) (sz rfl) rfl rfl ?_
 revert H;refine B4 fun z6 h7 H=>?_
 refine Z3 ?_
 refine aE [2,0,1,3] (by decide) ?_
 exact Tm ((k2,z4,z6,z5,v12)) ⟨H,ls⟩
 refine Z6 ?_
 exact Tm ((x14,x16,v10)) (ij H)
 clear H;intro i hi;obtain⟨x9,x10,v8⟩:=i;subst o2;have H:=Hr2;clear Hr2;try dsimp only at H
 try dsimp only
 refine aD 2 rfl (fun hc_v8=>?_)
 refine aW ?_
 revert H;refine I7 (fun c3 H=>?_) fun c3 H=>?_
 refine Z9 ?_
 refine Yy (aBD rfl hh aA5) ?_
 refine aBJ trivial rfl (has rfl) ?_
 refine Z1 ?_
 cases H
 exact bB
 revert H;refine I7 (fun c4 H=>?_) fun c4 H=>?_
 refine Z2 ?_
 refine Yy (aBD rfl hh aA5) ?_
 refine aBJ trivial rfl (has rfl) ?_
 refine Z1 ?_
 cases H
 exact bB
 refine Z8 ?_
 refine aT ?_
 refine kF (φ:=fSl aU x9) (v:=v8) [7,65,6] jL fz ?_
 refine jS ?_
 refine aT ?_
 refine aT ?_
 refine eR (x:=(⟨(⟨a0.CodeProg.Free,a0.CodeProg.Defs,a0.CodeProg.Code,a0.CodeProg.Main⟩:CodeProg),x2,x10,a0.acts⟩:aP)) ?_
 cases H
 refine fM ?_
 refine aE [0] (by decide) ?_
 exact To
def vX (a0:Bool):Option (Int):=
 bif a0 then
  some 1
 else
  some 0
theorem aCY  (a0:Bool) (r:Int) (H:vX a0=some r):FnS Tryz.prog 132 [aS a0] [] (fI r) (fun _=>[]):=by
 unfold vX at H
 refine dN Tryz.func132 rfl Tryz.ntmps132 rfl (fun β=>?_)
 refine Z3 ?_
 refine aW ?_
 refine Z3 ?_
 revert H;refine cs (fun c1 H=>?_) fun c1 H=>?_
 refine Z5 ?_
 cases H
 exact To
 refine Z7 ?_
 cases H
 exact To
def tR (a0:Int) (a1:SolVal) (a2:SolVal):Option (SolVal):=
 (nY (⟨a1.Kind,a1.N⟩:SolVal)).bind fun y1=>
 (nY (⟨a2.Kind,a2.N⟩:SolVal)).bind fun y2=>
 (if a0=3 then
  (chk (y1+y2)).bind fun z1=>
  some z1
 else
  if a0=4 then
   (chk (y1 - y2)).bind fun z2=>
   some z2
  else
   if a0=5 then
    (chk (y1*y2)).bind fun z3=>
    some z3
   else
    if a0=6 then
     (vX (decide (y1<y2))).bind fun y3=>
     some y3
    else
     if a0=7 then
      (vX (decide (y1=y2))).bind fun y4=>
      some y4
     else
      some 0).bind fun x1=>
 some (⟨1,min (max x1 (-1000000000)) 1000000000⟩:SolVal)
theorem aGW  (a0:Int) (a1:SolVal) (a2:SolVal) (r:SolVal) (H:tR a0 a1 a2=some r):FnS Tryz.prog 97 [fI a0,fSt aU a1,fSt aU a2] [] (fSt aU r) (fun _=>[]):=by
 unfold tR at H
 refine dN Tryz.func97 rfl Tryz.ntmps97 rfl (fun β=>?_)
 refine Z1 ?_
 refine Tn (dO rfl hh cO) fun b1=>?_
 refine Tn (dO rfl hh cO) fun b2=>?_
 refine Tn (cM rfl yH rfl) fun b3=>?_
 refine Z1 ?_
 refine aW ?_
 revert H;refine bs fun y1 h1 H=>?_
 revert H;refine bs fun y2 h2 H=>?_
 apply cB (ods:=[_,_,_,_,_,_]) 6 0 3 bZ rfl rfl rfl
 refine ND ?_
 refine M1 ?_
 intros
 refine Nc (zN _ _ h1) fun _=>?_
 refine M1 ?_
 intros
 refine Nc (zN _ _ h2) fun _=>?_
 refine M2 ?_
 intros
 revert H;refine B5 fun o1 H Hr1=>?_
 refine bD (ι:=Int) (fun i=>o1=i) (fun i=>[(6,fEq (ptr b3)),(9,fI i)]) (fun i=>[aA b3 70 [fI 0,fI 0],aA b2 70 [fI a2.Kind,fI a2.N],aA b1 70 [fI a1.Kind,fI a1.N]]) ?_ ?_
 revert H;refine I8 (fun c1 H=>?_) fun c1 H=>?_
 revert H;refine B4 fun z1 h3 H=>?_
 refine Z5 ?_
 exact Tm (z1) (ij H)
 revert H;refine I5 (fun c2 H=>?_) fun c2 H=>?_
 revert H;refine B4 fun z2 h4 H=>?_
 refine Z5 ?_
 exact Tm (z2) (ij H)
 revert H;refine I5 (fun c3 H=>?_) fun c3 H=>?_
 revert H;refine B4 fun z3 h5 H=>?_
 refine Z5 ?_
 exact Tm (z3) (ij H)
 revert H;refine I5 (fun c4 H=>?_) fun c4 H=>?_
 revert H;refine B5 fun y3 h6 H=>?_
 refine Tc (aCY _ _ h6) ?_
 refine Z4 ?_
 exact Tm (y3) (ij H)
 revert H;refine I5 (fun c5 H=>?_) fun c5 H=>?_
 revert H;refine B5 fun y4 h7 H=>?_
 refine Tc (aCY _ _ h7) ?_
 refine Z4 ?_
 exact Tm (y4) (ij H)
 refine Z4 ?_
 exact Tm (0) (ij H)
 clear H;intro x1 hi;subst o1;have H:=Hr1;clear Hr1;try dsimp only at H
 try dsimp only
 refine Z2 ?_
 refine Yy (o_max rfl hh hh) ?_
 refine Z1 ?_
 refine Yy (gF (ψs:=[fI 1,fI (min (max x1 (-1000000000)) 1000000000)]) rfl sY rfl (bH.cons (has rfl) (dJ (aG trivial)) (bH.cons (has rfl) (dJ (aG trivial)) bH.nil)) rfl) ?_
 refine cU (φs':=[fI 1,fI (min (max x1 (-1000000000)) 1000000000)]) trivial rfl rfl (has rfl) (has rfl) (aM (aG trivial) (aM (aG trivial) bO)) (sz rfl) rfl rfl rfl ?_
 refine Z2 ?_
 cases H
 refine aE [0] (by decide) ?_
 exact aAX rfl (ag rfl) rfl (iZ rfl) Ent.rfl rfl
 exact fk
 kernel_rfl
def eU (rec_code_runner_def:aP → Int → Int → (List SolVal) → Option ((aP × List SolVal) ⊕ Value)) (a2:Int):Nat → Int → (List SolVal) → (List SolVal) → Int → (List ScopeDef) → (List CodeIns) → Int → Int → Int → (List CodeAct) → Option (aP ⊕ Value)
| 0,_,_,_,_,_,_,_,_,_,_=>none
| k+1,x11,x12,x13,x14,x15,x16,x17,x18,x19,x20=>
 (idx x16 x11).bind fun y2=>
 (chk (x11+1)).bind fun z1=>
 if y2.Op=1 then
  (cN (x13++[(⟨1,y2.A⟩:SolVal)])).bind fun z2=>
  eU rec_code_runner_def a2 k z1 x12 z2 x14 x15 x16 x17 x18 x19 x20
 else
  if y2.Op=2 then
   (idx x12 y2.A).bind fun y3=>
   (cN (x13++[y3])).bind fun z3=>
   eU rec_code_runner_def a2 k z1 x12 z3 x14 x15 x16 x17 x18 x19 x20
  else
   if y2.Op=8 then
    (chk ((x13.length:Int) - y2.B)).bind fun z4=>
    (idx x12 y2.A).bind fun y4=>
    (slc x13 z4 (x13.length:Int)).bind fun y5=>
    (tK (⟨(⟨x14,x15,x16,x17⟩:CodeProg),x18,x19,x20⟩:aP) y4 a2 y5).bind fun y6=>
    (slc x13 0 z4).bind fun y7=>
    eU rec_code_runner_def a2 k z1 x12 y7 y6.CodeProg.Free y6.CodeProg.Defs y6.CodeProg.Code y6.CodeProg.Main y6.chans y6.spots y6.acts
   else
    if y2.Op=9 then
     (chk ((x13.length:Int) - 1)).bind fun z5=>
     (idx x13 z5).bind fun y8=>
     (chk ((x13.length:Int) - 1)).bind fun z6=>
     (slc x13 0 z6).bind fun y9=>
     (nY (⟨y8.Kind,y8.N⟩:SolVal)).bind fun y10=>
     if y10=0 then
      eU rec_code_runner_def a2 k y2.A x12 y9 x14 x15 x16 x17 x18 x19 x20
     else
      eU rec_code_runner_def a2 k z1 x12 y9 x14 x15 x16 x17 x18 x19 x20
    else
     if y2.Op=10 then
      eU rec_code_runner_def a2 k y2.A x12 x13 x14 x15 x16 x17 x18 x19 x20
     else
      if y2.Op=11 then
       (rec_code_runner_def (⟨(⟨x14,x15,x16,x17⟩:CodeProg),x18,x19,x20⟩:aP) y2.A a2 x12).bind fun y11=>
       match y11 with
       | Sum.inr pv1=>some (Sum.inr pv1)
       | Sum.inl y11=>
       eU rec_code_runner_def a2 k z1 y11.2 x13 y11.1.CodeProg.Free y11.1.CodeProg.Defs y11.1.CodeProg.Code y11.1.CodeProg.Main y11.1.chans y11.1.spots y11.1.acts
      else
       if y2.Op=12 then
        (slc x12 0 y2.A).bind fun y12=>
        eU rec_code_runner_def a2 k z1 y12 x13 x14 x15 x16 x17 x18 x19 x20
       else
        (if y2.Op=13 then
         some (decide (y2.Op=13))
        else
         if y2.Op=14 then
          some (decide (y2.Op=14))
         else
          some (decide (y2.Op=15))).bind fun x21=>
        bif x21 then
         (chk (z1 - 1)).bind fun z7=>
         (nI (⟨(⟨x14,x15,x16,x17⟩:CodeProg),x18,x19,x20⟩:aP) 4 a2 z7 x12).bind fun y13=>
         eU rec_code_runner_def a2 k z1 x12 x13 y13.CodeProg.Free y13.CodeProg.Defs y13.CodeProg.Code y13.CodeProg.Main y13.chans y13.spots y13.acts
        else
         if y2.Op=16 then
          some (Sum.inl (⟨(⟨x14,x15,x16,x17⟩:CodeProg),x18,x19,x20⟩:aP))
         else
          (chk ((x13.length:Int) - 2)).bind fun z8=>
          (idx x13 z8).bind fun y14=>
          (chk (z8+1)).bind fun z9=>
          (idx x13 z9).bind fun y15=>
          (tR y2.Op y14 y15).bind fun y16=>
          (idx x13 z8).bind fun y17=>
          (chk (z8+1)).bind fun z10=>
          (slc (x13.set z8.toNat y16) 0 z10).bind fun y18=>
          eU rec_code_runner_def a2 k z1 x12 y18 x14 x15 x16 x17 x18 x19 x20
def lB (rec_code_runner_run:aP → Int → Int → (List SolVal) → Option (aP ⊕ Value)) (y1:ScopeDef) (y2:(aP × List SolVal)) (y4:List SolVal):Nat → Int → Int → (List ScopeDef) → (List CodeIns) → Int → Int → Int → (List CodeAct) → Option ((Int × List ScopeDef × List CodeIns × Int × Int × Int × List CodeAct) ⊕ ((aP × List SolVal) ⊕ Value))
| 0,_,_,_,_,_,_,_,_=>none
| k+1,x16,x17,x18,x19,x20,x21,x22,x23=>
 if x16<(y1.Spots.length:Int)then
  (idx y1.Spots x16).bind fun y5=>
  (idx y4 x16).bind fun y6=>
  (rec_code_runner_run (⟨(⟨x17,x18,x19,x20⟩:CodeProg),x21,x22,x23⟩:aP) y5.Node y6.N y2.2).bind fun y7=>
  match y7 with
  | Sum.inr pv2=>(some (Sum.inr pv2)).bind fun r=>some (Sum.inr r)
  | Sum.inl y7=>
  (chk (x16+1)).bind fun z2=>
  lB rec_code_runner_run y1 y2 y4 k z2 y7.CodeProg.Free y7.CodeProg.Defs y7.CodeProg.Code y7.CodeProg.Main y7.chans y7.spots y7.acts
 else
  some (Sum.inl (x17,x18,x19,x20,x21,x22,x23))
mutual
def fT:Nat → aP → Int → Int → (List SolVal) → Option (aP ⊕ Value)
| 0,_,_,_,_=>none
| fuel+1,a0,a1,a2,a3=>
 (mT a3).bind fun y1=>
 eU (iU fuel) a2 fuel a1 y1 [] a0.CodeProg.Free a0.CodeProg.Defs a0.CodeProg.Code a0.CodeProg.Main a0.chans a0.spots a0.acts
def iU:Nat → aP → Int → Int → (List SolVal) → Option ((aP × List SolVal) ⊕ Value)
| 0,_,_,_,_=>none
| fuel+1,a0,a1,a2,a3=>
 (idx a0.CodeProg.Defs a1).bind fun y1=>
 (sE fuel (⟨(⟨a0.CodeProg.Free,a0.CodeProg.Defs,a0.CodeProg.Code,a0.CodeProg.Main⟩:CodeProg),a0.chans,a0.spots,a0.acts⟩:aP) (⟨y1.Chans,y1.Spots,y1.Rules⟩:ScopeDef) a3).bind fun y2=>
 match y2 with
 | Sum.inr pv1=>some (Sum.inr pv1)
 | Sum.inl y2=>
 (nI (⟨(⟨y2.1.CodeProg.Free,y2.1.CodeProg.Defs,y2.1.CodeProg.Code,y2.1.CodeProg.Main⟩:CodeProg),y2.1.chans,y2.1.spots,y2.1.acts⟩:aP) 3 a2 a1 y2.2).bind fun y3=>
 (chk ((y2.2.length:Int) - (y1.Spots.length:Int))).bind fun z1=>
 (slc y2.2 z1 (y2.2.length:Int)).bind fun y4=>
 (lB (fT fuel) y1 y2 y4 fuel 0 y3.CodeProg.Free y3.CodeProg.Defs y3.CodeProg.Code y3.CodeProg.Main y3.chans y3.spots y3.acts).bind fun o=>match o with
 | Sum.inr r=>some r
 | Sum.inl (x1,x2,x3,x4,x5,x6,x7)=>
 some (Sum.inl ((⟨(⟨x1,x2,x3,x4⟩:CodeProg),x5,x6,x7⟩:aP),y2.2))
end
theorem aGZ:∀ (fuel:Nat),(∀ (p0:Nat) (a0:aP) (a1:Int) (a2:Int) (a3:List SolVal) (r:aP ⊕ Value) (H:fT fuel a0 a1 a2 a3=some r),FnE Tryz.prog 53 [fEq (.pointer (some ⟨p0,0,none⟩)),fI a1,fI a2,fSl aU a3] [fN p0 a0] r (fun r=>dZ []) (fun r=>[fN p0 r])) ∧ (∀ (p0:Nat) (a0:aP) (a1:Int) (a2:Int) (a3:List SolVal) (r:(aP × List SolVal) ⊕ Value) (H:iU fuel a0 a1 a2 a3=some r),FnE Tryz.prog 95 [fEq (.pointer (some ⟨p0,0,none⟩)),fI a1,fI a2,fSl aU a3] [fN p0 a0] r (fun r=>fSl aU r.2) (fun r=>[fN p0 r.1])):=by
 intro fuel
 induction fuel with
 | zero=>exact⟨fun p0 a0 a1 a2 a3 r H=>(by rw [fT]at H;cases H),fun p0 a0 a1 a2 a3 r H=>(by rw [iU]at H;cases H)⟩
 | succ fuel ih=>
 obtain⟨ih_code_runner_run,ih_code_runner_def⟩:=@ih
 refine⟨?_,?_⟩
 intro p0 a0 a1 a2 a3 r H
 rw [fT]at H
 refine gU Tryz.func53 rfl Tryz.ntmps53 rfl (fun β=>?_)
 refine fP (fun v1=>?_)
 refine aD 1 rfl (fun hc_v1=>?_)
 refine T_scope ?_
 refine Z2 ?_
 revert H;refine bs fun y1 h1 H=>?_
 refine iK trivial rfl rfl rfl hh (aK.cons hh aK.nil) rfl (cb rfl) (aFp a3 y1 h1) rfl ?_
 refine Z5 ?_
 refine aW ?_
 refine T_label ?_
 refine Z2 ?_
 refine fK aU 70 ?_
 refine aE [1,0,2] (by decide) ?_
 refine aAf (ι:=Nat × Int × List SolVal × List SolVal × Int × List ScopeDef × List CodeIns × Int × Int × Int × List CodeAct × Value × Value) (fun i=>eU (iU fuel) a2 i.1 i.2.1 i.2.2.1 i.2.2.2.1 i.2.2.2.2.1 i.2.2.2.2.2.1 i.2.2.2.2.2.2.1 i.2.2.2.2.2.2.2.1 i.2.2.2.2.2.2.2.2.1 i.2.2.2.2.2.2.2.2.2.1 i.2.2.2.2.2.2.2.2.2.2.1=_) (fun i=>i.1) (fun i=>[(0,fEq (ptr p0)),(1,fI i.2.1),(2,fI a2),(8,fSl aU i.2.2.1),(9,fEq i.2.2.2.2.2.2.2.2.2.2.2.1)]) (fun i=>[aA p0 125 [fI i.2.2.2.2.1,fSl aF i.2.2.2.2.2.1,fSl aJ i.2.2.2.2.2.2.1,fI i.2.2.2.2.2.2.2.1,fI i.2.2.2.2.2.2.2.2.1,fI i.2.2.2.2.2.2.2.2.2.1,fEq i.2.2.2.2.2.2.2.2.2.2.2.2],aB i.2.2.2.2.2.2.2.2.2.2.2.1 70 aU i.2.2.2.1,aB i.2.2.2.2.2.2.2.2.2.2.2.2 67 cH i.2.2.2.2.2.2.2.2.2.2.1]) (fuel,a1,y1,[],a0.CodeProg.Free,a0.CodeProg.Defs,a0.CodeProg.Code,a0.CodeProg.Main,a0.chans,a0.spots,a0.acts,(.slice none 0 0),v1) H (Sc (Sc (Sc (Sc (Sc cP.nil))))) rfl ?_
 clear H;rintro⟨k1,x11,x12,x13,x14,x15,x16,x17,x18,x19,x20,v4,v5⟩ H
 replace H:eU (iU fuel) a2 k1 x11 x12 x13 x14 x15 x16 x17 x18 x19 x20=_:=H
 try dsimp only
 obtain _ | k1:=k1
 rw [eU]at H;cases H
 rw [eU]at H
 refine aD 1 rfl (fun hc_v4=>?_)
 refine aD 2 rfl (fun hc_v5=>?_)
 refine Z8 ?_
 revert H;refine bs fun y2 h2 H=>?_
 refine Z2 ?_
 refine nH trivial rfl rfl (cM rfl xH rfl) (fun b1=>?_)
 refine cU (φs':=[fI y2.Op,fI y2.A,fI y2.B]) trivial rfl rfl (has rfl) (has rfl) (aM (aG trivial) (aM (aG trivial) (aM (aG trivial) bO))) (sz rfl) rfl rfl rfl ?_
 refine Z3 ?_
 revert H;refine bs fun z1 h3 H=>?_
 refine Z12 ?_
 revert H;refine is (fun c1 H=>?_) fun c1 H=>?_
 refine Z5 ?_
 refine Yy (gF (ψs:=[fI 1,fI y2.A]) rfl sY rfl (bH.cons (has rfl) (dJ (aG trivial)) (bH.cons (has rfl) (dJ (aG trivial)) bH.nil)) rfl) ?_
 refine nH trivial rfl rfl (iH (t:=aU) (xs:=[(⟨1,y2.A⟩:SolVal)]) rfl (et rfl) (cS.cons rfl (has rfl) cO cS.nil) rfl rfl rfl) (fun b2=>?_)
 generalize (Value.slice (some ⟨b2,0,none⟩) _ _)=v6
 refine aD 0 rfl (fun hc_v6=>?_)
 revert H;refine bs fun z2 h4 H=>?_
 refine bI ?_
 refine aR ?_
 refine nN trivial rfl rfl rfl (has rfl) (has rfl) (et rfl) rfl h4 (fun v7=>?_)
 refine aD 0 rfl (fun hc_v7=>?_)
 refine Z5 ?_
 refine aE [2,0,3] (by decide) ?_
 exact fL ((k1,z1,x12,z2,x14,x15,x16,x17,x18,x19,x20,v7,v5)) ⟨H,Nat.lt_succ_self _⟩ (Sc (Sc (Sc (Sc (Sc cP.nil))))) rfl
 refine Z5 ?_
 revert H;refine is (fun c2 H=>?_) fun c2 H=>?_
 refine Z6 ?_
 revert H;refine bs fun y3 h5 H=>?_
 refine Z2 ?_
 refine nH trivial rfl rfl (iH (t:=aU) (xs:=[y3]) rfl (et rfl) (cS.cons rfl (has rfl) cO cS.nil) rfl rfl rfl) (fun b3=>?_)
 generalize (Value.slice (some ⟨b3,0,none⟩) _ _)=v8
 refine aD 0 rfl (fun hc_v8=>?_)
 revert H;refine bs fun z3 h6 H=>?_
 refine bI ?_
 refine aR ?_
 refine nN trivial rfl rfl rfl (has rfl) (has rfl) (et rfl) rfl h6 (fun v9=>?_)
 refine aD 0 rfl (fun hc_v9=>?_)
 refine Z5 ?_
 refine aE [2,0,3] (by decide) ?_
 exact fL ((k1,z1,x12,z3,x14,x15,x16,x17,x18,x19,x20,v9,v5)) ⟨H,Nat.lt_succ_self _⟩ (Sc (Sc (Sc (Sc (Sc cP.nil))))) rfl
 refine Z5 ?_
 revert H;refine is (fun c3 H=>?_) fun c3 H=>?_
 refine Z6 ?_
 revert H;refine bs fun z4 h7 H=>?_
 refine Z3 ?_
 refine aW ?_
 revert H;refine bs fun y4 h8 H=>?_
 revert H;refine bs fun y5 h9 H=>?_
 apply cB (ods:=[_,_,_,_,_,_,_,_,_,_]) 10 0 4 bZ rfl rfl rfl
 refine ND ?_
 refine M8 ?_
 intros
 refine M1 ?_
 intros
 refine Mo 2 rfl (o_sliceR (l:=z4) (h:=(x13.length:Int)) rfl hh (wN hh) yA (el rfl) h9) fun _=>?_
 refine Z1 ?_
 refine bI ?_
 refine aT ?_
 refine eR (x:=(⟨(⟨x14,x15,x16,x17⟩:CodeProg),x18,x19,x20⟩:aP)) ?_
 refine aT ?_
 refine aR ?_
 revert H;refine bs fun y6 h10 H=>?_
 refine iK trivial rfl rfl rfl hh (aK.cons hh (aK.cons hh (aK.cons hh (aK.cons hh aK.nil)))) rfl (cb rfl) (aHj p0 (aB v4 70 aU x13) (wE v4 2 (Int.toNat z4) (Int.toNat (x13.length:Int))) [(v4,fSl0 aU x13)] (⟨(⟨x14,x15,x16,x17⟩:CodeProg),x18,x19,x20⟩:aP) y4 a2 y5 y6 (jH.cons frz_row0 jH.nil) (entW_sub (t:=aU) 0 rfl (sub_slc h9)) h10) rfl ?_
 refine fP (fun v10=>?_)
 refine aD 1 rfl (fun hc_v10=>?_)
 refine Z4 ?_
 revert H;refine bs fun y7 h11 H=>?_
 refine Yo 2 rfl (yI rfl hh hh (el rfl) h11) ?_
 refine aT ?_
 refine T_cut 88 rfl h11 (fun v11=>?_)
 refine aD 0 rfl (fun hc_v11=>?_)
 refine Z5 ?_
 refine aE [1,0,2] (by decide) ?_
 exact fL ((k1,z1,x12,y7,y6.CodeProg.Free,y6.CodeProg.Defs,y6.CodeProg.Code,y6.CodeProg.Main,y6.chans,y6.spots,y6.acts,v11,v10)) ⟨H,Nat.lt_succ_self _⟩ (Sc (Sc (Sc (Sc (Sc cP.nil))))) rfl
 exact fk
 kernel_rfl
 refine Z5 ?_
 revert H;refine is (fun c4 H=>?_) fun c4 H=>?_
 refine Z5 ?_
 revert H;refine bs fun z5 h12 H=>?_
 refine Z1 ?_
 revert H;refine bs fun y8 h13 H=>?_
 refine Z1 ?_
 refine Yo 2 rfl (aBx rfl rfl hh (ag rfl) (dU h13)) ?_
 refine nH trivial rfl rfl (cM rfl yH rfl) (fun b4=>?_)
 refine cU (φs':=[fI y8.Kind,fI y8.N]) trivial rfl rfl (has rfl) (has rfl) (aM (aG trivial) (aM (aG trivial) bO)) (sz rfl) rfl rfl rfl ?_
 refine Z5 ?_
 revert H;refine bs fun z6 h14 H=>?_
 refine Z1 ?_
 revert H;refine bs fun y9 h15 H=>?_
 refine Yo 3 rfl (yI rfl hh hh (el rfl) h15) ?_
 refine bI ?_
 refine T_cut 101 rfl h15 (fun v12=>?_)
 refine aD 0 rfl (fun hc_v12=>?_)
 refine Z4 ?_
 revert H;refine bs fun y10 h16 H=>?_
 refine iK trivial rfl rfl rfl hh (aK.cons hh aK.nil) rfl (cb rfl) (zN (⟨y8.Kind,y8.N⟩:SolVal) y10 h16) rfl ?_
 refine Z2 ?_
 revert H;refine is (fun c5 H=>?_) fun c5 H=>?_
 refine Z9 ?_
 refine aE [3,0,4] (by decide) ?_
 exact fL ((k1,y2.A,x12,y9,x14,x15,x16,x17,x18,x19,x20,v12,v5)) ⟨H,Nat.lt_succ_self _⟩ (Sc (Sc (Sc (Sc (Sc cP.nil))))) rfl
 refine Z5 ?_
 refine aE [3,0,4] (by decide) ?_
 exact fL ((k1,z1,x12,y9,x14,x15,x16,x17,x18,x19,x20,v12,v5)) ⟨H,Nat.lt_succ_self _⟩ (Sc (Sc (Sc (Sc (Sc cP.nil))))) rfl
 refine Z5 ?_
 revert H;refine is (fun c6 H=>?_) fun c6 H=>?_
 refine Z9 ?_
 refine aE [1,2,3] (by decide) ?_
 exact fL ((k1,y2.A,x12,x13,x14,x15,x16,x17,x18,x19,x20,v4,v5)) ⟨H,Nat.lt_succ_self _⟩ (Sc (Sc (Sc (Sc (Sc cP.nil))))) rfl
 refine Z5 ?_
 revert H;refine is (fun c7 H=>?_) fun c7 H=>?_
 refine Z7 ?_
 refine bI ?_
 refine aT ?_
 refine eR (x:=(⟨(⟨x14,x15,x16,x17⟩:CodeProg),x18,x19,x20⟩:aP)) ?_
 revert H;refine bs fun y11 h17 H=>?_
 rcases y11 with y11 | pv1 <;> dsimp only at H
 refine iK trivial rfl rfl rfl hh (aK.cons hh (aK.cons hh (aK.cons hh (aK.cons hh aK.nil)))) rfl (cb rfl) (ih_code_runner_def p0 (⟨(⟨x14,x15,x16,x17⟩:CodeProg),x18,x19,x20⟩:aP) y2.A a2 x12 (Sum.inl y11) h17).s rfl ?_
 refine fP (fun v13=>?_)
 refine aD 1 rfl (fun hc_v13=>?_)
 refine Z5 ?_
 refine aE [0,3,1] (by decide) ?_
 exact fL ((k1,z1,y11.2,x13,y11.1.CodeProg.Free,y11.1.CodeProg.Defs,y11.1.CodeProg.Code,y11.1.CodeProg.Main,y11.1.chans,y11.1.spots,y11.1.acts,v4,v13)) ⟨H,Nat.lt_succ_self _⟩ (Sc (Sc (Sc (Sc (Sc cP.nil))))) rfl
 refine wF trivial rfl (has rfl) (aK.cons (has rfl) (aK.cons (has rfl) (aK.cons (has rfl) (aK.cons (has rfl) aK.nil)))) rfl (cb rfl) (ih_code_runner_def p0 (⟨(⟨x14,x15,x16,x17⟩:CodeProg),x18,x19,x20⟩:aP) y2.A a2 x12 (Sum.inr pv1) h17).pan rfl ?_
 refine Z4 ?_
 refine aG2 ?_
 cases H
 exact bB
 refine Z5 ?_
 revert H;refine is (fun c8 H=>?_) fun c8 H=>?_
 refine Z5 ?_
 revert H;refine bs fun y12 h18 H=>?_
 refine Yy (aAa (t:=aU) rfl hh yA (wN hh) (el rfl) h18) ?_
 refine Z5 ?_
 refine aE [1,2,3] (by decide) ?_
 exact fL ((k1,z1,y12,x13,x14,x15,x16,x17,x18,x19,x20,v4,v5)) ⟨H,Nat.lt_succ_self _⟩ (Sc (Sc (Sc (Sc (Sc cP.nil))))) rfl
 refine Z1 ?_
 revert H;refine bs fun o1 H Hr1=>?_
 refine bD (ι:=Bool) (fun i=>o1=i) (fun i=>[(0,fEq (ptr p0)),(1,fI z1),(2,fI a2),(8,fSl aU x12),(9,fEq v4),(10,fEq (ptr b1)),(27,fI y2.Op),(125,aS i)]) (fun i=>[aA b1 73 [fI y2.Op,fI y2.A,fI y2.B],aA p0 125 [fI x14,fSl aF x15,fSl aJ x16,fI x17,fI x18,fI x19,fEq v5],aB v4 70 aU x13,aB v5 67 cH x20]) ?_ ?_
 refine Z4 ?_
 revert H;refine is (fun c9 H=>?_) fun c9 H=>?_
 refine Z3 ?_
 exact fL (decide (y2.Op=13)) (Option.some.inj H).symm (Sc (Sc (Sc (Sc (Sc (Sc (Sc (Sc cP.nil)))))))) rfl
 refine Z5 ?_
 revert H;refine is (fun c10 H=>?_) fun c10 H=>?_
 refine Z3 ?_
 exact fL (decide (y2.Op=14)) (Option.some.inj H).symm (Sc (Sc (Sc (Sc (Sc (Sc (Sc (Sc cP.nil)))))))) rfl
 refine Z5 ?_
 exact fL (decide (y2.Op=15)) (Option.some.inj H).symm (Sc (Sc (Sc (Sc (Sc (Sc (Sc (Sc cP.nil)))))))) rfl
 clear H;intro x21 hi;subst o1;have H:=Hr1;clear Hr1;try dsimp only at H
 try dsimp only
 revert H;refine cs (fun c11 H=>?_) fun c11 H=>?_
 refine Z5 ?_
 revert H;refine bs fun z7 h19 H=>?_
 refine Z2 ?_
 refine bI ?_
 refine aT ?_
 refine eR (x:=(⟨(⟨x14,x15,x16,x17⟩:CodeProg),x18,x19,x20⟩:aP)) ?_
 refine T_empI ?_
 refine aR ?_
 revert H;refine bs fun y13 h20 H=>?_
 refine iK trivial rfl rfl rfl hh (aK.cons hh (aK.cons hh (aK.cons hh (aK.cons hh (aK.cons hh aK.nil))))) rfl (cb rfl) (wK p0 eQ (fSl aU x12) [] (⟨(⟨x14,x15,x16,x17⟩:CodeProg),x18,x19,x20⟩:aP) 4 a2 z7 x12 y13 aE6 (aDH Ent.rfl) h20) rfl ?_
 refine fP (fun v14=>?_)
 refine aD 1 rfl (fun hc_v14=>?_)
 refine Z4 ?_
 refine aE [0,4,1] (by decide) ?_
 exact fL ((k1,z1,x12,x13,y13.CodeProg.Free,y13.CodeProg.Defs,y13.CodeProg.Code,y13.CodeProg.Main,y13.chans,y13.spots,y13.acts,v4,v14)) ⟨H,Nat.lt_succ_self _⟩ (Sc (Sc (Sc (Sc (Sc cP.nil))))) rfl
 refine Z5 ?_
 revert H;refine is (fun c12 H=>?_) fun c12 H=>?_
 refine Z6 ?_
 refine T_ng_n ?_
 refine bI ?_
 refine aT ?_
 refine eR (x:=(⟨(⟨x14,x15,x16,x17⟩:CodeProg),x18,x19,x20⟩:aP)) ?_
 cases H
 refine fM ?_
 refine aE [0] (by decide) ?_
 exact eX (.inr rfl) rfl rfl
 refine Z4 ?_
 revert H;refine bs fun z8 h21 H=>?_
 refine Z3 ?_
 refine aW ?_
 revert H;refine bs fun y14 h22 H=>?_
 revert H;refine bs fun z9 h23 H=>?_
 revert H;refine bs fun y15 h24 H=>?_
 revert H;refine bs fun y16 h25 H=>?_
 revert H;refine bs fun y17 h26 H=>?_
 apply cB (ods:=[_,_,_,_,_,_,_,_,_,_,_,_,_,_,_]) 15 0 4 bZ rfl rfl rfl
 refine ND ?_
 refine M7 ?_
 intros
 refine Mo 2 rfl (aBx rfl rfl hh (ag rfl) (dU h22)) fun _=>?_
 refine M4 ?_
 intros
 refine Mo 2 rfl (aBx rfl rfl hh (ag rfl) (dU h24)) fun _=>?_
 refine N_call (od:=odC [] true (fSt aU y16) []) (Φ:=fSt aU y16) rfl (fun _=>rfl) trivial rfl rfl (has rfl) (aK.cons (has rfl) (aK.cons (has rfl) (aK.cons (has rfl) aK.nil))) rfl (cb rfl) (aGW y2.Op y14 y15 y16 h25) (fun _=>?_)
 refine M1 ?_
 intros
 refine Z1 ?_
 refine aT ?_
 refine aGN (z:=y16) trivial rfl rfl rfl (has rfl) (has rfl) (sz rfl) (List.getElem?_eq_some_iff.1 (dU h26)).1 ?_
 refine Z4 ?_
 revert H;refine bs fun z10 h27 H=>?_
 refine Z1 ?_
 revert H;refine bs fun y18 h28 H=>?_
 refine Yo 0 rfl (yI rfl hh hh (el rfl) h28) ?_
 refine T_cut 49 rfl h28 (fun v15=>?_)
 refine aD 0 rfl (fun hc_v15=>?_)
 refine Z5 ?_
 refine aE [2,0,3] (by decide) ?_
 exact fL ((k1,z1,x12,y18,x14,x15,x16,x17,x18,x19,x20,v15,v5)) ⟨H,Nat.lt_succ_self _⟩ (Sc (Sc (Sc (Sc (Sc cP.nil))))) rfl
 exact fk
 kernel_rfl
 intro p0 a0 a1 a2 a3 r H
 rw [iU]at H
 refine gU Tryz.func95 rfl Tryz.ntmps95 rfl (fun β=>?_)
 refine fP (fun v1=>?_)
 refine aD 1 rfl (fun hc_v1=>?_)
 refine Z10 ?_
 revert H;refine bs fun y1 h1 H=>?_
 refine Z2 ?_
 refine nH trivial rfl rfl (cM rfl rU rfl) (fun b1=>?_)
 refine cU (φs':=[fSl dA y1.Chans,fSl cL y1.Spots,fSl bW y1.Rules]) trivial rfl rfl (has rfl) (has rfl) (aM (cR) (aM (cR) (aM (cR) bO))) (sz rfl) rfl rfl rfl ?_
 refine Z5 ?_
 refine aT ?_
 refine aT ?_
 refine eR (x:=(⟨(⟨a0.CodeProg.Free,a0.CodeProg.Defs,a0.CodeProg.Code,a0.CodeProg.Main⟩:CodeProg),a0.chans,a0.spots,a0.acts⟩:aP)) ?_
 revert H;refine bs fun y2 h2 H=>?_
 rcases y2 with y2 | pv1 <;> dsimp only at H
 refine iK trivial rfl rfl rfl hh (aK.cons hh (aK.cons hh (aK.cons hh aK.nil))) rfl (cb rfl) (aDW fuel p0 (⟨(⟨a0.CodeProg.Free,a0.CodeProg.Defs,a0.CodeProg.Code,a0.CodeProg.Main⟩:CodeProg),a0.chans,a0.spots,a0.acts⟩:aP) (⟨y1.Chans,y1.Spots,y1.Rules⟩:ScopeDef) a3 (Sum.inl y2) h2).s rfl ?_
 refine fP (fun v2=>?_)
 refine aD 1 rfl (fun hc_v2=>?_)
 refine Z7 ?_
 refine eR (x:=(⟨(⟨y2.1.CodeProg.Free,y2.1.CodeProg.Defs,y2.1.CodeProg.Code,y2.1.CodeProg.Main⟩:CodeProg),y2.1.chans,y2.1.spots,y2.1.acts⟩:aP)) ?_
 refine T_empI ?_
 refine aR ?_
 revert H;refine bs fun y3 h3 H=>?_
 refine iK trivial rfl rfl rfl hh (aK.cons hh (aK.cons hh (aK.cons hh (aK.cons hh (aK.cons hh aK.nil))))) rfl (cb rfl) (wK p0 eQ (fSl aU y2.2) [] (⟨(⟨y2.1.CodeProg.Free,y2.1.CodeProg.Defs,y2.1.CodeProg.Code,y2.1.CodeProg.Main⟩:CodeProg),y2.1.chans,y2.1.spots,y2.1.acts⟩:aP) 3 a2 a1 y2.2 y3 aE6 (aDH Ent.rfl) h3) rfl ?_
 refine fP (fun v3=>?_)
 refine aD 1 rfl (fun hc_v3=>?_)
 refine Z8 ?_
 revert H;refine bs fun z1 h4 H=>?_
 refine Z1 ?_
 revert H;refine bs fun y4 h5 H=>?_
 refine Yy (aAa (t:=aU) rfl hh (wN hh) yA (el rfl) h5) ?_
 refine Z2 ?_
 revert H;refine bs fun o1 H Hr1=>?_
 refine bD (ι:=Int × List ScopeDef × List CodeIns × Int × Int × Int × List CodeAct × Value) (fun i=>o1=Sum.inl (i.1,i.2.1,i.2.2.1,i.2.2.2.1,i.2.2.2.2.1,i.2.2.2.2.2.1,i.2.2.2.2.2.2.1)) (fun i=>[(0,fEq (ptr p0)),(10,fSl aU y2.2)]) (fun i=>[aA p0 125 [fI i.1,fSl aF i.2.1,fSl aJ i.2.2.1,fI i.2.2.2.1,fI i.2.2.2.2.1,fI i.2.2.2.2.2.1,fEq i.2.2.2.2.2.2.2],aA b1 63 [fSl dA y1.Chans,fSl cL y1.Spots,fSl bW y1.Rules],aB i.2.2.2.2.2.2.2 67 cH i.2.2.2.2.2.2.1]) ?_ ?_
 refine Z7 ?_
 refine aE [0,3,1] (by decide) ?_
 refine aAf (ι:=Nat × Int × Int × List ScopeDef × List CodeIns × Int × Int × Int × List CodeAct × Value) (fun i=>lB (fT fuel) y1 y2 y4 i.1 i.2.1 i.2.2.1 i.2.2.2.1 i.2.2.2.2.1 i.2.2.2.2.2.1 i.2.2.2.2.2.2.1 i.2.2.2.2.2.2.2.1 i.2.2.2.2.2.2.2.2.1=_) (fun i=>i.1) (fun i=>[(0,fEq (ptr p0)),(10,fSl aU y2.2),(11,fSl aU y4),(40,fSl cL y1.Spots),(41,fI (y1.Spots.length:Int)),(42,fI i.2.1)]) (fun i=>[aA p0 125 [fI i.2.2.1,fSl aF i.2.2.2.1,fSl aJ i.2.2.2.2.1,fI i.2.2.2.2.2.1,fI i.2.2.2.2.2.2.1,fI i.2.2.2.2.2.2.2.1,fEq i.2.2.2.2.2.2.2.2.2],aA b1 63 [fSl dA y1.Chans,fSl cL y1.Spots,fSl bW y1.Rules],aB i.2.2.2.2.2.2.2.2.2 67 cH i.2.2.2.2.2.2.2.2.1]) (fuel,0,y3.CodeProg.Free,y3.CodeProg.Defs,y3.CodeProg.Code,y3.CodeProg.Main,y3.chans,y3.spots,y3.acts,v3) H (Sc (Sc (Sc (Sc (Sc (Sc cP.nil)))))) rfl ?_
 clear H;rintro⟨k1,x16,x17,x18,x19,x20,x21,x22,x23,v6⟩ H
 replace H:lB (fT fuel) y1 y2 y4 k1 x16 x17 x18 x19 x20 x21 x22 x23=_:=H
 try dsimp only
 obtain _ | k1:=k1
 rw [lB]at H;cases H
 rw [lB]at H
 refine aD 2 rfl (fun hc_v6=>?_)
 refine Z3 ?_
 refine aW ?_
 revert H;refine is (fun c1 H=>?_) fun c1 H=>?_
 refine Z3 ?_
 refine aW ?_
 refine Z3 ?_
 revert H;refine bs fun y5 h6 H=>?_
 refine Z2 ?_
 refine nH trivial rfl rfl (cM rfl wH rfl) (fun b2=>?_)
 refine Z1 ?_
 refine cU (φs':=[fI y5.In,fI y5.Node]) trivial rfl rfl (has rfl) (has rfl) (aM (aG trivial) (aM (aG trivial) bO)) (sz rfl) rfl rfl rfl ?_
 refine Z1 ?_
 revert H;refine bs fun y6 h7 H=>?_
 apply cB (ods:=[_,_,_,_,_,_,_,_,_]) 9 0 4 bZ rfl rfl rfl
 refine ND ?_
 refine M8 ?_
 intros
 refine M1 ?_
 intros
 refine Z1 ?_
 refine bI ?_
 refine aT ?_
 refine eR (x:=(⟨(⟨x17,x18,x19,x20⟩:CodeProg),x21,x22,x23⟩:aP)) ?_
 revert H;refine bs fun y7 h8 H=>?_
 rcases y7 with y7 | pv2 <;> dsimp only at H
 refine iK trivial rfl rfl rfl hh (aK.cons hh (aK.cons hh (aK.cons hh (aK.cons hh aK.nil)))) rfl (cb rfl) (ih_code_runner_run p0 (⟨(⟨x17,x18,x19,x20⟩:CodeProg),x21,x22,x23⟩:aP) y5.Node y6.N y2.2 (Sum.inl y7) h8).s rfl ?_
 refine fP (fun v7=>?_)
 refine aD 1 rfl (fun hc_v7=>?_)
 refine Z4 ?_
 revert H;refine bs fun z2 h9 H=>?_
 refine Z3 ?_
 refine aE [0,3,1] (by decide) ?_
 exact fL ((k1,z2,y7.CodeProg.Free,y7.CodeProg.Defs,y7.CodeProg.Code,y7.CodeProg.Main,y7.chans,y7.spots,y7.acts,v7)) ⟨H,Nat.lt_succ_self _⟩ (Sc (Sc (Sc (Sc (Sc (Sc cP.nil)))))) rfl
 refine wF trivial rfl (has rfl) (aK.cons (has rfl) (aK.cons (has rfl) (aK.cons (has rfl) (aK.cons (has rfl) aK.nil)))) rfl (cb rfl) (ih_code_runner_run p0 (⟨(⟨x17,x18,x19,x20⟩:CodeProg),x21,x22,x23⟩:aP) y5.Node y6.N y2.2 (Sum.inr pv2) h8).pan rfl ?_
 refine Z5 ?_
 revert H;refine bs fun r1 H e1=>?_
 have e1:=Option.some.inj e1;subst e1;have Hr1:=Option.some.inj Hr1;subst Hr1
 cases H
 exact bB
 exact fk
 kernel_rfl
 refine Z6 ?_
 exact fL ((x17,x18,x19,x20,x21,x22,x23,v6)) (Option.some.inj H).symm (Sc (Sc cP.nil)) rfl
 clear H;intro i hi;obtain⟨x1,x2,x3,x4,x5,x6,x7,v4⟩:=i;subst o1;have H:=Hr1;clear Hr1;try dsimp only at H
 try dsimp only
 refine aD 2 rfl (fun hc_v4=>?_)
 refine Z5 ?_
 refine aT ?_
 refine aR ?_
 refine eR (x:=(⟨(⟨x1,x2,x3,x4⟩:CodeProg),x5,x6,x7⟩:aP)) ?_
 cases H
 refine fM ?_
 refine aE [0] (by decide) ?_
 exact T_out1 rfl (iZ rfl) rfl
 refine wF trivial rfl (has rfl) (aK.cons (has rfl) (aK.cons (has rfl) (aK.cons (has rfl) aK.nil))) rfl (cb rfl) (aDW fuel p0 (⟨(⟨a0.CodeProg.Free,a0.CodeProg.Defs,a0.CodeProg.Code,a0.CodeProg.Main⟩:CodeProg),a0.chans,a0.spots,a0.acts⟩:aP) (⟨y1.Chans,y1.Spots,y1.Rules⟩:ScopeDef) a3 (Sum.inr pv1) h2).pan rfl ?_
 refine Z1 ?_
 cases H
 exact bB
theorem aCn (fuel:Nat) (p0:Nat) (a0:aP) (a1:Int) (a2:Int) (a3:List SolVal) (r:aP ⊕ Value) (H:fT fuel a0 a1 a2 a3=some r):FnE Tryz.prog 53 [fEq (.pointer (some ⟨p0,0,none⟩)),fI a1,fI a2,fSl aU a3] [fN p0 a0] r (fun r=>dZ []) (fun r=>[fN p0 r]):=(aGZ fuel).1 p0 a0 a1 a2 a3 r H
open Go.SX Go.SW Go.Dt
theorem aGs (p0 p1:Nat) (φ0 φ1:Fact):FnD Tryz.prog 52 [fEq (ptr p0),fEq (ptr p1)] [aA p0 48 [φ0],aA p1 29 [φ1]] (.returning) [aA p0 48 [φ0],aA p1 29 [φ1]]:=by
 refine yD Tryz.func52 rfl Tryz.ntmps52 rfl (fun β c₀ cs hc=>?_)
 refine aEp (v:= .nilIface) (cs':=c₀ :: cs) (by simp [recoverD,hc]) rfl rfl rfl rfl rfl rfl ⟨rfl,rfl⟩ ?_
 refine T_inS ?_
 refine Z2 ?_
 refine Yy (aDy rfl hh xP (rfl:mA _=some true)) ?_
 refine Z3 ?_
 exact xX (u':= .returning) (.inr rfl) rfl (by cases c₀;cases hc;rfl) rfl rfl
theorem aGG (p0 p1:Nat) (φ0 φ1:Fact) (e1:Int):FnD Tryz.prog 52 [fEq (ptr p0),fEq (ptr p1)] [aA p0 48 [φ0],aA p1 29 [φ1]] (.panicking [{ v:=(.iface 29 (.int .i64 e1)),recovered:=false }]) [aA p0 48 [fEq (.slice none 0 0)],aA p1 29 [fI e1]]:=by
 refine yD Tryz.func52 rfl Tryz.ntmps52 rfl (fun β c₀ cs hc=>?_)
 refine aEp (v:=(.iface 29 (.int .i64 e1))) (cs':={ c₀ with mode:= .panicking [{ v:=(.iface 29 (.int .i64 e1)),recovered:=true }] } :: cs) (by simp [recoverD,hc]) rfl rfl rfl rfl rfl rfl ⟨rfl,rfl⟩ ?_
 refine T_inS ?_
 refine Z2 ?_
 refine Yy (aDy rfl hh xP (rfl:mA _=some false)) ?_
 refine Z2 ?_
 apply cB (ods:=[_,_,_,_]) 4 0 2 bZ rfl rfl rfl
 refine ND ?_
 refine M1 ?_
 intros
 refine My (aGM (φ:=fI e1) rfl hh aA5 Ent.rfl) fun _=>?_
 refine aBF (od:=odC [0] true (fS) [aA p0 48 [fEq (.slice none 0 0)]]) (p:=0) (φs':=[fEq (.slice none 0 0)]) rfl (fun _=>rfl) (fun _=>rfl) trivial rfl rfl rfl (has rfl) (has rfl) (aG trivial) (sz rfl) rfl rfl (fun _=>?_)
 refine aBF (od:=odC [1] true (fS) [aA p1 29 [fI e1]]) (p:=1) (φs':=[fI e1]) rfl (fun _=>rfl) (fun _=>rfl) trivial rfl rfl rfl (has rfl) (has rfl) (aG trivial) (sz rfl) rfl rfl (fun _=>?_)
 refine Z2 ?_
 exact xX (u':= .panicking [{ v:=(.iface 29 (.int .i64 e1)),recovered:=true }]) (.inr rfl) rfl rfl rfl rfl
 exact fk
 kernel_rfl
def jQ (a3:List SolVal):Nat → Int → Int → (List ScopeDef) → (List CodeIns) → Int → Int → Int → (List CodeAct) → Option ((Int × List ScopeDef × List CodeIns × Int × Int × Int × List CodeAct) ⊕ ((List CodeAct) × Int))
| 0,_,_,_,_,_,_,_,_=>none
| k+1,x16,x17,x18,x19,x20,x21,x22,x23=>
 if x16<(a3.length:Int)then
  (idx a3 x16).bind fun y4=>
  (rM (⟨(⟨x17,x18,x19,x20⟩:CodeProg),x21,x22,x23⟩:aP) (⟨y4.Kind,y4.N⟩:SolVal)).bind fun y5=>
  bif y5.2 then
   (chk (x16+1)).bind fun z1=>
   jQ a3 k z1 y5.1.CodeProg.Free y5.1.CodeProg.Defs y5.1.CodeProg.Code y5.1.CodeProg.Main y5.1.chans y5.1.spots y5.1.acts
  else
   (some ([],2)).bind fun r=>some (Sum.inr r)
 else
  some (Sum.inl (x17,x18,x19,x20,x21,x22,x23))
def jU (fuel:Nat) (a0:CodeProg) (a1:Int) (a2:Int) (a3:List SolVal) (a4:Int) (a5:Int):Option ((List CodeAct) × Int):=
 (eI fuel (⟨a0.Free,a0.Defs,a0.Code,a0.Main⟩:CodeProg)).bind fun y1=>
 bif !y1.2 then
  some ([],2)
 else
  (y1.1).bind fun y2=>
  (qN fuel y2.begins a1).bind fun y3=>
  bif !y3 then
   some ([],2)
  else
   if (a3.length:Int)≠(((y2.levels.get a1).getD (⟨0,0⟩:CodeLevel)).Slots)then
    some ([],2)
   else
    if a4<0 then
     some ([],2)
    else
     if 60<a4 then
      some ([],2)
     else
      if a5<1 then
       some ([],2)
      else
       if 24<a5 then
        some ([],2)
       else
        if a2<0 then
         some ([],2)
        else
         if a5 ≤ a2 then
          some ([],2)
         else
          (jQ a3 fuel 0 a0.Free a0.Defs a0.Code a0.Main a4 a5 []).bind fun o=>match o with
          | Sum.inr r=>some r
          | Sum.inl (x1,x2,x3,x4,x5,x6,x7)=>
          (fT fuel (⟨(⟨x1,x2,x3,x4⟩:CodeProg),x5,x6,x7⟩:aP) a1 a2 a3).bind fun y6=>
          match y6 with
          | Sum.inr pv1=>(unN 29 .i64 pv1).bind fun e2=>some ([],e2)
          | Sum.inl y6=>
          some (y6.acts,0)
theorem aGj (fuel:Nat)  (a0:CodeProg) (a1:Int) (a2:Int) (a3:List SolVal) (a4:Int) (a5:Int) (r:(List CodeAct) × Int) (H:jU fuel a0 a1 a2 a3 a4 a5=some r):FnS Tryz.prog 17 [fSt kK a0,fI a1,fI a2,fSl aU a3,fI a4,fI a5] [] (dZ [fSl cH r.1,fI r.2]) (fun _=>[]):=by
 unfold jU at H
 refine aEl Tryz.func17 rfl Tryz.ntmps17 rfl (fun β=>?_)
 refine Z1 ?_
 refine Tn (dO rfl hh cO) fun b1=>?_
 refine Tn (cM rfl ty_ze_48 rfl) fun b2=>?_
 refine Tn (cM rfl ty_ze_29 rfl) fun b3=>?_
 revert H;refine B3 fun y1 h1 H=>?_
 refine Tc (aFs _ _ _ h1) ?_
 refine Z6 ?_
 refine aW ?_
 refine Z4 ?_
 revert H;refine cs (fun c1 H=>?_) fun c1 H=>?_
 refine Z12 ?_
 refine Z12 ?_
 refine Z12 ?_
 refine Z12 ?_
 refine aR ?_
 refine cF (φs':=[fEq (.slice none 0 0)]) trivial rfl rfl (has rfl) (has rfl) (aG trivial) (sz rfl) rfl rfl ?_
 refine aR ?_
 refine cF (φs':=[fI 2]) trivial rfl rfl (has rfl) (has rfl) (aG trivial) (sz rfl) rfl rfl ?_
 refine Z2 ?_
 cases H
 refine aE [1,0] (by decide) ?_
 exact kD (dX rfl rfl rfl (sc rfl) (sc rfl) eM Ent.rfl)
 revert H;refine B1 fun y2 h2 H=>?_
 refine oX 22 rfl (aAP h2) ?_
 refine oX 14 rfl (aAP h2) ?_
 refine oX 27 rfl (aAP h2) ?_
 revert H;refine B4 fun y3 h3 H=>?_
 refine Tc (aDr _ _ _ _ h3) ?_
 refine Z3 ?_
 revert H;refine cs (fun c2 H=>?_) fun c2 H=>?_
 refine Z12 ?_
 refine Z12 ?_
 refine Z12 ?_
 refine Z3 ?_
 refine aR ?_
 refine cF (φs':=[fEq (.slice none 0 0)]) trivial rfl rfl (has rfl) (has rfl) (aG trivial) (sz rfl) rfl rfl ?_
 refine aR ?_
 refine cF (φs':=[fI 2]) trivial rfl rfl (has rfl) (has rfl) (aG trivial) (sz rfl) rfl rfl ?_
 refine Z2 ?_
 cases H
 refine aE [1,0] (by decide) ?_
 exact kD (dX rfl rfl rfl (sc rfl) (sc rfl) eM Ent.rfl)
 refine Z4 ?_
 refine Yg c2 (qP (t':=(tMapD aZ (fun y=>fSt bG y))) (z:=y2.levels) rfl (has rfl) (fa rfl) rfl) ?_
 refine Z2 ?_
 refine Yg c2 (o_lookup (zα:=(⟨0,0⟩:CodeLevel)) (k:=a1) rfl hh hh rfl sQ (rA [(.int .i64 0),(.int .i64 0)])) ?_
 refine Yg c2 (o_fieldV 1 rfl hh (by kernel_rfl) rfl) ?_
 revert H;refine I3 (fun c3 H=>?_) fun c3 H=>?_
 refine Z12 ?_
 refine Z12 ?_
 refine Z3 ?_
 refine aR ?_
 refine cF (φs':=[fEq (.slice none 0 0)]) trivial rfl rfl (has rfl) (has rfl) (aG trivial) (sz rfl) rfl rfl ?_
 refine aR ?_
 refine cF (φs':=[fI 2]) trivial rfl rfl (has rfl) (has rfl) (aG trivial) (sz rfl) rfl rfl ?_
 refine Z2 ?_
 cases H
 refine aE [1,0] (by decide) ?_
 exact kD (dX rfl rfl rfl (sc rfl) (sc rfl) eM Ent.rfl)
 revert H;refine I4 (fun c4 H=>?_) fun c4 H=>?_
 refine Z12 ?_
 refine Z11 ?_
 refine aR ?_
 refine cF (φs':=[fEq (.slice none 0 0)]) trivial rfl rfl (has rfl) (has rfl) (aG trivial) (sz rfl) rfl rfl ?_
 refine aR ?_
 refine cF (φs':=[fI 2]) trivial rfl rfl (has rfl) (has rfl) (aG trivial) (sz rfl) rfl rfl ?_
 refine Z2 ?_
 cases H
 refine aE [1,0] (by decide) ?_
 exact kD (dX rfl rfl rfl (sc rfl) (sc rfl) eM Ent.rfl)
 revert H;refine I4 (fun c5 H=>?_) fun c5 H=>?_
 refine Z12 ?_
 refine Z7 ?_
 refine aR ?_
 refine cF (φs':=[fEq (.slice none 0 0)]) trivial rfl rfl (has rfl) (has rfl) (aG trivial) (sz rfl) rfl rfl ?_
 refine aR ?_
 refine cF (φs':=[fI 2]) trivial rfl rfl (has rfl) (has rfl) (aG trivial) (sz rfl) rfl rfl ?_
 refine Z2 ?_
 cases H
 refine aE [1,0] (by decide) ?_
 exact kD (dX rfl rfl rfl (sc rfl) (sc rfl) eM Ent.rfl)
 revert H;refine I4 (fun c6 H=>?_) fun c6 H=>?_
 refine Z12 ?_
 refine Z3 ?_
 refine aR ?_
 refine cF (φs':=[fEq (.slice none 0 0)]) trivial rfl rfl (has rfl) (has rfl) (aG trivial) (sz rfl) rfl rfl ?_
 refine aR ?_
 refine cF (φs':=[fI 2]) trivial rfl rfl (has rfl) (has rfl) (aG trivial) (sz rfl) rfl rfl ?_
 refine Z2 ?_
 cases H
 refine aE [1,0] (by decide) ?_
 exact kD (dX rfl rfl rfl (sc rfl) (sc rfl) eM Ent.rfl)
 revert H;refine I4 (fun c7 H=>?_) fun c7 H=>?_
 refine Z11 ?_
 refine aR ?_
 refine cF (φs':=[fEq (.slice none 0 0)]) trivial rfl rfl (has rfl) (has rfl) (aG trivial) (sz rfl) rfl rfl ?_
 refine aR ?_
 refine cF (φs':=[fI 2]) trivial rfl rfl (has rfl) (has rfl) (aG trivial) (sz rfl) rfl rfl ?_
 refine Z2 ?_
 cases H
 refine aE [1,0] (by decide) ?_
 exact kD (dX rfl rfl rfl (sc rfl) (sc rfl) eM Ent.rfl)
 revert H;refine I4 (fun c8 H=>?_) fun c8 H=>?_
 refine Z7 ?_
 refine aR ?_
 refine cF (φs':=[fEq (.slice none 0 0)]) trivial rfl rfl (has rfl) (has rfl) (aG trivial) (sz rfl) rfl rfl ?_
 refine aR ?_
 refine cF (φs':=[fI 2]) trivial rfl rfl (has rfl) (has rfl) (aG trivial) (sz rfl) rfl rfl ?_
 refine Z2 ?_
 cases H
 refine aE [1,0] (by decide) ?_
 exact kD (dX rfl rfl rfl (sc rfl) (sc rfl) eM Ent.rfl)
 revert H;refine I5 (fun c9 H=>?_) fun c9 H=>?_
 refine Z2 ?_
 refine aR ?_
 refine cF (φs':=[fEq (.slice none 0 0)]) trivial rfl rfl (has rfl) (has rfl) (aG trivial) (sz rfl) rfl rfl ?_
 refine aR ?_
 refine cF (φs':=[fI 2]) trivial rfl rfl (has rfl) (has rfl) (aG trivial) (sz rfl) rfl rfl ?_
 refine Z2 ?_
 cases H
 refine aE [1,0] (by decide) ?_
 exact kD (dX rfl rfl rfl (sc rfl) (sc rfl) eM Ent.rfl)
 refine Z7 ?_
 refine Yy (gF (ψs:=[fI a0.Free,fSl aF a0.Defs,fSl aJ a0.Code,fI a0.Main,fI a4,fI a5,fEq (.slice none 0 0)]) rfl aGb rfl (bH.cons (has rfl) cO (bH.cons (has rfl) (dJ (aG trivial)) (bH.cons (has rfl) (dJ (aG trivial)) bH.nil))) rfl) ?_
 refine Tn (dO rfl hh cO) fun b4=>?_
 revert H;refine B2 fun o1 H Hr1=>?_
 refine bD (ι:=Int × List ScopeDef × List CodeIns × Int × Int × Int × List CodeAct × Value) (fun i=>o1=Sum.inl (i.1,i.2.1,i.2.2.1,i.2.2.2.1,i.2.2.2.2.1,i.2.2.2.2.2.1,i.2.2.2.2.2.2.1)) (fun i=>[(1,fI a1),(2,fI a2),(3,fSl aU a3),(12,fEq (ptr b2)),(13,fEq (ptr b3)),(16,fEq (ptr b4))]) (fun i=>[aA b4 125 [fI i.1,fSl aF i.2.1,fSl aJ i.2.2.1,fI i.2.2.2.1,fI i.2.2.2.2.1,fI i.2.2.2.2.2.1,fEq i.2.2.2.2.2.2.2],aA b3 29 [fI 0],aA b2 48 [fEq (.slice none 0 0)],aA b1 25 [fI a0.Free,fSl aF a0.Defs,fSl aJ a0.Code,fI a0.Main],aB i.2.2.2.2.2.2.2 67 cH i.2.2.2.2.2.2.1]) ?_ ?_
 refine Z6 ?_
 refine fK cH 67 ?_
 refine aE [1,2,3,4,0] (by decide) ?_
 refine Tl (ι:=Nat × Int × Int × List ScopeDef × List CodeIns × Int × Int × Int × List CodeAct × Value) (fun i=>jQ a3 i.1 i.2.1 i.2.2.1 i.2.2.2.1 i.2.2.2.2.1 i.2.2.2.2.2.1 i.2.2.2.2.2.2.1 i.2.2.2.2.2.2.2.1 i.2.2.2.2.2.2.2.2.1=_) (fun i=>i.1) (fun i=>[(1,fI a1),(2,fI a2),(3,fSl aU a3),(12,fEq (ptr b2)),(13,fEq (ptr b3)),(16,fEq (ptr b4)),(77,fSl aU a3),(78,fI (a3.length:Int)),(79,fI i.2.1)]) (fun i=>[aA b4 125 [fI i.2.2.1,fSl aF i.2.2.2.1,fSl aJ i.2.2.2.2.1,fI i.2.2.2.2.2.1,fI i.2.2.2.2.2.2.1,fI i.2.2.2.2.2.2.2.1,fEq i.2.2.2.2.2.2.2.2.2],aA b3 29 [fI 0],aA b2 48 [fEq (.slice none 0 0)],aA b1 25 [fI a0.Free,fSl aF a0.Defs,fSl aJ a0.Code,fI a0.Main],aB i.2.2.2.2.2.2.2.2.2 67 cH i.2.2.2.2.2.2.2.2.1]) (fuel,0,a0.Free,a0.Defs,a0.Code,a0.Main,a4,a5,[],(.slice none 0 0)) H ?_
 clear H;rintro⟨k1,x16,x17,x18,x19,x20,x21,x22,x23,v3⟩ H
 replace H:jQ a3 k1 x16 x17 x18 x19 x20 x21 x22 x23=_:=H
 try dsimp only
 obtain _ | k1:=k1
 rw [jQ]at H;cases H
 rw [jQ]at H
 refine aD 4 rfl (fun hc_v3=>?_)
 refine Z3 ?_
 refine aW ?_
 revert H;refine is (fun c10 H=>?_) fun c10 H=>?_
 refine Z3 ?_
 refine aW ?_
 revert H;refine B2 fun y4 h4 H=>?_
 refine Z2 ?_
 refine Tn (cM rfl yH rfl) fun b5=>?_
 refine cU (φs':=[fI y4.Kind,fI y4.N]) trivial rfl rfl (has rfl) (has rfl) (aM (aG trivial) (aM (aG trivial) bO)) (sz rfl) rfl rfl rfl ?_
 refine Z4 ?_
 refine eZ ?_
 refine aT ?_
 refine eR (x:=(⟨(⟨x17,x18,x19,x20⟩:CodeProg),x21,x22,x23⟩:aP)) ?_
 revert H;refine bs fun y5 h5 H=>?_
 refine Tc (aGf _ _ _ _ h5) ?_
 refine fP (fun v4=>?_)
 refine aD 1 rfl (fun hc_v4=>?_)
 refine Z2 ?_
 revert H;refine cs (fun c11 H=>?_) fun c11 H=>?_
 revert H;refine B5 fun z1 h6 H=>?_
 refine Z3 ?_
 refine aE [0,3,4,5,1] (by decide) ?_
 exact Tm ((k1,z1,y5.1.CodeProg.Free,y5.1.CodeProg.Defs,y5.1.CodeProg.Code,y5.1.CodeProg.Main,y5.1.chans,y5.1.spots,y5.1.acts,v4)) ⟨H,ls⟩
 refine Z2 ?_
 refine aY ?_
 refine cF (φs':=[fEq (.slice none 0 0)]) trivial rfl rfl (has rfl) (has rfl) (aG trivial) (sz rfl) rfl rfl ?_
 refine aY ?_
 refine cF (φs':=[fI 2]) trivial rfl rfl (has rfl) (has rfl) (aG trivial) (sz rfl) rfl rfl ?_
 revert H;refine B7 fun r1 H e1=>?_
 cases e1;cases Hr1
 cases H
 refine aE [1,0] (by decide) ?_
 exact kD (dX rfl rfl rfl (sc rfl) (sc rfl) eM Ent.rfl)
 refine Z6 ?_
 exact Tm ((x17,x18,x19,x20,x21,x22,x23,v3)) (ij H)
 clear H;intro i hi;obtain⟨x1,x2,x3,x4,x5,x6,x7,v1⟩:=i;subst o1;have H:=Hr1;clear Hr1;try dsimp only at H
 try dsimp only
 refine aD 4 rfl (fun hc_v1=>?_)
 refine Z1 ?_
 refine Yy (rX rfl (aK.cons hh (aK.cons hh aK.nil))) ?_
 refine aDE (vs:=[ptr b2,ptr b3]) trivial rfl rfl (has rfl) ?_
 refine Z6 ?_
 refine aY ?_
 refine aR ?_
 refine eR (x:=(⟨(⟨x1,x2,x3,x4⟩:CodeProg),x5,x6,x7⟩:aP)) ?_
 revert H;refine bs fun y6 h7 H=>?_
 rcases y6 with y6 | pv1 <;> dsimp only at H
 refine Tc (aCn _ _ _ _ _ _ _ h7).s ?_
 refine fP (fun v5=>?_)
 refine aD 1 rfl (fun hc_v5=>?_)
 refine Z6 ?_
 refine bI ?_
 refine cF (φs':=[fEq v5]) trivial rfl rfl (has rfl) (has rfl) (aG hc_v5) (sz rfl) rfl rfl ?_
 refine bI ?_
 refine cF (φs':=[fI 0]) trivial rfl rfl (has rfl) (has rfl) (aG trivial) (sz rfl) rfl rfl ?_
 refine Z2 ?_
 refine bI ?_
 refine kF (φ:=fSl cH y6.acts) (v:=v5) [97] jL fz ?_
 refine aT ?_
 refine aR ?_
 refine oY (φs':=[fSl cH y6.acts]) (i:=0) rfl rfl ?_
 refine bI ?_
 refine aR ?_
 refine oY (φs':=[fI y6.CodeProg.Free,fSl aF y6.CodeProg.Defs,fSl aJ y6.CodeProg.Code,fI y6.CodeProg.Main,fI y6.chans,fI y6.spots,fSl cH y6.acts]) (i:=6) rfl rfl ?_
 refine jS ?_
 cases H
 refine aE [1,2] (by decide) ?_
 exact aBL (fX (vs:=[ptr b2,ptr b3]) (u:= .returning) (by simp) (cb rfl) (aGs _ _ _ _) rfl (dX rfl rfl rfl (sc rfl) (sc rfl) Ent.rfl Ent.rfl))
 refine Tp (aCn _ _ _ _ _ _ _ h7).pan ?_
 refine Z1 ?_
 have H0:=H;clear H;obtain⟨e2,h8,H⟩:=bind_some H0;clear H0;have hv_e2:=unN_some h8;subst hv_e2
 cases H
 refine aE [1,0] (by decide) ?_
 exact iB (fX (vs:=[ptr b2,ptr b3]) (u:= .panicking [{ v:= .iface 29 (.int .i64 e2),recovered:=false }]) (by simp) (cb rfl) (aGG _ _ _ _ e2) rfl (dX rfl rfl rfl (sc rfl) (sc rfl) eM Ent.rfl))
def sV (a0:List Int) (a1:Int):Nat → Int → Option ((Unit) ⊕ (Bool))
| 0,_=>none
| k+1,x2=>
 if x2<(a0.length:Int)then
  (idx a0 x2).bind fun y1=>
  if y1=a1 then
   (some true).bind fun r=>some (Sum.inr r)
  else
   (chk (x2+1)).bind fun z1=>
   sV a0 a1 k z1
 else
  some (Sum.inl ())
def wQ (fuel:Nat) (a0:List Int) (a1:Int):Option (Bool):=
 (sV a0 a1 fuel 0).bind fun o=>match o with
 | Sum.inr r=>some r
 | Sum.inl _=>
 some false
open Go.SX Go.SW Go.Dt
def vL (a0:ScopeDef):Nat → Int → Option ((Unit) ⊕ (Bool))
| 0,_=>none
| k+1,x2=>
 if x2<(a0.Chans.length:Int)then
  (idx a0.Chans x2).bind fun y2=>
  if y2.At<0 then
   (some false).bind fun r=>some (Sum.inr r)
  else
   (idx a0.Chans x2).bind fun y3=>
   if (a0.Spots.length:Int)<y3.At then
    (some false).bind fun r=>some (Sum.inr r)
   else
    (idx a0.Chans x2).bind fun y4=>
    if y4.Many<0 then
     (some false).bind fun r=>some (Sum.inr r)
    else
     (idx a0.Chans x2).bind fun y5=>
     if 3<y5.Many then
      (some false).bind fun r=>some (Sum.inr r)
     else
      (chk (x2+1)).bind fun z1=>
      vL a0 k z1
 else
  some (Sum.inl ())
def vB (a0:ScopeDef):Nat → Int → Option ((Unit) ⊕ (Bool))
| 0,_=>none
| k+1,x4=>
 if x4<(a0.Spots.length:Int)then
  (idx a0.Spots x4).bind fun y6=>
  if y6.In<0 then
   (some false).bind fun r=>some (Sum.inr r)
  else
   (idx a0.Spots x4).bind fun y7=>
   if x4<y7.In then
    (some false).bind fun r=>some (Sum.inr r)
   else
    (chk (x4+1)).bind fun z2=>
    vB a0 k z2
 else
  some (Sum.inl ())
def vQ (fuel:Nat) (a0:ScopeDef) (y8:ScopeRule):Nat → (List Bool) → Int → Option ((List Bool) ⊕ ((List Bool) ⊕ (Bool)))
| 0,_,_=>none
| k+1,x13,x14=>
 if x14<(y8.Joins.length:Int)then
  (idx y8.Joins x14).bind fun y9=>
  if y9<0 then
   ((some false).bind fun r=>some (Sum.inr r)).bind fun r=>some (Sum.inr r)
  else
   if (a0.Chans.length:Int) ≤ y9 then
    ((some false).bind fun r=>some (Sum.inr r)).bind fun r=>some (Sum.inr r)
   else
    (slc y8.Joins 0 x14).bind fun y10=>
    (wQ fuel y10 y9).bind fun y11=>
    bif y11 then
     ((some false).bind fun r=>some (Sum.inr r)).bind fun r=>some (Sum.inr r)
    else
     (idx a0.Chans y9).bind fun y12=>
     if y12.At≠y8.At then
      ((some false).bind fun r=>some (Sum.inr r)).bind fun r=>some (Sum.inr r)
     else
      (idx x13 y9).bind fun y13=>
      (chk (x14+1)).bind fun z3=>
      vQ fuel a0 y8 k (x13.set y9.toNat true) z3
 else
  some (Sum.inl x13)
def tY (fuel:Nat) (a0:ScopeDef):Nat → (List Bool) → Int → Option ((List Bool) ⊕ (Bool))
| 0,_,_=>none
| k+1,x8,x9=>
 if x9<(a0.Rules.length:Int)then
  ((idx a0.Rules x9).bind fun y8=>
  if y8.At<0 then
   ((some false).bind fun r=>some (Sum.inr r)).bind fun r=>some (Sum.inr r)
  else
   if (a0.Spots.length:Int)<y8.At then
    ((some false).bind fun r=>some (Sum.inr r)).bind fun r=>some (Sum.inr r)
   else
    if (y8.Joins.length:Int)<1 then
     ((some false).bind fun r=>some (Sum.inr r)).bind fun r=>some (Sum.inr r)
    else
     if 3<(y8.Joins.length:Int)then
      ((some false).bind fun r=>some (Sum.inr r)).bind fun r=>some (Sum.inr r)
     else
      vQ fuel a0 y8 fuel x8 0).bind fun o=>match o with
  | Sum.inr r=>some r
  | Sum.inl x10=>
  (chk (x9+1)).bind fun z4=>
  tY fuel a0 k x10 z4
 else
  some (Sum.inl x8)
def rK (x5:List Bool):Nat → Int → Option ((Unit) ⊕ (Bool))
| 0,_=>none
| k+1,x16=>
 if x16<(x5.length:Int)then
  (idx x5 x16).bind fun y14=>
  bif y14 then
   (chk (x16+1)).bind fun z5=>
   rK x5 k z5
  else
   (some false).bind fun r=>some (Sum.inr r)
 else
  some (Sum.inl ())
def aAr (fuel:Nat) (a0:ScopeDef):Option (Bool):=
 if 30<(a0.Chans.length:Int)then
  some false
 else
  if 30<(a0.Spots.length:Int)then
   some false
  else
   if 30<(a0.Rules.length:Int)then
    some false
   else
    (mk false (a0.Chans.length:Int)).bind fun y1=>
    (vL a0 fuel 0).bind fun o=>match o with
    | Sum.inr r=>some r
    | Sum.inl _=>
    (vB a0 fuel 0).bind fun o=>match o with
    | Sum.inr r=>some r
    | Sum.inl _=>
    (tY fuel a0 fuel y1 0).bind fun o=>match o with
    | Sum.inr r=>some r
    | Sum.inl x5=>
    (rK x5 fuel 0).bind fun o=>match o with
    | Sum.inr r=>some r
    | Sum.inl _=>
    some true
open Go.SX Go.SW Go.Dt
def aA2 (a0:Int):Option (Int):=
 (if a0=1 then
  some (decide (a0=1))
 else
  if a0=2 then
   some (decide (a0=2))
  else
   if a0=9 then
    some (decide (a0=9))
   else
    if a0=10 then
     some (decide (a0=10))
    else
     if a0=11 then
      some (decide (a0=11))
     else
      some (decide (a0=12))).bind fun x1=>
 bif x1 then
  some 1
 else
  (if a0=8 then
   some (decide (a0=8))
  else
   if a0=13 then
    some (decide (a0=13))
   else
    some (decide (a0=15))).bind fun x2=>
  bif x2 then
   some 2
  else
   (if a0=3 then
    some (decide (a0=3))
   else
    if a0=4 then
     some (decide (a0=4))
    else
     if a0=5 then
      some (decide (a0=5))
     else
      if a0=6 then
       some (decide (a0=6))
      else
       if a0=7 then
        some (decide (a0=7))
       else
        if a0=14 then
         some (decide (a0=14))
        else
         some (decide (a0=16))).bind fun x3=>
   bif x3 then
    some 0
   else
    some (-1)
def yB (a0:CodeProg) (y1:CodeIns):Nat → Int → Option ((Unit) ⊕ ((Unit) ⊕ (Bool)))
| 0,_=>none
| k+1,x5=>
 if x5<y1.A then
  (idx a0.Code x5).bind fun y3=>
  if y3.Op=16 then
   ((some false).bind fun r=>some (Sum.inr r)).bind fun r=>some (Sum.inr r)
  else
   (chk (x5+1)).bind fun z1=>
   yB a0 y1 k z1
 else
  some (Sum.inl ())
def zH (fuel:Nat) (a0:CodeProg) (a1:Int):Option (Bool):=
 (idx a0.Code a1).bind fun y1=>
 (aA2 y1.Op).bind fun y2=>
 (if y2<0 then
  (some false).bind fun r=>some (Sum.inr r)
 else
  if y2<1 then
   if y1.A≠0 then
    (some false).bind fun r=>some (Sum.inr r)
   else
    if y2<2 then
     if y1.B≠0 then
      (some false).bind fun r=>some (Sum.inr r)
     else
      some (Sum.inl ())
    else
     some (Sum.inl ())
  else
   if y2<2 then
    if y1.B≠0 then
     (some false).bind fun r=>some (Sum.inr r)
    else
     some (Sum.inl ())
   else
    some (Sum.inl ())).bind fun o=>match o with
 | Sum.inr r=>some r
 | Sum.inl _=>
 (if y1.Op=1 then
  (if (-1000000000) ≤ y1.A then
   some (decide (y1.A ≤ 1000000000))
  else
   some false).bind fun x1=>
  (some x1).bind fun r=>some (Sum.inr r)
 else
  if y1.Op=8 then
   (if 0 ≤ y1.A then
    if 0 ≤ y1.B then
     some (decide (y1.B ≤ 3))
    else
     some false
   else
    some false).bind fun x2=>
   (some x2).bind fun r=>some (Sum.inr r)
  else
   (if y1.Op=9 then
    some (decide (y1.Op=9))
   else
    some (decide (y1.Op=10))).bind fun x3=>
   bif x3 then
    if y1.A ≤ a1 then
     (some false).bind fun r=>some (Sum.inr r)
    else
     if (a0.Code.length:Int) ≤ y1.A then
      (some false).bind fun r=>some (Sum.inr r)
     else
      (yB a0 y1 fuel a1).bind fun o=>match o with
      | Sum.inr r=>some r
      | Sum.inl _=>
      (some true).bind fun r=>some (Sum.inr r)
   else
    if y1.Op=11 then
     (if 0 ≤ y1.A then
      some (decide (y1.A<(a0.Defs.length:Int)))
     else
      some false).bind fun x6=>
     (some x6).bind fun r=>some (Sum.inr r)
    else
     some (Sum.inl ())).bind fun o=>match o with
 | Sum.inr r=>some r
 | Sum.inl _=>
 (if 0 ≤ y1.A then
  some (decide (0 ≤ y1.B))
 else
  some false).bind fun x7=>
 some x7
def qE (a0:Int):Option (Bool):=
 (if a0=13 then
  some true
 else
  some (decide (a0=15))).bind fun x1=>
 some x1
open Go.SX Go.SW Go.Dt
def tP (a0:CodeProg) (x5:Int):Nat → (List Int) → Int → Option (List Int)
| 0,_,_=>none
| k+1,x10,x11=>
 (idx a0.Defs x5).bind fun y1=>
 if x11<(y1.Rules.length:Int)then
  (idx a0.Defs x5).bind fun y2=>
  (idx y2.Rules x11).bind fun y3=>
  (cN (x10++[y3.Node])).bind fun z1=>
  (chk (x11+1)).bind fun z2=>
  tP a0 x5 k z1 z2
 else
  some x10
def uH (a0:CodeProg) (x5:Int):Nat → (List Int) → Int → Option (List Int)
| 0,_,_=>none
| k+1,x14,x15=>
 (idx a0.Defs x5).bind fun y4=>
 if x15<(y4.Spots.length:Int)then
  (idx a0.Defs x5).bind fun y5=>
  (idx y5.Spots x15).bind fun y6=>
  (cN (x14++[y6.Node])).bind fun z3=>
  (chk (x15+1)).bind fun z4=>
  uH a0 x5 k z3 z4
 else
  some x14
def uY (fuel:Nat) (a0:CodeProg):Nat → (List Int) → Int → Option (List Int)
| 0,_,_=>none
| k+1,x4,x5=>
 if x5<(a0.Defs.length:Int)then
  ((tP a0 x5 fuel x4 0).bind fun x7=>
  uH a0 x5 fuel x7 0).bind fun x6=>
  (chk (x5+1)).bind fun z5=>
  uY fuel a0 k x6 z5
 else
  some x4
def tF (a0:CodeProg):Nat → (List Int) → Int → Option (List Int)
| 0,_,_=>none
| k+1,x19,x20=>
 if x20<(a0.Code.length:Int)then
  ((idx a0.Code x20).bind fun y7=>
  (qE y7.Op).bind fun y8=>
  bif y8 then
   (idx a0.Code x20).bind fun y9=>
   (cN (x19++[y9.B])).bind fun z6=>
   some z6
  else
   some x19).bind fun x21=>
  (chk (x20+1)).bind fun z7=>
  tF a0 k x21 z7
 else
  some x19
def wX (fuel:Nat) (a0:CodeProg):Option (List Int):=
 (uY fuel a0 fuel [a0.Main] 0).bind fun x1=>
 (tF a0 fuel x1 0).bind fun x16=>
 some x16
def pL (a0:CodeProg) (y1:List Int):Nat → (List Bool) → Int → Option ((Unit) ⊕ (Bool))
| 0,_,_=>none
| k+1,x3,x4=>
 if x4<(y1.length:Int)then
  (idx y1 x4).bind fun y3=>
  (if y3<0 then
   ((some false).bind fun r=>some (Sum.inr r)).bind fun r=>some (Sum.inr r)
  else
   if (a0.Code.length:Int) ≤ y3 then
    ((some false).bind fun r=>some (Sum.inr r)).bind fun r=>some (Sum.inr r)
   else
    (idx x3 y3).bind fun y4=>
    bif y4 then
     ((some false).bind fun r=>some (Sum.inr r)).bind fun r=>some (Sum.inr r)
    else
     if 0<y3 then
      (chk (y3 - 1)).bind fun z1=>
      (idx a0.Code z1).bind fun y5=>
      if y5.Op≠16 then
       ((some false).bind fun r=>some (Sum.inr r)).bind fun r=>some (Sum.inr r)
      else
       some (Sum.inl ())
     else
      some (Sum.inl ())).bind fun o=>match o with
  | Sum.inr r=>some r
  | Sum.inl _=>
  (idx x3 y3).bind fun y6=>
  (chk (x4+1)).bind fun z2=>
  pL a0 y1 k (x3.set y3.toNat true) z2
 else
  some (Sum.inl ())
def tU (a0:CodeProg):Nat → Int → Int → Option (Int)
| 0,_,_=>none
| k+1,x8,x9=>
 if x9<(a0.Code.length:Int)then
  ((idx a0.Code x9).bind fun y7=>
  if y7.Op=16 then
   (chk (x8+1)).bind fun z3=>
   some z3
  else
   some x8).bind fun x10=>
  (chk (x9+1)).bind fun z4=>
  tU a0 k x10 z4
 else
  some x8
def aAJ (fuel:Nat) (a0:CodeProg):Option (Bool):=
 (wX fuel (⟨a0.Free,a0.Defs,a0.Code,a0.Main⟩:CodeProg)).bind fun y1=>
 (mk false (a0.Code.length:Int)).bind fun y2=>
 (pL a0 y1 fuel y2 0).bind fun o=>match o with
 | Sum.inr r=>some r
 | Sum.inl _=>
 (tU a0 fuel 0 0).bind fun x5=>
 (if x5=(y1.length:Int)then
  (chk ((a0.Code.length:Int) - 1)).bind fun z5=>
  (idx a0.Code z5).bind fun y8=>
  some (decide (y8.Op=16))
 else
  some false).bind fun x11=>
 some x11
def nT (a0:CodeProg):Nat → (List Bool) → Int → Int → Option ((List Bool × Int) ⊕ (Bool))
| 0,_,_,_=>none
| k+1,x6,x7,x8=>
 if x8<(a0.Code.length:Int)then
  ((idx a0.Code x8).bind fun y2=>
  if y2.Op=11 then
   (idx a0.Code x8).bind fun y3=>
   (idx x6 y3.A).bind fun y4=>
   bif y4 then
    ((some false).bind fun r=>some (Sum.inr r)).bind fun r=>some (Sum.inr r)
   else
    (idx a0.Code x8).bind fun y5=>
    (idx x6 y5.A).bind fun y6=>
    (chk (x7+1)).bind fun z1=>
    some (Sum.inl (x6.set y5.A.toNat true,z1))
  else
   some (Sum.inl (x6,x7))).bind fun o=>match o with
  | Sum.inr r=>some r
  | Sum.inl (x9,x10)=>
  (chk (x8+1)).bind fun z2=>
  nT a0 k x9 x10 z2
 else
  some (Sum.inl (x6,x7))
def aAo (fuel:Nat) (a0:CodeProg):Option (Bool):=
 (mk false (a0.Defs.length:Int)).bind fun y1=>
 (nT a0 fuel y1 0 0).bind fun o=>match o with
 | Sum.inr r=>some r
 | Sum.inl (x1,x2)=>
 some (decide (x2=(x1.length:Int)))
open Go.SX Go.SW Go.Dt
def uP (fuel:Nat) (a0:CodeProg):Nat → Int → Option ((Unit) ⊕ (Bool))
| 0,_=>none
| k+1,x2=>
 if x2<(a0.Defs.length:Int)then
  (idx a0.Defs x2).bind fun y1=>
  (aAr fuel y1).bind fun y2=>
  bif y2 then
   (chk (x2+1)).bind fun z1=>
   uP fuel a0 k z1
  else
   (some false).bind fun r=>some (Sum.inr r)
 else
  some (Sum.inl ())
def rS (fuel:Nat) (a0:CodeProg):Nat → Int → Option ((Unit) ⊕ (Bool))
| 0,_=>none
| k+1,x4=>
 if x4<(a0.Code.length:Int)then
  (zH fuel (⟨a0.Free,a0.Defs,a0.Code,a0.Main⟩:CodeProg) x4).bind fun y3=>
  bif y3 then
   (chk (x4+1)).bind fun z2=>
   rS fuel a0 k z2
  else
   (some false).bind fun r=>some (Sum.inr r)
 else
  some (Sum.inl ())
def aAk (fuel:Nat) (a0:CodeProg):Option (Bool):=
 if a0.Free<0 then
  some false
 else
  if 12<a0.Free then
   some false
  else
   if 12<(a0.Defs.length:Int)then
    some false
   else
    if (a0.Code.length:Int)<1 then
     some false
    else
     if 12000<(a0.Code.length:Int)then
      some false
     else
      (uP fuel a0 fuel 0).bind fun o=>match o with
      | Sum.inr r=>some r
      | Sum.inl _=>
      (rS fuel a0 fuel 0).bind fun o=>match o with
      | Sum.inr r=>some r
      | Sum.inl _=>
      ((aAJ fuel (⟨a0.Free,a0.Defs,a0.Code,a0.Main⟩:CodeProg)).bind fun y4=>
      bif y4 then
       (aAo fuel (⟨a0.Free,a0.Defs,a0.Code,a0.Main⟩:CodeProg)).bind fun y5=>
       some y5
      else
       some false).bind fun x5=>
      some x5
def fF (a0:Ref09_flow) (a1:Int) (a2:Int) (a3:Int):Option (Ref09_flow):=
 (idx a0.levels a1).bind fun y1=>
 if y1.Stack<0 then
  (idx a0.levels a1).bind fun y2=>
  (cN (a0.wait++[a1])).bind fun z1=>
  some (⟨a0.levels.set a1.toNat (⟨a2,a3⟩:CodeLevel),z1,a0.wrong⟩:Ref09_flow)
 else
  bif a0.wrong then
   some (⟨a0.levels,a0.wait,true⟩:Ref09_flow)
  else
   (idx a0.levels a1).bind fun y3=>
   some (⟨a0.levels,a0.wait,!(decide (y3.Stack=a2) && decide (y3.Slots=a3))⟩:Ref09_flow)
def zA (a0:Int):Option (Bool):=
 (if 3 ≤ a0 then
  some (decide (a0 ≤ 7))
 else
  some false).bind fun x1=>
 some x1
def rI (a1:ScopeDef) (z2:Int):Nat → Int → (List CodeLevel) → (List Int) → Bool → Option (List CodeLevel × List Int × Bool)
| 0,_,_,_,_=>none
| k+1,x8,x9,x10,x11=>
 if x8<(a1.Spots.length:Int)then
  (idx a1.Spots x8).bind fun y1=>
  (fF (⟨x9,x10,x11⟩:Ref09_flow) y1.Node 0 z2).bind fun y2=>
  (chk (x8+1)).bind fun z3=>
  rI a1 z2 k z3 y2.levels y2.wait y2.wrong
 else
  some (x9,x10,x11)
def uF (a1:ScopeDef) (x16:Int):Nat → Int → Int → Option (Int)
| 0,_,_=>none
| k+1,x26,x27=>
 (idx a1.Rules x16).bind fun y3=>
 if x27<(y3.Joins.length:Int)then
  (idx a1.Rules x16).bind fun y4=>
  (idx y4.Joins x27).bind fun y5=>
  (idx a1.Chans y5).bind fun y6=>
  (chk (x26+y6.Many)).bind fun z4=>
  (chk (x27+1)).bind fun z5=>
  uF a1 x16 k z4 z5
 else
  some x26
def uV (fuel:Nat) (a1:ScopeDef) (z2:Int):Nat → Int → (List CodeLevel) → (List Int) → Bool → Option (Ref09_flow)
| 0,_,_,_,_=>none
| k+1,x16,x17,x18,x19=>
 if x16<(a1.Rules.length:Int)then
  ((uF a1 x16 fuel z2 0).bind fun x23=>
  (idx a1.Rules x16).bind fun y7=>
  (fF (⟨x17,x18,x19⟩:Ref09_flow) y7.Node 0 x23).bind fun y8=>
  some (y8.levels,y8.wait,y8.wrong)).bind fun (x20,x21,x22)=>
  (chk (x16+1)).bind fun z6=>
  uV fuel a1 z2 k z6 x20 x21 x22
 else
  some (⟨x17,x18,x19⟩:Ref09_flow)
def aAI (fuel:Nat) (a0:Ref09_flow) (a1:ScopeDef) (a2:Int):Option (Ref09_flow):=
 (chk (a2+(a1.Chans.length:Int))).bind fun z1=>
 (chk (z1+(a1.Spots.length:Int))).bind fun z2=>
 (rI a1 z2 fuel 0 a0.levels a0.wait a0.wrong).bind fun (x1,x2,x3)=>
 uV fuel a1 z2 fuel 0 x1 x2 x3
open Go.SX Go.SW Go.Dt
def pS (fuel:Nat) (a0:Ref09_flow) (a1:CodeProg) (a2:Int):Option (Ref09_flow):=
 (idx a0.levels a2).bind fun y1=>
 (idx a0.levels a2).bind fun y2=>
 (idx a1.Code a2).bind fun y3=>
 ((zA y3.Op).bind fun y4=>
 bif y4 then
  some 2
 else
  if y3.Op=9 then
   some 1
  else
   if y3.Op=8 then
    some y3.B
   else
    some 0).bind fun x1=>
 ((qE y3.Op).bind fun y5=>
 bif y5 then
  some true
 else
  if y3.Op=14 then
   some true
  else
   if y3.Op=11 then
    some true
   else
    some (decide (y3.Op=16))).bind fun x2=>
 ((qE y3.Op).bind fun y6=>
 bif y6 then
  some true
 else
  if y3.Op=2 then
   some true
  else
   some (decide (y3.Op=8))).bind fun x3=>
 (if y1.Stack<x1 then
  (some (⟨a0.levels,a0.wait,true⟩:Ref09_flow)).bind fun r=>some (Sum.inr r)
 else
  bif x2 then
   if 0<y1.Stack then
    (some (⟨a0.levels,a0.wait,true⟩:Ref09_flow)).bind fun r=>some (Sum.inr r)
   else
    bif x3 then
     if y2.Slots ≤ y3.A then
      (some (⟨a0.levels,a0.wait,true⟩:Ref09_flow)).bind fun r=>some (Sum.inr r)
     else
      if y3.Op=12 then
       if y2.Slots<y3.A then
        (some (⟨a0.levels,a0.wait,true⟩:Ref09_flow)).bind fun r=>some (Sum.inr r)
       else
        some (Sum.inl ())
      else
       some (Sum.inl ())
    else
     if y3.Op=12 then
      if y2.Slots<y3.A then
       (some (⟨a0.levels,a0.wait,true⟩:Ref09_flow)).bind fun r=>some (Sum.inr r)
      else
       some (Sum.inl ())
     else
      some (Sum.inl ())
  else
   bif x3 then
    if y2.Slots ≤ y3.A then
     (some (⟨a0.levels,a0.wait,true⟩:Ref09_flow)).bind fun r=>some (Sum.inr r)
    else
     if y3.Op=12 then
      if y2.Slots<y3.A then
       (some (⟨a0.levels,a0.wait,true⟩:Ref09_flow)).bind fun r=>some (Sum.inr r)
      else
       some (Sum.inl ())
     else
      some (Sum.inl ())
   else
    if y3.Op=12 then
     if y2.Slots<y3.A then
      (some (⟨a0.levels,a0.wait,true⟩:Ref09_flow)).bind fun r=>some (Sum.inr r)
     else
      some (Sum.inl ())
    else
     some (Sum.inl ())).bind fun o=>match o with
 | Sum.inr r=>some r
 | Sum.inl _=>
 (if y3.Op=1 then
  some (decide (y3.Op=1))
 else
  some (decide (y3.Op=2))).bind fun x4=>
 bif x4 then
  (chk (a2+1)).bind fun z1=>
  (chk (y1.Stack+1)).bind fun z2=>
  (fF (⟨a0.levels,a0.wait,a0.wrong⟩:Ref09_flow) z1 z2 y2.Slots).bind fun y7=>
  some (⟨y7.levels,y7.wait,y7.wrong⟩:Ref09_flow)
 else
  if y3.Op=8 then
   (chk (a2+1)).bind fun z3=>
   (chk (y1.Stack - y3.B)).bind fun z4=>
   (fF (⟨a0.levels,a0.wait,a0.wrong⟩:Ref09_flow) z3 z4 y2.Slots).bind fun y8=>
   some (⟨y8.levels,y8.wait,y8.wrong⟩:Ref09_flow)
  else
   if y3.Op=9 then
    (chk (a2+1)).bind fun z5=>
    (chk (y1.Stack - 1)).bind fun z6=>
    (fF (⟨a0.levels,a0.wait,a0.wrong⟩:Ref09_flow) z5 z6 y2.Slots).bind fun y9=>
    (chk (y1.Stack - 1)).bind fun z7=>
    (fF (⟨y9.levels,y9.wait,y9.wrong⟩:Ref09_flow) y3.A z7 y2.Slots).bind fun y10=>
    some (⟨y10.levels,y10.wait,y10.wrong⟩:Ref09_flow)
   else
    if y3.Op=10 then
     (fF (⟨a0.levels,a0.wait,a0.wrong⟩:Ref09_flow) y3.A y1.Stack y2.Slots).bind fun y11=>
     some (⟨y11.levels,y11.wait,y11.wrong⟩:Ref09_flow)
    else
     if y3.Op=11 then
      (idx a1.Defs y3.A).bind fun y12=>
      (aAI fuel (⟨a0.levels,a0.wait,a0.wrong⟩:Ref09_flow) y12 y2.Slots).bind fun y13=>
      (chk (a2+1)).bind fun z8=>
      (idx a1.Defs y3.A).bind fun y14=>
      (chk (y2.Slots+(y14.Chans.length:Int))).bind fun z9=>
      (idx a1.Defs y3.A).bind fun y15=>
      (chk (z9+(y15.Spots.length:Int))).bind fun z10=>
      (fF (⟨y13.levels,y13.wait,y13.wrong⟩:Ref09_flow) z8 y1.Stack z10).bind fun y16=>
      some (⟨y16.levels,y16.wait,y16.wrong⟩:Ref09_flow)
     else
      if y3.Op=12 then
       (chk (a2+1)).bind fun z11=>
       (fF (⟨a0.levels,a0.wait,a0.wrong⟩:Ref09_flow) z11 y1.Stack y3.A).bind fun y17=>
       some (⟨y17.levels,y17.wait,y17.wrong⟩:Ref09_flow)
      else
       (if y3.Op=13 then
        some (decide (y3.Op=13))
       else
        some (decide (y3.Op=15))).bind fun x5=>
       bif x5 then
        (fF (⟨a0.levels,a0.wait,a0.wrong⟩:Ref09_flow) y3.B 0 y2.Slots).bind fun y18=>
        (chk (a2+1)).bind fun z12=>
        (fF (⟨y18.levels,y18.wait,y18.wrong⟩:Ref09_flow) z12 y1.Stack y2.Slots).bind fun y19=>
        some (⟨y19.levels,y19.wait,y19.wrong⟩:Ref09_flow)
       else
        if y3.Op=14 then
         (chk (a2+1)).bind fun z13=>
         (fF (⟨a0.levels,a0.wait,a0.wrong⟩:Ref09_flow) z13 y1.Stack y2.Slots).bind fun y20=>
         some (⟨y20.levels,y20.wait,y20.wrong⟩:Ref09_flow)
        else
         if y3.Op=16 then
          some (⟨a0.levels,a0.wait,a0.wrong⟩:Ref09_flow)
         else
          (chk (a2+1)).bind fun z14=>
          (chk (y1.Stack - 1)).bind fun z15=>
          (fF (⟨a0.levels,a0.wait,a0.wrong⟩:Ref09_flow) z14 z15 y2.Slots).bind fun y21=>
          some (⟨y21.levels,y21.wait,y21.wrong⟩:Ref09_flow)
open Go.SX Go.SW Go.Dt
def vG (a0:CodeProg):Nat → Int → (List CodeLevel) → Option (List CodeLevel)
| 0,_,_=>none
| k+1,x4,x5=>
 if x4<(a0.Code.length:Int)then
  (cN (x5++[(⟨(-1),(-1)⟩:CodeLevel)])).bind fun z1=>
  (chk (x4+1)).bind fun z2=>
  vG a0 k z2 z1
 else
  some x5
def jJ (fuel:Nat) (a0:CodeProg):Nat → (List CodeLevel) → (List Int) → Bool → Option (List CodeLevel × List Int × Bool)
| 0,_,_,_=>none
| k+1,x12,x13,x14=>
 if 0<(x13.length:Int)then
  bif x14 then
   some (x12,x13,x14)
  else
   (chk ((x13.length:Int) - 1)).bind fun z3=>
   (idx x13 z3).bind fun y3=>
   (chk ((x13.length:Int) - 1)).bind fun z4=>
   (slc x13 0 z4).bind fun y4=>
   (pS fuel (⟨x12,y4,x14⟩:Ref09_flow) (⟨a0.Free,a0.Defs,a0.Code,a0.Main⟩:CodeProg) y3).bind fun y5=>
   jJ fuel a0 k y5.levels y5.wait y5.wrong
 else
  some (x12,x13,x14)
def qC (x6:List CodeLevel):Nat → Int → Bool → Option (Bool)
| 0,_,_=>none
| k+1,x18,x19=>
 if x18<(x6.length:Int)then
  (bif x19 then
   some true
  else
   (idx x6 x18).bind fun y6=>
   some (decide (y6.Stack<0))).bind fun x20=>
  (chk (x18+1)).bind fun z5=>
  qC x6 k z5 x20
 else
  some x19
def qR (fuel:Nat) (a0:CodeProg):Option ((List CodeLevel) × Int):=
 (aAk fuel (⟨a0.Free,a0.Defs,a0.Code,a0.Main⟩:CodeProg)).bind fun y1=>
 bif y1 then
  (vG a0 fuel 0 []).bind fun x1=>
  (fF (⟨x1,[],false⟩:Ref09_flow) a0.Main 0 a0.Free).bind fun y2=>
  (jJ fuel a0 fuel y2.levels y2.wait y2.wrong).bind fun (x6,x7,x8)=>
  (qC x6 fuel 0 x8).bind fun x15=>
  bif x15 then
   some ([],2)
  else
   some (x6,0)
 else
  some ([],2)
def aA8 (a0:CodeProg) (a1:SolVal) (a2:Ref09_Doing):Option (Bool):=
 if a1.Kind=1 then
  (if (-1000000000) ≤ a1.N then
   some (decide (a1.N ≤ 1000000000))
  else
   some false).bind fun x1=>
  some x1
 else
  if a1.Kind=2 then
   (if 0 ≤ a1.N then
    some (decide (a1.N<a0.Free))
   else
    some false).bind fun x2=>
   some x2
  else
   if a1.Kind=3 then
    (if 0 ≤ a1.N then
     some (decide (a1.N<a2.Chans))
    else
     some false).bind fun x3=>
    some x3
   else
    if a1.Kind=4 then
     (if 0 ≤ a1.N then
      some (decide (a1.N<a2.Spots))
     else
      some false).bind fun x4=>
     some x4
    else
     some false
def mD (a0:cA) (a1:Int) (a2:Int) (a3:Int) (a4:List SolVal):Option (cA):=
 (cN ([]++a4)).bind fun z1=>
 (cN (a0.acts++[(⟨a1,a2,a3,z1⟩:CodeAct)])).bind fun z2=>
 some (⟨(⟨a0.c.Free,a0.c.Defs,a0.c.Code,a0.c.Main⟩:CodeProg),a0.chans,a0.spots,z2,a0.long⟩:cA)
def tN (a0:SolVal):Option (Int):=
 if a0.Kind=1 then
  some a0.N
 else
  some 0
def aAR (a0:Int) (a1:SolVal) (a2:SolVal):Option (SolVal):=
 (tN (⟨a1.Kind,a1.N⟩:SolVal)).bind fun y1=>
 (tN (⟨a2.Kind,a2.N⟩:SolVal)).bind fun y2=>
 (if a0=3 then
  (chk (y1+y2)).bind fun z1=>
  some z1
 else
  if a0=4 then
   (chk (y1 - y2)).bind fun z2=>
   some z2
  else
   if a0=5 then
    (chk (y1*y2)).bind fun z3=>
    some z3
   else
    if a0=6 then
     if y1<y2 then
      some 1
     else
      some 0
    else
     if a0=7 then
      if y1=y2 then
       some 1
      else
       some 0
     else
      some 0).bind fun x1=>
 some (⟨1,max (-1000000000) (min 1000000000 x1)⟩:SolVal)
open Go.SX Go.SW Go.Dt
def gL (rec_r09_doer_define:cA → Int → Int → (List SolVal) → Option (cA × List SolVal)) (a2:Int):Nat → Int → (List SolVal) → (List SolVal) → Int → (List ScopeDef) → (List CodeIns) → Int → Int → Int → (List CodeAct) → Bool → Option (cA)
| 0,_,_,_,_,_,_,_,_,_,_,_=>none
| k+1,x12,x13,x14,x15,x16,x17,x18,x19,x20,x21,x22=>
 bif !x22 then
  (idx x17 x12).bind fun y1=>
  if y1.Op≠16 then
   (idx x17 x12).bind fun y2=>
   (chk (x12+1)).bind fun z2=>
   if y2.Op=1 then
    (cN (x14++[(⟨1,y2.A⟩:SolVal)])).bind fun z3=>
    gL rec_r09_doer_define a2 k z2 x13 z3 x15 x16 x17 x18 x19 x20 x21 x22
   else
    if y2.Op=2 then
     (idx x13 y2.A).bind fun y3=>
     (cN (x14++[y3])).bind fun z4=>
     gL rec_r09_doer_define a2 k z2 x13 z4 x15 x16 x17 x18 x19 x20 x21 x22
    else
     if y2.Op=8 then
      ((idx x13 y2.A).bind fun y4=>
      if y4.Kind=2 then
       (idx x13 y2.A).bind fun y5=>
       (chk ((x14.length:Int) - y2.B)).bind fun z5=>
       (slc x14 z5 (x14.length:Int)).bind fun y6=>
       (mD (⟨(⟨x15,x16,x17,x18⟩:CodeProg),x19,x20,x21,x22⟩:cA) 1 a2 y5.N y6).bind fun y7=>
       some (y7.c.Free,y7.c.Defs,y7.c.Code,y7.c.Main,y7.chans,y7.spots,y7.acts,y7.long)
      else
       some (x15,x16,x17,x18,x19,x20,x21,x22)).bind fun (x23,x24,x25,x26,x27,x28,x29,x30)=>
      ((idx x13 y2.A).bind fun y8=>
      if y8.Kind=3 then
       (idx x13 y2.A).bind fun y9=>
       (chk ((x14.length:Int) - y2.B)).bind fun z6=>
       (slc x14 z6 (x14.length:Int)).bind fun y10=>
       (mD (⟨(⟨x23,x24,x25,x26⟩:CodeProg),x27,x28,x29,x30⟩:cA) 2 a2 y9.N y10).bind fun y11=>
       some (y11.c.Free,y11.c.Defs,y11.c.Code,y11.c.Main,y11.chans,y11.spots,y11.acts,y11.long)
      else
       some (x23,x24,x25,x26,x27,x28,x29,x30)).bind fun (x31,x32,x33,x34,x35,x36,x37,x38)=>
      (chk ((x14.length:Int) - y2.B)).bind fun z7=>
      (slc x14 0 z7).bind fun y12=>
      gL rec_r09_doer_define a2 k z2 x13 y12 x31 x32 x33 x34 x35 x36 x37 x38
     else
      if y2.Op=9 then
       ((chk ((x14.length:Int) - 1)).bind fun z8=>
       (idx x14 z8).bind fun y13=>
       (tN y13).bind fun y14=>
       if y14=0 then
        some y2.A
       else
        some z2).bind fun x39=>
       (chk ((x14.length:Int) - 1)).bind fun z9=>
       (slc x14 0 z9).bind fun y15=>
       gL rec_r09_doer_define a2 k x39 x13 y15 x15 x16 x17 x18 x19 x20 x21 x22
      else
       if y2.Op=10 then
        gL rec_r09_doer_define a2 k y2.A x13 x14 x15 x16 x17 x18 x19 x20 x21 x22
       else
        if y2.Op=11 then
         (rec_r09_doer_define (⟨(⟨x15,x16,x17,x18⟩:CodeProg),x19,x20,x21,x22⟩:cA) y2.A a2 x13).bind fun y16=>
         gL rec_r09_doer_define a2 k z2 y16.2 x14 y16.1.c.Free y16.1.c.Defs y16.1.c.Code y16.1.c.Main y16.1.chans y16.1.spots y16.1.acts y16.1.long
        else
         if y2.Op=12 then
          (slc x13 0 y2.A).bind fun y17=>
          gL rec_r09_doer_define a2 k z2 y17 x14 x15 x16 x17 x18 x19 x20 x21 x22
         else
          (if y2.Op=13 then
           some (decide (y2.Op=13))
          else
           if y2.Op=14 then
            some (decide (y2.Op=14))
           else
            some (decide (y2.Op=15))).bind fun x40=>
          bif x40 then
           (chk (z2 - 1)).bind fun z10=>
           (mD (⟨(⟨x15,x16,x17,x18⟩:CodeProg),x19,x20,x21,x22⟩:cA) 4 a2 z10 x13).bind fun y18=>
           gL rec_r09_doer_define a2 k z2 x13 x14 y18.c.Free y18.c.Defs y18.c.Code y18.c.Main y18.chans y18.spots y18.acts y18.long
          else
           (chk ((x14.length:Int) - 2)).bind fun z11=>
           (idx x14 z11).bind fun y19=>
           (chk ((x14.length:Int) - 1)).bind fun z12=>
           (idx x14 z12).bind fun y20=>
           (aAR y2.Op y19 y20).bind fun y21=>
           (chk ((x14.length:Int) - 2)).bind fun z13=>
           (slc x14 0 z13).bind fun y22=>
           (cN (y22++[(⟨y21.Kind,y21.N⟩:SolVal)])).bind fun z14=>
           gL rec_r09_doer_define a2 k z2 x13 z14 x15 x16 x17 x18 x19 x20 x21 x22
  else
   some (⟨(⟨x15,x16,x17,x18⟩:CodeProg),x19,x20,x21,x22⟩:cA)
 else
  some (⟨(⟨x15,x16,x17,x18⟩:CodeProg),x19,x20,x21,x22⟩:cA)
def rB (a0:cA) (y1:ScopeDef):Nat → (List SolVal) → Int → Option (List SolVal)
| 0,_,_=>none
| k+1,x4,x5=>
 if x5<(y1.Chans.length:Int)then
  (chk (a0.chans+x5)).bind fun z2=>
  (cN (x4++[(⟨3,z2⟩:SolVal)])).bind fun z3=>
  (chk (x5+1)).bind fun z4=>
  rB a0 y1 k z3 z4
 else
  some x4
def sO (a0:cA) (y1:ScopeDef):Nat → (List SolVal) → Int → Option (List SolVal)
| 0,_,_=>none
| k+1,x9,x10=>
 if x10<(y1.Spots.length:Int)then
  (chk (a0.spots+x10)).bind fun z5=>
  (cN (x9++[(⟨4,z5⟩:SolVal)])).bind fun z6=>
  (chk (x10+1)).bind fun z7=>
  sO a0 y1 k z6 z7
 else
  some x9
def iQ (rec_r09_doer_run:cA → Int → Int → (List SolVal) → Option (cA)) (a0:cA) (y1:ScopeDef) (x6:List SolVal):Nat → Int → Int → (List ScopeDef) → (List CodeIns) → Int → Int → Int → (List CodeAct) → Bool → Option (Int × List ScopeDef × List CodeIns × Int × Int × Int × List CodeAct × Bool)
| 0,_,_,_,_,_,_,_,_,_=>none
| k+1,x29,x30,x31,x32,x33,x34,x35,x36,x37=>
 if x29<(y1.Spots.length:Int)then
  bif x37 then
   some (x30,x31,x32,x33,x34,x35,x36,x37)
  else
   (idx y1.Spots x29).bind fun y3=>
   (chk (a0.spots+x29)).bind fun z10=>
   (rec_r09_doer_run (⟨(⟨x30,x31,x32,x33⟩:CodeProg),x34,x35,x36,x37⟩:cA) y3.Node z10 x6).bind fun y4=>
   (chk (x29+1)).bind fun z11=>
   iQ rec_r09_doer_run a0 y1 x6 k z11 y4.c.Free y4.c.Defs y4.c.Code y4.c.Main y4.chans y4.spots y4.acts y4.long
 else
  some (x30,x31,x32,x33,x34,x35,x36,x37)
mutual
def gX:Nat → cA → Int → Int → (List SolVal) → Option (cA)
| 0,_,_,_,_=>none
| fuel+1,a0,a1,a2,a3=>
 (cN ([]++a3)).bind fun z1=>
 gL (xG fuel) a2 fuel a1 z1 [] a0.c.Free a0.c.Defs a0.c.Code a0.c.Main a0.chans a0.spots a0.acts a0.long
def xG:Nat → cA → Int → Int → (List SolVal) → Option (cA × List SolVal)
| 0,_,_,_,_=>none
| fuel+1,a0,a1,a2,a3=>
 (idx a0.c.Defs a1).bind fun y1=>
 (cN ([]++a3)).bind fun z1=>
 (rB a0 y1 fuel z1 0).bind fun x1=>
 (sO a0 y1 fuel x1 0).bind fun x6=>
 (chk (a0.chans+(y1.Chans.length:Int))).bind fun z8=>
 (chk (a0.spots+(y1.Spots.length:Int))).bind fun z9=>
 (bif a0.long then
  some true
 else
  if 60<z8 then
   some true
  else
   some (decide (24<z9))).bind fun x11=>
 (mD (⟨(⟨a0.c.Free,a0.c.Defs,a0.c.Code,a0.c.Main⟩:CodeProg),z8,z9,a0.acts,x11⟩:cA) 3 a2 a1 x6).bind fun y2=>
 (iQ (gX fuel) a0 y1 x6 fuel 0 y2.c.Free y2.c.Defs y2.c.Code y2.c.Main y2.chans y2.spots y2.acts y2.long).bind fun (x12,x13,x14,x15,x16,x17,x18,x19)=>
 some ((⟨(⟨x12,x13,x14,x15⟩:CodeProg),x16,x17,x18,x19⟩:cA),x6)
end
open Go.SX Go.SW Go.Dt
def pW (a0:CodeProg) (a1:Ref09_Doing):Nat → Int → Option ((Unit) ⊕ ((List CodeAct) × Int))
| 0,_=>none
| k+1,x2=>
 if x2<(a1.Env.length:Int)then
  (idx a1.Env x2).bind fun y5=>
  (aA8 (⟨a0.Free,a0.Defs,a0.Code,a0.Main⟩:CodeProg) y5 (⟨a1.Start,a1.Here,a1.Env,a1.Chans,a1.Spots⟩:Ref09_Doing)).bind fun y6=>
  bif y6 then
   (chk (x2+1)).bind fun z1=>
   pW a0 a1 k z1
  else
   (some ([],2)).bind fun r=>some (Sum.inr r)
 else
  some (Sum.inl ())
def nU (fuel:Nat) (a0:CodeProg) (a1:Ref09_Doing):Option ((List CodeAct) × Int):=
 (qR fuel (⟨a0.Free,a0.Defs,a0.Code,a0.Main⟩:CodeProg)).bind fun y1=>
 if y1.2≠0 then
  some ([],y1.2)
 else
  (wX fuel (⟨a0.Free,a0.Defs,a0.Code,a0.Main⟩:CodeProg)).bind fun y2=>
  (wQ fuel y2 a1.Start).bind fun y3=>
  bif !y3 then
   some ([],2)
  else
   (idx y1.1 a1.Start).bind fun y4=>
   if (a1.Env.length:Int)≠y4.Slots then
    some ([],2)
   else
    if a1.Chans<0 then
     some ([],2)
    else
     if 60<a1.Chans then
      some ([],2)
     else
      if a1.Spots<1 then
       some ([],2)
      else
       if 24<a1.Spots then
        some ([],2)
       else
        if a1.Here<0 then
         some ([],2)
        else
         if a1.Spots ≤ a1.Here then
          some ([],2)
         else
          (pW a0 a1 fuel 0).bind fun o=>match o with
          | Sum.inr r=>some r
          | Sum.inl _=>
          (gX fuel (⟨(⟨a0.Free,a0.Defs,a0.Code,a0.Main⟩:CodeProg),a1.Chans,a1.Spots,[],false⟩:cA) a1.Start a1.Here a1.Env).bind fun y7=>
          bif y7.long then
           some ([],3)
          else
           some (y7.acts,0)
end Go.Proofs.YtjahnkcjbglnoaaGreatDoor
