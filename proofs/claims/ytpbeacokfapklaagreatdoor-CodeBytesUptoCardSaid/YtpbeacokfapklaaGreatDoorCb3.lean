/- Parts of the proof: lemmas, and the steps through the program. -/
import Derived.Test.YtpbeacokfapklaaGreatDoorCb2
import Derived.Test.YtpbeacokfapklaaGreatDoorProg
import Derived.Shelf.Sort.Plain
import Derived.Shelf.Slices.CompactI
import Derived.Shelf.Slices.In.SortNone
set_option linter.unusedVariables false
set_option linter.unusedSimpArgs false
set_option maxRecDepth 100000
set_option maxHeartbeats 2000000
namespace Go.Proofs.YtpbeacokfapklaaGreatDoor
open Go.SX Go.SW Go.Dt
attribute [local irreducible] Code.wpIn wpListIn Exit.then Exit.inBlock
def uU (a0:AR) (a1:AL):Option (AR × Bool):=
 (if (-1000000000)<=a1.A then
  some (decide (a1.A<=1000000000))
 else
  some false).bind fun x1=>
 some ((⟨(⟨a0.AB.AH,a0.AB.AD,a0.AB.Code,a0.AB.AG⟩:AB),a0.AU,a0.last,a0.AK,a0.AT⟩:AR),x1)
theorem aIn (p0:Nat) (a0:AR) (a1:AL) (r:AR × Bool) (H:uU a0 a1=some r):FnS Tryz.prog 64 [fEq (.pointer (some ⟨p0,0,none⟩)),fSt aF a1] [dC p0 a0] (aL r.2) (fun _=>[dC p0 r.1]):=by
 unfold uU at H
 refine bY Tryz.func64 rfl Tryz.ntmps64 rfl (fun β=>?_)
 refine dG (fun v1 v2 v3=>?_)
 refine aQ ?_
 refine dF (fun b1 h1=>?_);subst h1
 refine rc 2 fun _=>?_
 refine rc 3 fun _=>?_
 refine Z1 ?_
 refine Tn (cG rfl hh bW) fun b2=>?_
 revert H;refine B2z fun o1 H Hr1=>?_
 refine aO (fun i=>o1=i) (fun i=>[(0,fEq (ptr p0)),(4,aL i)]) (fun i=>[aA b2 54 [fI a1.Op,fI a1.A,fI a1.B],aA p0 150 [fI a0.AB.AH,fSl aE a0.AB.AD,fSl aF a0.AB.Code,fI a0.AB.AG,fSl tI a0.AU,fEq v1,fEq (.map (some b1)),fEq v3],bK bG (fun y=>fSt aZ y) b1 a0.AK,aB v1 3 tI a0.last,aB v3 3 tI a0.AT]) ?_ ?_
 revert H;refine I5z (fun c1 H=>?_) fun c1 H=>?_
 refine Z6 ?_
 refine aC [0,2,1,3,4] (by decide) ?_
 exact Tm (decide (a1.A<=1000000000)) (ij H)
 refine Z6 ?_
 refine aC [0,2,1,3,4] (by decide) ?_
 exact Tm (false) (ij H)
 rintro x1 hi;subst o1;replace H:=Hr1;clear Hr1;try dsimp only at H ⊢
 refine Z1 ?_
 refine aQ ?_
 refine cX ?_
 refine aR ?_
 refine aP ?_
 refine aR ?_
 refine aR ?_
 refine cW ?_
 cases H
 refine aC [0] (by decide) ?_
 exact To
def wY (a0:AR) (a1:AL):Option (AR × Bool):=
 some ((⟨(⟨a0.AB.AH,a0.AB.AD,a0.AB.Code,a0.AB.AG⟩:AB),a0.AU,a0.last,a0.AK,a0.AT⟩:AR),decide (0<=a1.A))
theorem aGC (p0:Nat) (a0:AR) (a1:AL) (r:AR × Bool) (H:wY a0 a1=some r):FnS Tryz.prog 65 [fEq (.pointer (some ⟨p0,0,none⟩)),fSt aF a1] [dC p0 a0] (aL r.2) (fun _=>[dC p0 r.1]):=by
 unfold wY at H
 refine bY Tryz.func65 rfl Tryz.ntmps65 rfl (fun β=>?_)
 refine dG (fun v1 v2 v3=>?_)
 refine aQ ?_
 refine dF (fun b1 h1=>?_);subst h1
 refine rc 2 fun _=>?_
 refine rc 3 fun _=>?_
 refine Z1 ?_
 refine Tn (cG rfl hh bW) fun b2=>?_
 refine Z9 ?_
 refine aP ?_
 refine cX ?_
 refine aR ?_
 refine aP ?_
 refine aR ?_
 refine aR ?_
 refine cW ?_
 cases H
 refine aC [0] (by decide) ?_
 exact To
def uL (a0:AR) (a1:AL):Option (AR × Bool):=
 some ((⟨(⟨a0.AB.AH,a0.AB.AD,a0.AB.Code,a0.AB.AG⟩:AB),a0.AU,a0.last,a0.AK,a0.AT⟩:AR),true)
theorem aHj (p0:Nat) (a0:AR) (a1:AL) (r:AR × Bool) (H:uL a0 a1=some r):FnS Tryz.prog 66 [fEq (.pointer (some ⟨p0,0,none⟩)),fSt aF a1] [dC p0 a0] (aL r.2) (fun _=>[dC p0 r.1]):=by
 unfold uL at H
 refine bY Tryz.func66 rfl Tryz.ntmps66 rfl (fun β=>?_)
 refine dG (fun v1 v2 v3=>?_)
 refine aQ ?_
 refine dF (fun b1 h1=>?_);subst h1
 refine rc 2 fun _=>?_
 refine rc 3 fun _=>?_
 refine Z1 ?_
 refine Tn (cG rfl hh bW) fun b2=>?_
 refine Z6 ?_
 refine aP ?_
 refine cX ?_
 refine aR ?_
 refine aP ?_
 refine aR ?_
 refine aR ?_
 refine cW ?_
 cases H
 refine aC [0] (by decide) ?_
 exact To
def vA (a0:AR) (a1:AL):Option (AR × Bool):=
 (if 0<=a1.A then
  if 0<=a1.B then
   some (decide (a1.B<=3))
  else
   some false
 else
  some false).bind fun x1=>
 some ((⟨(⟨a0.AB.AH,a0.AB.AD,a0.AB.Code,a0.AB.AG⟩:AB),a0.AU,a0.last,a0.AK,a0.AT⟩:AR),x1)
theorem aHQ (p0:Nat) (a0:AR) (a1:AL) (r:AR × Bool) (H:vA a0 a1=some r):FnS Tryz.prog 67 [fEq (.pointer (some ⟨p0,0,none⟩)),fSt aF a1] [dC p0 a0] (aL r.2) (fun _=>[dC p0 r.1]):=by
 unfold vA at H
 refine bY Tryz.func67 rfl Tryz.ntmps67 rfl (fun β=>?_)
 refine dG (fun v1 v2 v3=>?_)
 refine aQ ?_
 refine dF (fun b1 h1=>?_);subst h1
 refine rc 2 fun _=>?_
 refine rc 3 fun _=>?_
 refine Z1 ?_
 refine Tn (cG rfl hh bW) fun b2=>?_
 revert H;refine B2z fun o1 H Hr1=>?_
 refine aO (fun i=>o1=i) (fun i=>[(0,fEq (ptr p0)),(4,aL i)]) (fun i=>[aA b2 54 [fI a1.Op,fI a1.A,fI a1.B],aA p0 150 [fI a0.AB.AH,fSl aE a0.AB.AD,fSl aF a0.AB.Code,fI a0.AB.AG,fSl tI a0.AU,fEq v1,fEq (.map (some b1)),fEq v3],bK bG (fun y=>fSt aZ y) b1 a0.AK,aB v1 3 tI a0.last,aB v3 3 tI a0.AT]) ?_ ?_
 revert H;refine I5z (fun c1 H=>?_) fun c1 H=>?_
 revert H;refine I5z (fun c2 H=>?_) fun c2 H=>?_
 refine Z6 ?_
 refine aC [0,2,1,3,4] (by decide) ?_
 exact Tm (decide (a1.B<=3)) (ij H)
 refine Z6 ?_
 refine aC [0,2,1,3,4] (by decide) ?_
 exact Tm (false) (ij H)
 refine Z11 ?_
 refine aC [0,2,1,3,4] (by decide) ?_
 exact Tm (false) (ij H)
 rintro x1 hi;subst o1;replace H:=Hr1;clear Hr1;try dsimp only at H ⊢
 refine Z1 ?_
 refine aQ ?_
 refine cX ?_
 refine aR ?_
 refine aP ?_
 refine aR ?_
 refine aR ?_
 refine cW ?_
 cases H
 refine aC [0] (by decide) ?_
 exact To
def yN (a0:AR) (a1:AL):Option (AR × Bool):=
 (if 0<=a1.A then
  some (decide (a1.A<(a0.AB.AD.length:Int)))
 else
  some false).bind fun x1=>
 some ((⟨(⟨a0.AB.AH,a0.AB.AD,a0.AB.Code,a0.AB.AG⟩:AB),a0.AU,a0.last,a0.AK,a0.AT⟩:AR),x1)
theorem aGE (p0:Nat) (a0:AR) (a1:AL) (r:AR × Bool) (H:yN a0 a1=some r):FnS Tryz.prog 68 [fEq (.pointer (some ⟨p0,0,none⟩)),fSt aF a1] [dC p0 a0] (aL r.2) (fun _=>[dC p0 r.1]):=by
 unfold yN at H
 refine bY Tryz.func68 rfl Tryz.ntmps68 rfl (fun β=>?_)
 refine dG (fun v1 v2 v3=>?_)
 refine aQ ?_
 refine dF (fun b1 h1=>?_);subst h1
 refine rc 2 fun _=>?_
 refine rc 3 fun _=>?_
 refine Z1 ?_
 refine Tn (cG rfl hh bW) fun b2=>?_
 revert H;refine B2z fun o1 H Hr1=>?_
 refine aO (fun i=>o1=i) (fun i=>[(0,fEq (ptr p0)),(4,aL i)]) (fun i=>[aA b2 54 [fI a1.Op,fI a1.A,fI a1.B],aA p0 150 [fI a0.AB.AH,fSl aE a0.AB.AD,fSl aF a0.AB.Code,fI a0.AB.AG,fSl tI a0.AU,fEq v1,fEq (.map (some b1)),fEq v3],bK bG (fun y=>fSt aZ y) b1 a0.AK,aB v1 3 tI a0.last,aB v3 3 tI a0.AT]) ?_ ?_
 revert H;refine is (fun c1 H=>?_) fun c1 H=>?_
 apply bQ (ods:=[_,_,_,_,_,_,_,_,_,_,_,_,_,_,_]) 15 0 5 bM rfl rfl rfl
 refine ND ?_
 refine M8 ?_
 intros
 refine M7 ?_
 intros
 refine Z2 ?_
 refine aC [0,2,1,3,4] (by decide) ?_
 exact Tm (decide (a1.A<(a0.AB.AD.length:Int))) (ij H)
 exact fk
 kernel_rfl
 apply bQ (ods:=[_,_,_,_,_,_,_,_,_,_,_,_,_,_,_]) 15 0 5 bM rfl rfl rfl
 refine ND ?_
 refine M8 ?_
 intros
 refine M7 ?_
 intros
 refine Z2 ?_
 refine aC [0,2,1,3,4] (by decide) ?_
 exact Tm (false) (ij H)
 exact fk
 kernel_rfl
 rintro x1 hi;subst o1;replace H:=Hr1;clear Hr1;try dsimp only at H ⊢
 refine Z1 ?_
 refine aQ ?_
 refine cX ?_
 refine aR ?_
 refine aP ?_
 refine aR ?_
 refine aR ?_
 refine cW ?_
 cases H
 refine aC [0] (by decide) ?_
 exact To
def xL (a0:AR) (a1:AL):Option (AR × Bool):=
 (if 0<=a1.A then
  (kN (⟨(⟨a0.AB.AH,a0.AB.AD,a0.AB.Code,a0.AB.AG⟩:AB),a0.AU,a0.last,a0.AK,a0.AT⟩:AR) a1.B).bind fun y1=>
  some (y1.2,y1.1.AB.AH,y1.1.AB.AD,y1.1.AB.Code,y1.1.AB.AG,y1.1.AU,y1.1.last,y1.1.AK,y1.1.AT)
 else
  some (false,a0.AB.AH,a0.AB.AD,a0.AB.Code,a0.AB.AG,a0.AU,a0.last,a0.AK,a0.AT)).bind fun (x1,x2,x3,x4,x5,x6,x7,x8,x9)=>
 some ((⟨(⟨x2,x3,x4,x5⟩:AB),x6,x7,x8,x9⟩:AR),x1)
theorem aHA (p0:Nat) (a0:AR) (a1:AL) (r:AR × Bool) (H:xL a0 a1=some r):FnS Tryz.prog 69 [fEq (.pointer (some ⟨p0,0,none⟩)),fSt aF a1] [dC p0 a0] (aL r.2) (fun _=>[dC p0 r.1]):=by
 unfold xL at H
 refine bY Tryz.func69 rfl Tryz.ntmps69 rfl (fun β=>?_)
 refine dG (fun v1 v2 v3=>?_)
 refine aQ ?_
 refine dF (fun b1 h1=>?_);subst h1
 refine rc 2 fun _=>?_
 refine rc 3 fun _=>?_
 refine Z1 ?_
 refine Tn (cG rfl hh bW) fun b2=>?_
 revert H;refine B2z fun o1 H Hr1=>?_
 refine aO (ι:=Bool × Int × List AO × List AL × Int × List Int × List Int × aI Int AJ × List Int × Value × Nat × Value) (fun i=>o1=(i.1,i.2.1,i.2.2.1,i.2.2.2.1,i.2.2.2.2.1,i.2.2.2.2.2.1,i.2.2.2.2.2.2.1,i.2.2.2.2.2.2.2.1,i.2.2.2.2.2.2.2.2.1)) (fun i=>[(0,fEq (ptr p0)),(4,aL i.1)]) (fun i=>[aA p0 150 [fI i.2.1,fSl aE i.2.2.1,fSl aF i.2.2.2.1,fI i.2.2.2.2.1,fSl tI i.2.2.2.2.2.1,fEq i.2.2.2.2.2.2.2.2.2.1,fEq (.map (some i.2.2.2.2.2.2.2.2.2.2.1)),fEq i.2.2.2.2.2.2.2.2.2.2.2],aA b2 54 [fI a1.Op,fI a1.A,fI a1.B],bK bG (fun y=>fSt aZ y) i.2.2.2.2.2.2.2.2.2.2.1 i.2.2.2.2.2.2.2.1,aB i.2.2.2.2.2.2.2.2.2.1 3 tI i.2.2.2.2.2.2.1,aB i.2.2.2.2.2.2.2.2.2.2.2 3 tI i.2.2.2.2.2.2.2.2.1]) ?_ ?_
 revert H;refine I5z (fun c1 H=>?_) fun c1 H=>?_
 refine Z3 ?_
 refine aP ?_
 refine cX ?_
 refine aR ?_
 refine aP ?_
 refine aR ?_
 refine aR ?_
 refine cW ?_
 revert H;refine bs fun y1 h2 H=>?_
 refine Tc (vE _ _ _ _ h2) ?_
 refine dG (fun v6 v7 v8=>?_)
 refine aQ ?_
 refine dF (fun b4 h3=>?_);subst h3
 refine rc 2 fun _=>?_
 refine rc 3 fun _=>?_
 refine Z3 ?_
 refine aC [1,4,0,2,3] (by decide) ?_
 exact Tm ((y1.2,y1.1.AB.AH,y1.1.AB.AD,y1.1.AB.Code,y1.1.AB.AG,y1.1.AU,y1.1.last,y1.1.AK,y1.1.AT,v6,b4,v8)) (ij H)
 refine Z7 ?_
 refine aC [2,0,1,3,4] (by decide) ?_
 exact Tm ((false,a0.AB.AH,a0.AB.AD,a0.AB.Code,a0.AB.AG,a0.AU,a0.last,a0.AK,a0.AT,v1,b1,v3)) (ij H)
 rintro⟨x1,x2,x3,x4,x5,x6,x7,x8,x9,v4,b3,v5⟩ hi;subst o1;replace H:=Hr1;clear Hr1;try dsimp only at H ⊢
 refine rc 3 fun _=>?_
 refine rc 4 fun _=>?_
 refine Z1 ?_
 refine aQ ?_
 refine cX ?_
 refine aR ?_
 refine aP ?_
 refine aR ?_
 refine bD ?_
 refine cW ?_
 cases H
 refine aC [0] (by decide) ?_
 exact To
def yI (a0:AR) (a1:AL):Option (AR × Bool):=
 (if 0<=a1.A then
  (kN (⟨(⟨a0.AB.AH,a0.AB.AD,a0.AB.Code,a0.AB.AG⟩:AB),a0.AU,a0.last,a0.AK,a0.AT⟩:AR) a1.B).bind fun y1=>
  some (y1.2,y1.1.AB.AH,y1.1.AB.AD,y1.1.AB.Code,y1.1.AB.AG,y1.1.AU,y1.1.last,y1.1.AK,y1.1.AT)
 else
  some (false,a0.AB.AH,a0.AB.AD,a0.AB.Code,a0.AB.AG,a0.AU,a0.last,a0.AK,a0.AT)).bind fun (x1,x2,x3,x4,x5,x6,x7,x8,x9)=>
 some ((⟨(⟨x2,x3,x4,x5⟩:AB),x6,x7,x8,x9⟩:AR),x1)
theorem aIq (p0:Nat) (a0:AR) (a1:AL) (r:AR × Bool) (H:yI a0 a1=some r):FnS Tryz.prog 71 [fEq (.pointer (some ⟨p0,0,none⟩)),fSt aF a1] [dC p0 a0] (aL r.2) (fun _=>[dC p0 r.1]):=by
 unfold yI at H
 refine bY Tryz.func71 rfl Tryz.ntmps71 rfl (fun β=>?_)
 refine dG (fun v1 v2 v3=>?_)
 refine aQ ?_
 refine dF (fun b1 h1=>?_);subst h1
 refine rc 2 fun _=>?_
 refine rc 3 fun _=>?_
 refine Z1 ?_
 refine Tn (cG rfl hh bW) fun b2=>?_
 revert H;refine B2z fun o1 H Hr1=>?_
 refine aO (ι:=Bool × Int × List AO × List AL × Int × List Int × List Int × aI Int AJ × List Int × Value × Nat × Value) (fun i=>o1=(i.1,i.2.1,i.2.2.1,i.2.2.2.1,i.2.2.2.2.1,i.2.2.2.2.2.1,i.2.2.2.2.2.2.1,i.2.2.2.2.2.2.2.1,i.2.2.2.2.2.2.2.2.1)) (fun i=>[(0,fEq (ptr p0)),(4,aL i.1)]) (fun i=>[aA p0 150 [fI i.2.1,fSl aE i.2.2.1,fSl aF i.2.2.2.1,fI i.2.2.2.2.1,fSl tI i.2.2.2.2.2.1,fEq i.2.2.2.2.2.2.2.2.2.1,fEq (.map (some i.2.2.2.2.2.2.2.2.2.2.1)),fEq i.2.2.2.2.2.2.2.2.2.2.2],aA b2 54 [fI a1.Op,fI a1.A,fI a1.B],bK bG (fun y=>fSt aZ y) i.2.2.2.2.2.2.2.2.2.2.1 i.2.2.2.2.2.2.2.1,aB i.2.2.2.2.2.2.2.2.2.1 3 tI i.2.2.2.2.2.2.1,aB i.2.2.2.2.2.2.2.2.2.2.2 3 tI i.2.2.2.2.2.2.2.2.1]) ?_ ?_
 revert H;refine I5z (fun c1 H=>?_) fun c1 H=>?_
 refine Z3 ?_
 refine aP ?_
 refine cX ?_
 refine aR ?_
 refine aP ?_
 refine aR ?_
 refine aR ?_
 refine cW ?_
 revert H;refine bs fun y1 h2 H=>?_
 refine Tc (vE _ _ _ _ h2) ?_
 refine dG (fun v6 v7 v8=>?_)
 refine aQ ?_
 refine dF (fun b4 h3=>?_);subst h3
 refine rc 2 fun _=>?_
 refine rc 3 fun _=>?_
 refine Z3 ?_
 refine aC [1,4,0,2,3] (by decide) ?_
 exact Tm ((y1.2,y1.1.AB.AH,y1.1.AB.AD,y1.1.AB.Code,y1.1.AB.AG,y1.1.AU,y1.1.last,y1.1.AK,y1.1.AT,v6,b4,v8)) (ij H)
 refine Z7 ?_
 refine aC [2,0,1,3,4] (by decide) ?_
 exact Tm ((false,a0.AB.AH,a0.AB.AD,a0.AB.Code,a0.AB.AG,a0.AU,a0.last,a0.AK,a0.AT,v1,b1,v3)) (ij H)
 rintro⟨x1,x2,x3,x4,x5,x6,x7,x8,x9,v4,b3,v5⟩ hi;subst o1;replace H:=Hr1;clear Hr1;try dsimp only at H ⊢
 refine rc 3 fun _=>?_
 refine rc 4 fun _=>?_
 refine Z1 ?_
 refine aQ ?_
 refine cX ?_
 refine aR ?_
 refine aP ?_
 refine aR ?_
 refine bD ?_
 refine cW ?_
 cases H
 refine aC [0] (by decide) ?_
 exact To
def aA3 (v:Value) (a0:AR) (a1:AL):Option (AR × Bool):=match v with
 | .func (.func 64) ⟨[]⟩ ⟨[]⟩=>uU a0 a1
 | .func (.func 65) ⟨[]⟩ ⟨[]⟩=>wY a0 a1
 | .func (.func 66) ⟨[]⟩ ⟨[]⟩=>uL a0 a1
 | .func (.func 67) ⟨[]⟩ ⟨[]⟩=>vA a0 a1
 | .func (.func 68) ⟨[]⟩ ⟨[]⟩=>yN a0 a1
 | .func (.func 69) ⟨[]⟩ ⟨[]⟩=>xL a0 a1
 | .func (.func 71) ⟨[]⟩ ⟨[]⟩=>yI a0 a1
 | _=>none
theorem aGX (p0:Nat) (v:Value) (a0:AR) (a1:AL) (r:AR × Bool) (H:aA3 v a0 a1=some r):∃ f,v= .func (.func f) #[] #[]/\Af Tryz.prog f/\FnS Tryz.prog f [fEq (.pointer (some ⟨p0,0,none⟩)),fSt aF a1] [dC p0 a0] (aL r.2) (fun _=>[dC p0 r.1]):=by
 unfold aA3 at H
 split at H
 exact⟨_,rfl,(cb rfl),aIn p0 a0 a1 r H⟩
 exact⟨_,rfl,(cb rfl),aGC p0 a0 a1 r H⟩
 exact⟨_,rfl,(cb rfl),aHj p0 a0 a1 r H⟩
 exact⟨_,rfl,(cb rfl),aHQ p0 a0 a1 r H⟩
 exact⟨_,rfl,(cb rfl),aGE p0 a0 a1 r H⟩
 exact⟨_,rfl,(cb rfl),aHA p0 a0 a1 r H⟩
 exact⟨_,rfl,(cb rfl),aIq p0 a0 a1 r H⟩
 cases H
def nP (a0:AR):Nat->Int->Int->(List AO)->(List AL)->Int->(List Int)->(List Int)->(aI Int AJ)->(List Int)->(aI Int Bool)->Option ((Int × List AO × List AL × Int × List Int × List Int × aI Int AJ × List Int × aI Int Bool) ⊕ (AR ⊕ Value))
| 0,_,_,_,_,_,_,_,_,_,_=>none
| k+1,x20,x21,x22,x23,x24,x25,x26,x27,x28,x29=>
 if x20<(a0.AB.Code.length:Int)then
  ((idx a0.AB.Code x20).bind fun y2=>
  (tZ y2.Op).bind fun y3=>
  (bR y3).bind fun y4=>
  match y4 with
  | Sum.inr pv1=>((some (Sum.inr pv1)).bind fun r=>some (Sum.inr r)).bind fun r=>some (Sum.inr r)
  | Sum.inl y4=>
  (idx nH y2.Op).bind fun y5=>
  ((aA3 y5.right (⟨(⟨x21,x22,x23,x24⟩:AB),x25,x26,x27,x28⟩:AR) (⟨y2.Op,y2.A,y2.B⟩:AL)).bind fun y6=>
  bif y6.2 then
   if 0<y5.many then
    if 1<y5.many then
     (bR true).bind fun y7=>
     match y7 with
     | Sum.inr pv2=>(((some (Sum.inr pv2)).bind fun r=>some (Sum.inr r)).bind fun r=>some (Sum.inr r)).bind fun r=>some (Sum.inr r)
     | Sum.inl y7=>
     some (Sum.inl (y6.1.AB.AH,y6.1.AB.AD,y6.1.AB.Code,y6.1.AB.AG,y6.1.AU,y6.1.last,y6.1.AK,y6.1.AT))
    else
     (bR (decide (y2.B=0))).bind fun y8=>
     match y8 with
     | Sum.inr pv3=>(((some (Sum.inr pv3)).bind fun r=>some (Sum.inr r)).bind fun r=>some (Sum.inr r)).bind fun r=>some (Sum.inr r)
     | Sum.inl y8=>
     some (Sum.inl (y6.1.AB.AH,y6.1.AB.AD,y6.1.AB.Code,y6.1.AB.AG,y6.1.AU,y6.1.last,y6.1.AK,y6.1.AT))
   else
    if y2.A=0 then
     if 1<y5.many then
      (bR true).bind fun y9=>
      match y9 with
      | Sum.inr pv4=>(((some (Sum.inr pv4)).bind fun r=>some (Sum.inr r)).bind fun r=>some (Sum.inr r)).bind fun r=>some (Sum.inr r)
      | Sum.inl y9=>
      some (Sum.inl (y6.1.AB.AH,y6.1.AB.AD,y6.1.AB.Code,y6.1.AB.AG,y6.1.AU,y6.1.last,y6.1.AK,y6.1.AT))
     else
      (bR (decide (y2.B=0))).bind fun y10=>
      match y10 with
      | Sum.inr pv5=>(((some (Sum.inr pv5)).bind fun r=>some (Sum.inr r)).bind fun r=>some (Sum.inr r)).bind fun r=>some (Sum.inr r)
      | Sum.inl y10=>
      some (Sum.inl (y6.1.AB.AH,y6.1.AB.AD,y6.1.AB.Code,y6.1.AB.AG,y6.1.AU,y6.1.last,y6.1.AK,y6.1.AT))
    else
     (bR false).bind fun y11=>
     match y11 with
     | Sum.inr pv6=>(((some (Sum.inr pv6)).bind fun r=>some (Sum.inr r)).bind fun r=>some (Sum.inr r)).bind fun r=>some (Sum.inr r)
     | Sum.inl y11=>
     some (Sum.inl (y6.1.AB.AH,y6.1.AB.AD,y6.1.AB.Code,y6.1.AB.AG,y6.1.AU,y6.1.last,y6.1.AK,y6.1.AT))
  else
   (bR false).bind fun y12=>
   match y12 with
   | Sum.inr pv7=>(((some (Sum.inr pv7)).bind fun r=>some (Sum.inr r)).bind fun r=>some (Sum.inr r)).bind fun r=>some (Sum.inr r)
   | Sum.inl y12=>
   some (Sum.inl (y6.1.AB.AH,y6.1.AB.AD,y6.1.AB.Code,y6.1.AB.AG,y6.1.AU,y6.1.last,y6.1.AK,y6.1.AT))).bind fun o=>match o with
  | Sum.inr r=>some r
  | Sum.inl (x39,x40,x41,x42,x43,x44,x45,x46)=>
  (if y2.Op=9 then
   if x20<y2.A then
    (bR (decide (y2.A<(x41.length:Int)))).bind fun y13=>
    match y13 with
    | Sum.inr pv8=>(((some (Sum.inr pv8)).bind fun r=>some (Sum.inr r)).bind fun r=>some (Sum.inr r)).bind fun r=>some (Sum.inr r)
    | Sum.inl y13=>
    some (Sum.inl ())
   else
    (bR false).bind fun y14=>
    match y14 with
    | Sum.inr pv9=>(((some (Sum.inr pv9)).bind fun r=>some (Sum.inr r)).bind fun r=>some (Sum.inr r)).bind fun r=>some (Sum.inr r)
    | Sum.inl y14=>
    some (Sum.inl ())
  else
   if y2.Op=10 then
    if x20<y2.A then
     (bR (decide (y2.A<(x41.length:Int)))).bind fun y15=>
     match y15 with
     | Sum.inr pv10=>(((some (Sum.inr pv10)).bind fun r=>some (Sum.inr r)).bind fun r=>some (Sum.inr r)).bind fun r=>some (Sum.inr r)
     | Sum.inl y15=>
     some (Sum.inl ())
    else
     (bR false).bind fun y16=>
     match y16 with
     | Sum.inr pv11=>(((some (Sum.inr pv11)).bind fun r=>some (Sum.inr r)).bind fun r=>some (Sum.inr r)).bind fun r=>some (Sum.inr r)
     | Sum.inl y16=>
     some (Sum.inl ())
   else
    some (Sum.inl ())).bind fun o=>match o with
  | Sum.inr r=>some r
  | Sum.inl _=>
  if y2.Op=11 then
   (bR (!((x29.get y2.A).getD false))).bind fun y17=>
   match y17 with
   | Sum.inr pv12=>((some (Sum.inr pv12)).bind fun r=>some (Sum.inr r)).bind fun r=>some (Sum.inr r)
   | Sum.inl y17=>
   some (Sum.inl (x39,x40,x41,x42,x43,x44,x45,x46,aI.upd x29 y2.A true))
  else
   some (Sum.inl (x39,x40,x41,x42,x43,x44,x45,x46,x29))).bind fun o=>match o with
  | Sum.inr r=>some r
  | Sum.inl (x30,x31,x32,x33,x34,x35,x36,x37,x38)=>
  (chk (x20+1)).bind fun z1=>
  nP a0 k z1 x30 x31 x32 x33 x34 x35 x36 x37 x38
 else
  some (Sum.inl (x21,x22,x23,x24,x25,x26,x27,x28,x29))
def vQ (AA:Nat) (a0:AR):Option (AR ⊕ Value):=
 (pD).bind fun y1=>
 (nP a0 AA 0 a0.AB.AH a0.AB.AD a0.AB.Code a0.AB.AG a0.AU a0.last a0.AK a0.AT (aI.none:aI Int Bool)).bind fun o=>match o with
 | Sum.inr r=>some r
 | Sum.inl (x1,x2,x3,x4,x5,x6,x7,x8,x9)=>
 (bR (decide ((x9.size:Int)=(x2.length:Int)))).bind fun y18=>
 match y18 with
 | Sum.inr pv13=>some (Sum.inr pv13)
 | Sum.inl y18=>
 some (Sum.inl (⟨(⟨x1,x2,x3,x4⟩:AB),x5,x6,x7,x8⟩:AR))
theorem aFk (AA:Nat) (p0:Nat) (a0:AR) (r:AR ⊕ Value) (H:vQ AA a0=some r):FnE Tryz.prog 95 [fEq (.pointer (some ⟨p0,0,none⟩))] [dC p0 a0] r (fun r=>dI []) (fun r=>[dC p0 r]):=by
 unfold vQ at H
 refine iR Tryz.func95 rfl Tryz.ntmps95 rfl (fun β=>?_)
 refine dG (fun v1 v2 v3=>?_)
 refine aQ ?_
 refine dF (fun b1 h1=>?_);subst h1
 refine rc 2 fun _=>?_
 refine rc 3 fun _=>?_
 refine B1 H fun y1 h2 H=>?_
 refine Tc (aCB _ h2) ?_
 refine Tn (bU rfl aEd rfl) fun b2=>?_
 refine bT (φs':=gI.AY ()) a1I rfl rfl (has rfl) (has rfl) (gI.cell ()) (sz rfl) rfl rfl rfl ?_
 refine cP (φ:=bV gI ()) (v:=ptr b2) [] (yO aG.rfl) (fun _ h=>nomatch h) ?_
 refine iY 2 rfl (fun m u h k=>by cases k;exact h) ?_
 refine cL ?_
 refine Z2 ?_
 refine Tn (aBT (fun y=>aL y) bG rfl) fun b3=>?_
 revert H;refine B2z fun o1 H Hr1=>?_
 refine aO (ι:=Int × List AO × List AL × Int × List Int × List Int × aI Int AJ × List Int × aI Int Bool × Value × Nat × Value) (fun i=>o1=Sum.inl (i.1,i.2.1,i.2.2.1,i.2.2.2.1,i.2.2.2.2.1,i.2.2.2.2.2.1,i.2.2.2.2.2.2.1,i.2.2.2.2.2.2.2.1,i.2.2.2.2.2.2.2.2.1)) (fun i=>[(0,fEq (ptr p0)),(3,fEq (.map (some b3)))]) (fun i=>[aA p0 150 [fI i.1,fSl aE i.2.1,fSl aF i.2.2.1,fI i.2.2.2.1,fSl tI i.2.2.2.2.1,fEq i.2.2.2.2.2.2.2.2.2.1,fEq (.map (some i.2.2.2.2.2.2.2.2.2.2.1)),fEq i.2.2.2.2.2.2.2.2.2.2.2],bK bG (fun y=>fSt aZ y) i.2.2.2.2.2.2.2.2.2.2.1 i.2.2.2.2.2.2.1,bK bG (fun y=>aL y) b3 i.2.2.2.2.2.2.2.2.1,aB i.2.2.2.2.2.2.2.2.2.1 3 tI i.2.2.2.2.2.1,aB i.2.2.2.2.2.2.2.2.2.2.2 3 tI i.2.2.2.2.2.2.2.1]) ?_ ?_
 refine Z10 ?_
 refine aC [2,1,0,3,4] (by decide) ?_
 refine Th (ι:=Int × Int × List AO × List AL × Int × List Int × List Int × aI Int AJ × List Int × aI Int Bool × Value × Nat × Value) (fun i=>nP a0 i.1 i.2.1 i.2.2.1 i.2.2.2.1 i.2.2.2.2.1 i.2.2.2.2.2.1 i.2.2.2.2.2.2.1 i.2.2.2.2.2.2.2.1 i.2.2.2.2.2.2.2.2.1 i.2.2.2.2.2.2.2.2.2.1 i.2.2.2.2.2.2.2.2.2.2.1=_) (fun i=>[(0,fEq (ptr p0)),(2,bV gI ()),(3,fEq (.map (some b3))),(13,fSl aF a0.AB.Code),(14,fI (a0.AB.Code.length:Int)),(15,fI i.2.1)]) (fun i=>[aA p0 150 [fI i.2.2.1,fSl aE i.2.2.2.1,fSl aF i.2.2.2.2.1,fI i.2.2.2.2.2.1,fSl tI i.2.2.2.2.2.2.1,fEq i.2.2.2.2.2.2.2.2.2.2.2.1,fEq (.map (some i.2.2.2.2.2.2.2.2.2.2.2.2.1)),fEq i.2.2.2.2.2.2.2.2.2.2.2.2.2],bK bG (fun y=>fSt aZ y) i.2.2.2.2.2.2.2.2.2.2.2.2.1 i.2.2.2.2.2.2.2.2.1,bK bG (fun y=>aL y) b3 i.2.2.2.2.2.2.2.2.2.2.1,aB i.2.2.2.2.2.2.2.2.2.2.2.1 3 tI i.2.2.2.2.2.2.2.1,aB i.2.2.2.2.2.2.2.2.2.2.2.2.2 3 tI i.2.2.2.2.2.2.2.2.2.1]) (AA,0,a0.AB.AH,a0.AB.AD,a0.AB.Code,a0.AB.AG,a0.AU,a0.last,a0.AK,a0.AT,(aI.none:aI Int Bool),v1,b1,v3) H (fun _ h=>nomatch h) ?_
 clear H;rintro k1 ⟨x20,x21,x22,x23,x24,x25,x26,x27,x28,x29,v8,b6,v9⟩ H;dsimp only at H ⊢;rw [nP]at H
 refine rc 3 fun _=>?_
 refine rc 4 fun _=>?_
 refine Z3 ?_
 refine aK ?_
 revert H;refine is (fun c1 H=>?_) fun c1 H=>?_
 revert H;refine B3z fun o2 H Hr2=>?_
 refine aO (ι:=Int × List AO × List AL × Int × List Int × List Int × aI Int AJ × List Int × aI Int Bool × Value × Nat × Value) (fun i=>o2=Sum.inl (i.1,i.2.1,i.2.2.1,i.2.2.2.1,i.2.2.2.2.1,i.2.2.2.2.2.1,i.2.2.2.2.2.2.1,i.2.2.2.2.2.2.2.1,i.2.2.2.2.2.2.2.2.1)) (fun i=>[(0,fEq (ptr p0)),(2,bV gI ()),(3,fEq (.map (some b3))),(13,fSl aF a0.AB.Code),(14,fI (a0.AB.Code.length:Int)),(15,fI x20)]) (fun i=>[aA p0 150 [fI i.1,fSl aE i.2.1,fSl aF i.2.2.1,fI i.2.2.2.1,fSl tI i.2.2.2.2.1,fEq i.2.2.2.2.2.2.2.2.2.1,fEq (.map (some i.2.2.2.2.2.2.2.2.2.2.1)),fEq i.2.2.2.2.2.2.2.2.2.2.2],bK bG (fun y=>fSt aZ y) i.2.2.2.2.2.2.2.2.2.2.1 i.2.2.2.2.2.2.1,bK bG (fun y=>aL y) b3 i.2.2.2.2.2.2.2.2.1,aB i.2.2.2.2.2.2.2.2.2.1 3 tI i.2.2.2.2.2.1,aB i.2.2.2.2.2.2.2.2.2.2.2 3 tI i.2.2.2.2.2.2.2.1]) ?_ ?_
 revert H;refine B3z fun y2 h3 H=>?_
 refine Z2 ?_
 refine Tn (bU rfl kV rfl) fun b8=>?_
 refine Z1 ?_
 refine bT (φs':=[fI y2.Op,fI y2.A,fI y2.B]) a1I rfl rfl (has rfl) (has rfl) (aH (aD a1I) (aH (aD a1I) (aH (aD a1I) bL))) (sz rfl) rfl rfl rfl ?_
 revert H;refine B4z fun y3 h4 H=>?_
 refine Tc (aE7 _ _ h4) ?_
 revert H;refine bs fun y4 h5 H=>?_
 rcases y4 with y4 | pv1 <;> dsimp only at H
 refine Tc (aW _ _ h5).s ?_
 revert H;refine B4z fun y5 h6 H=>?_
 refine Yy (aEs (A:=gI) (xs:=nH) rfl hh hh rfl aBH h6) ?_
 refine Z1 ?_
 refine Tn (bU rfl ty_ze_87 rfl) fun b9=>?_
 refine bT (φs':=[fStr y5.name,fI y5.many,eC y5.right]) a1I rfl rfl (has rfl) (has rfl) (aH (aD a1I) (aH (aD a1I) (aH (aBv) bL))) (sz rfl) rfl rfl rfl ?_
 revert H;refine B1z fun o3 H Hr3=>?_
 refine aO (ι:=Int × List AO × List AL × Int × List Int × List Int × aI Int AJ × List Int × Value × Nat × Value) (fun i=>o3=Sum.inl (i.1,i.2.1,i.2.2.1,i.2.2.2.1,i.2.2.2.2.1,i.2.2.2.2.2.1,i.2.2.2.2.2.2.1,i.2.2.2.2.2.2.2.1)) (fun i=>[(0,fEq (ptr p0)),(2,bV gI ()),(3,fEq (.map (some b3))),(13,fSl aF a0.AB.Code),(14,fI (a0.AB.Code.length:Int)),(15,fI x20),(5,fEq (ptr b8)),(4,fI x20)]) (fun i=>[aA p0 150 [fI i.1,fSl aE i.2.1,fSl aF i.2.2.1,fI i.2.2.2.1,fSl tI i.2.2.2.2.1,fEq i.2.2.2.2.2.2.2.2.1,fEq (.map (some i.2.2.2.2.2.2.2.2.2.1)),fEq i.2.2.2.2.2.2.2.2.2.2],aA b9 87 [fStr y5.name,fI y5.many,eC y5.right],aA b8 54 [fI y2.Op,fI y2.A,fI y2.B],bK bG (fun y=>fSt aZ y) i.2.2.2.2.2.2.2.2.2.1 i.2.2.2.2.2.2.1,bK bG (fun y=>aL y) b3 x29,aB i.2.2.2.2.2.2.2.2.1 3 tI i.2.2.2.2.2.1,aB i.2.2.2.2.2.2.2.2.2.2 3 tI i.2.2.2.2.2.2.2.1]) ?_ ?_
 refine Z5 ?_
 refine bD ?_
 refine cX ?_
 refine qR ?_
 refine aP ?_
 refine qR ?_
 refine gE ?_
 refine cW ?_
 revert H;refine bs fun y6 h7 H=>?_
 obtain⟨f1,h8,h9,h10⟩:=aGX p0 y5.right (⟨(⟨x21,x22,x23,x24⟩:AB),x25,x26,x27,x28⟩:AR) y2 _ h7
 refine jT 29 rfl (ent_fnOf h8) ?_
 refine T_call a1I rfl rfl rfl (has rfl) (aM.cons (has rfl) (aM.cons (has rfl) aM.nil)) rfl h9 h10 rfl ?_
 refine dG (fun v14 v15 v16=>?_)
 refine aQ ?_
 refine dF (fun b11 h11=>?_);subst h11
 refine rc 2 fun _=>?_
 refine rc 3 fun _=>?_
 refine Z1 ?_
 revert H;refine cs (fun c2 H=>?_) fun c2 H=>?_
 revert H;refine I4z (fun c3 H=>?_) fun c3 H=>?_
 revert H;refine I10z (fun c4 H=>?_) fun c4 H=>?_
 revert H;refine B5z fun y7 h12 H=>?_
 rcases y7 with y7 | pv2 <;> dsimp only at H
 refine Tc (aW _ _ h12).s ?_
 refine Z1 ?_
 refine aC [1,4,5,0,6,2,3] (by decide) ?_
 exact Tm ((y6.1.AB.AH,y6.1.AB.AD,y6.1.AB.Code,y6.1.AB.AG,y6.1.AU,y6.1.last,y6.1.AK,y6.1.AT,v14,b11,v16)) (ij H)
 refine Tp (aW _ _ h12).pan ?_
 revert H;refine B1z fun r1 H e1=>?_
 cases e1;cases Hr3
 revert H;refine B2z fun r2 H e2=>?_
 cases e2;cases Hr2
 revert H;refine B3z fun r3 H e3=>?_
 cases e3;cases Hr1
 cases H
 exact bC
 revert H;refine B5z fun y8 h13 H=>?_
 rcases y8 with y8 | pv3 <;> dsimp only at H
 refine Tc (aW _ _ h13).s ?_
 refine Z1 ?_
 refine aC [1,4,5,0,6,2,3] (by decide) ?_
 exact Tm ((y6.1.AB.AH,y6.1.AB.AD,y6.1.AB.Code,y6.1.AB.AG,y6.1.AU,y6.1.last,y6.1.AK,y6.1.AT,v14,b11,v16)) (ij H)
 refine Tp (aW _ _ h13).pan ?_
 revert H;refine B1z fun r4 H e4=>?_
 cases e4;cases Hr3
 revert H;refine B2z fun r5 H e5=>?_
 cases e5;cases Hr2
 revert H;refine B3z fun r6 H e6=>?_
 cases e6;cases Hr1
 cases H
 exact bC
 revert H;refine I6z (fun c5 H=>?_) fun c5 H=>?_
 revert H;refine I4z (fun c6 H=>?_) fun c6 H=>?_
 revert H;refine B5z fun y9 h14 H=>?_
 rcases y9 with y9 | pv4 <;> dsimp only at H
 refine Tc (aW _ _ h14).s ?_
 refine Z1 ?_
 refine aC [1,4,5,0,6,2,3] (by decide) ?_
 exact Tm ((y6.1.AB.AH,y6.1.AB.AD,y6.1.AB.Code,y6.1.AB.AG,y6.1.AU,y6.1.last,y6.1.AK,y6.1.AT,v14,b11,v16)) (ij H)
 refine Tp (aW _ _ h14).pan ?_
 revert H;refine B1z fun r7 H e7=>?_
 cases e7;cases Hr3
 revert H;refine B2z fun r8 H e8=>?_
 cases e8;cases Hr2
 revert H;refine B3z fun r9 H e9=>?_
 cases e9;cases Hr1
 cases H
 exact bC
 revert H;refine B5z fun y10 h15 H=>?_
 rcases y10 with y10 | pv5 <;> dsimp only at H
 refine Tc (aW _ _ h15).s ?_
 refine Z1 ?_
 refine aC [1,4,5,0,6,2,3] (by decide) ?_
 exact Tm ((y6.1.AB.AH,y6.1.AB.AD,y6.1.AB.Code,y6.1.AB.AG,y6.1.AU,y6.1.last,y6.1.AK,y6.1.AT,v14,b11,v16)) (ij H)
 refine Tp (aW _ _ h15).pan ?_
 revert H;refine B1z fun r10 H e10=>?_
 cases e10;cases Hr3
 revert H;refine B2z fun r11 H e11=>?_
 cases e11;cases Hr2
 revert H;refine B3z fun r12 H e12=>?_
 cases e12;cases Hr1
 cases H
 exact bC
 refine Z4 ?_
 refine bF (⟨_,_,_,_,rfl,rfl,rfl,nu⟩) rfl rfl ?_
 refine bF (⟨_,_,_,_,rfl,rfl,rfl,nu⟩) rfl rfl ?_
 refine bF (⟨_,_,_,_,rfl,rfl,rfl,nu⟩) rfl rfl ?_
 revert H;refine B2z fun y11 h16 H=>?_
 rcases y11 with y11 | pv6 <;> dsimp only at H
 refine Tc (aW _ _ h16).s ?_
 refine Z1 ?_
 refine aC [1,4,5,0,6,2,3] (by decide) ?_
 exact Tm ((y6.1.AB.AH,y6.1.AB.AD,y6.1.AB.Code,y6.1.AB.AG,y6.1.AU,y6.1.last,y6.1.AK,y6.1.AT,v14,b11,v16)) (ij H)
 refine Tp (aW _ _ h16).pan ?_
 revert H;refine B1z fun r13 H e13=>?_
 cases e13;cases Hr3
 revert H;refine B2z fun r14 H e14=>?_
 cases e14;cases Hr2
 revert H;refine B3z fun r15 H e15=>?_
 cases e15;cases Hr1
 cases H
 exact bC
 refine Z4 ?_
 refine bF (⟨_,_,_,_,rfl,rfl,rfl,nu⟩) rfl rfl ?_
 refine bF (⟨_,_,_,_,rfl,rfl,rfl,nu⟩) rfl rfl ?_
 refine bF (⟨_,_,_,_,rfl,rfl,rfl,nu⟩) rfl rfl ?_
 refine Z7 ?_
 refine bF (⟨_,_,_,_,rfl,rfl,rfl,nu⟩) rfl rfl ?_
 refine bF (⟨_,_,_,_,rfl,rfl,rfl,nu⟩) rfl rfl ?_
 refine bF (⟨_,_,_,_,rfl,rfl,rfl,nu⟩) rfl rfl ?_
 revert H;refine B2z fun y12 h17 H=>?_
 rcases y12 with y12 | pv7 <;> dsimp only at H
 refine Tc (aW _ _ h17).s ?_
 refine Z1 ?_
 refine aC [1,4,5,0,6,2,3] (by decide) ?_
 exact Tm ((y6.1.AB.AH,y6.1.AB.AD,y6.1.AB.Code,y6.1.AB.AG,y6.1.AU,y6.1.last,y6.1.AK,y6.1.AT,v14,b11,v16)) (ij H)
 refine Tp (aW _ _ h17).pan ?_
 revert H;refine B1z fun r16 H e16=>?_
 cases e16;cases Hr3
 revert H;refine B2z fun r17 H e17=>?_
 cases e17;cases Hr2
 revert H;refine B3z fun r18 H e18=>?_
 cases e18;cases Hr1
 cases H
 exact bC
 rintro⟨x39,x40,x41,x42,x43,x44,x45,x46,v12,b10,v13⟩ hi;subst o3;replace H:=Hr3;clear Hr3;try dsimp only at H ⊢
 refine rc 5 fun _=>?_
 refine rc 6 fun _=>?_
 revert H;refine bs fun o4 H Hr4=>?_
 refine aO (ι:=Unit) (fun i=>o4=Sum.inl ()) (fun i=>[(0,fEq (ptr p0)),(2,bV gI ()),(3,fEq (.map (some b3))),(13,fSl aF a0.AB.Code),(14,fI (a0.AB.Code.length:Int)),(15,fI x20),(5,fEq (ptr b8))]) (fun i=>[aA p0 150 [fI x39,fSl aE x40,fSl aF x41,fI x42,fSl tI x43,fEq v12,fEq (.map (some b10)),fEq v13],aA b9 87 [fStr y5.name,fI y5.many,eC y5.right],aA b8 54 [fI y2.Op,fI y2.A,fI y2.B],bK bG (fun y=>fSt aZ y) b10 x45,bK bG (fun y=>aL y) b3 x29,aB v12 3 tI x44,aB v13 3 tI x46]) ?_ ?_
 revert H;refine I5z (fun c7 H=>?_) fun c7 H=>?_
 revert H;refine I6z (fun c8 H=>?_) fun c8 H=>?_
 apply bQ (ods:=[_,_,_,_,_,_,_,_,_,_,_,_,_,_,_]) 15 0 7 bM rfl rfl rfl
 refine ND ?_
 refine M8 ?_
 intros
 refine M7 ?_
 intros
 revert H;refine B1z fun y13 h18 H=>?_
 rcases y13 with y13 | pv8 <;> dsimp only at H
 refine Tc (aW _ _ h18).s ?_
 refine Z1 ?_
 exact Tm (()) (ij H)
 refine Tp (aW _ _ h18).pan ?_
 revert H;refine B1z fun r19 H e19=>?_
 cases e19;cases Hr4
 revert H;refine B2z fun r20 H e20=>?_
 cases e20;cases Hr2
 revert H;refine B3z fun r21 H e21=>?_
 cases e21;cases Hr1
 cases H
 exact bC
 exact fk
 kernel_rfl
 apply bQ (ods:=[_,_,_,_,_,_,_,_,_,_,_,_,_,_,_]) 15 0 7 bM rfl rfl rfl
 refine ND ?_
 refine M8 ?_
 intros
 refine M7 ?_
 intros
 revert H;refine B1z fun y14 h19 H=>?_
 rcases y14 with y14 | pv9 <;> dsimp only at H
 refine Tc (aW _ _ h19).s ?_
 refine Z1 ?_
 exact Tm (()) (ij H)
 refine Tp (aW _ _ h19).pan ?_
 revert H;refine B1z fun r22 H e22=>?_
 cases e22;cases Hr4
 revert H;refine B2z fun r23 H e23=>?_
 cases e23;cases Hr2
 revert H;refine B3z fun r24 H e24=>?_
 cases e24;cases Hr1
 cases H
 exact bC
 exact fk
 kernel_rfl
 revert H;refine I5z (fun c9 H=>?_) fun c9 H=>?_
 revert H;refine I1z (fun c10 H=>?_) fun c10 H=>?_
 apply bQ (ods:=[_,_,_,_,_,_,_,_,_,_,_,_,_,_,_]) 15 0 7 bM rfl rfl rfl
 refine ND ?_
 refine M8 ?_
 intros
 refine M7 ?_
 intros
 revert H;refine B1z fun y15 h20 H=>?_
 rcases y15 with y15 | pv10 <;> dsimp only at H
 refine Tc (aW _ _ h20).s ?_
 refine Z1 ?_
 exact Tm (()) (ij H)
 refine Tp (aW _ _ h20).pan ?_
 revert H;refine B1z fun r25 H e25=>?_
 cases e25;cases Hr4
 revert H;refine B2z fun r26 H e26=>?_
 cases e26;cases Hr2
 revert H;refine B3z fun r27 H e27=>?_
 cases e27;cases Hr1
 cases H
 exact bC
 exact fk
 kernel_rfl
 apply bQ (ods:=[_,_,_,_,_,_,_,_,_,_,_,_,_,_,_]) 15 0 7 bM rfl rfl rfl
 refine ND ?_
 refine M8 ?_
 intros
 refine M7 ?_
 intros
 revert H;refine B1z fun y16 h21 H=>?_
 rcases y16 with y16 | pv11 <;> dsimp only at H
 refine Tc (aW _ _ h21).s ?_
 refine Z1 ?_
 exact Tm (()) (ij H)
 refine Tp (aW _ _ h21).pan ?_
 revert H;refine B1z fun r28 H e28=>?_
 cases e28;cases Hr4
 revert H;refine B2z fun r29 H e29=>?_
 cases e29;cases Hr2
 revert H;refine B3z fun r30 H e30=>?_
 cases e30;cases Hr1
 cases H
 exact bC
 exact fk
 kernel_rfl
 refine Z3 ?_
 exact Tm (()) (ij H)
 rintro i hi;subst o4;replace H:=Hr4;clear Hr4;try dsimp only at H ⊢
 revert H;refine I5z (fun c11 H=>?_) fun c11 H=>?_
 refine Z5 ?_
 refine Yo 4 rfl (aDT (zα:=false) (k:=y2.A) rfl hh hh rfl wX Ent.rfl) ?_
 revert H;refine B1z fun y17 h22 H=>?_
 rcases y17 with y17 | pv12 <;> dsimp only at H
 refine Tc (aW _ _ h22).s ?_
 refine Z5 ?_
 refine aR ?_
 refine aBE (k:=y2.A) (y:=true) a1I (.inl rfl) rfl (has rfl) (has rfl) rfl (has rfl) rfl wX ?_
 refine Z3 ?_
 refine aC [1,4,0,5,6] (by decide) ?_
 exact Tm ((x39,x40,x41,x42,x43,x44,x45,x46,aI.upd x29 y2.A true,v12,b10,v13)) (ij H)
 refine Tp (aW _ _ h22).pan ?_
 revert H;refine B3z fun r31 H e31=>?_
 cases e31;cases Hr2
 revert H;refine B3z fun r32 H e32=>?_
 cases e32;cases Hr1
 cases H
 exact bC
 refine Z4 ?_
 refine aC [0,3,4,5,6] (by decide) ?_
 exact Tm ((x39,x40,x41,x42,x43,x44,x45,x46,x29,v12,b10,v13)) (ij H)
 refine Tp (aW _ _ h5).pan ?_
 revert H;refine B3z fun r33 H e33=>?_
 cases e33;cases Hr2
 revert H;refine B3z fun r34 H e34=>?_
 cases e34;cases Hr1
 cases H
 exact bC
 rintro⟨x30,x31,x32,x33,x34,x35,x36,x37,x38,v10,b7,v11⟩ hi;subst o2;replace H:=Hr2;clear Hr2;try dsimp only at H ⊢
 refine rc 3 fun _=>?_
 refine rc 4 fun _=>?_
 revert H;refine B1z fun z1 h23 H=>?_
 refine Z3 ?_
 exact Tm ((k1,z1,x30,x31,x32,x33,x34,x35,x36,x37,x38,v10,b7,v11)) ⟨H,ls⟩
 refine Z6 ?_
 exact Tm ((x21,x22,x23,x24,x25,x26,x27,x28,x29,v8,b6,v9)) (ij H)
 rintro⟨x1,x2,x3,x4,x5,x6,x7,x8,x9,v4,b4,v5⟩ hi;subst o1;replace H:=Hr1;clear Hr1;try dsimp only at H ⊢
 refine rc 3 fun _=>?_
 refine rc 4 fun _=>?_
 apply bQ (ods:=[_,_,_,_,_,_,_,_,_]) 9 0 5 bM rfl rfl rfl
 refine ND ?_
 refine M1 ?_
 intros
 refine Mo 2 rfl (aCi rfl hh wX) fun _=>?_
 refine M7 ?_
 intros
 refine B1 H fun y18 h24 H=>?_
 rcases y18 with y18 | pv13 <;> dsimp only at H
 refine Tc (aW _ _ h24).s ?_
 refine Z1 ?_
 refine aP ?_
 refine cX ?_
 refine aR ?_
 refine aP ?_
 refine aR ?_
 refine bD ?_
 refine cW ?_
 cases H
 refine gP ?_
 refine aC [0] (by decide) ?_
 exact cV (.inr rfl) rfl rfl
 refine Tp (aW _ _ h24).pan ?_
 cases H
 exact bC
 exact fk
 kernel_rfl
def wT (a0:List Int):Option (List Int):=
 (cY (([]:List Int)++a0)).bind fun z1=>
 some z1
theorem aH7  (a0:List Int) (r:List Int) (H:wT a0=some r):FnS Tryz.prog 55 [fSl tI a0] [] jK (fun v=>[(fun v=>aB v 3 tI r) v]):=by
 unfold wT at H
 refine bY Tryz.func55 rfl Tryz.ntmps55 rfl (fun β=>?_)
 refine Z3 ?_
 refine aK ?_
 refine Z2 ?_
 refine Yy (o_eqNil rfl hh (us rfl)) ?_
 refine Z1 ?_
 refine aH5 (has rfl) (fun hx=>?_) ?_
 replace H:some ([]:List Int)=some r:=by subst hx;exact H
 refine Z4 ?_
 refine dQ tI 3 ?_
 cases H
 exact aAK rfl (cM rfl) (fun _ _ _=>trivial) rfl
 refine Z3 ?_
 refine Tn (cE (t:=tI) (xs:=([]:List Int)) rfl (et rfl) aX.nil rfl rfl rfl) fun b1=>?_
 generalize (Value.slice (some ⟨b1,0,none⟩) _ _)=v1
 refine rc 0 fun _=>?_
 refine B1 H fun z1 h1 H=>?_
 refine lI (ys:=a0) a1I rfl rfl rfl (has rfl) (has rfl) (et rfl) rfl h1 (fun v2=>?_)
 refine rc 0 fun _=>?_
 refine Z3 ?_
 cases H
 exact aAK rfl (cM rfl) (fun _ _ _=>trivial) rfl
def vF (a0:Int):Option (Bool):=
 (if a0=13 then
  some true
 else
  some (decide (a0=15))).bind fun x1=>
 some x1
theorem aGD  (a0:Int) (r:Bool) (H:vF a0=some r):FnS Tryz.prog 53 [fI a0] [] (aL r) (fun _=>[]):=by
 unfold vF at H
 refine bY Tryz.func53 rfl Tryz.ntmps53 rfl (fun β=>?_)
 revert H;refine B3z fun o1 H Hr1=>?_
 refine aO (fun i=>o1=i) (fun i=>[(2,aL i)]) (fun i=>[]) ?_ ?_
 revert H;refine I4z (fun c1 H=>?_) fun c1 H=>?_
 refine Z5 ?_
 exact Tm (true) (ij H)
 refine Z5 ?_
 exact Tm (decide (a0=15)) (ij H)
 rintro x1 hi;subst o1;replace H:=Hr1;clear Hr1;try dsimp only at H ⊢
 refine Z1 ?_
 cases H
 exact To
open Go.SX Go.SW
def sortRen:Go.Shelf.Ren:=⟨fun x=>match x with
 | 189=>101 | 125=>135 | 257=>134 | 128=>168 | 129=>169
 | 294=>159 | 295=>160 | 296=>161 | 297=>162 | 298=>163
 | 299=>164 | 216=>165 | 300=>166 | 301=>167 | 328=>190
 | 329=>191 | 330=>192 | 331=>193 | 332=>194 | 215=>195 | 343=>215
 | n=>n,fun x=>match x with
 | 28=>50 | 3=>3 | 46=>231 | 0=>0 | 51=>255 | 53=>257 | 4=>4 | 183=>248 | 182=>247 | 131=>179 | 5=>5 | 9=>9
 | 218=>278 | 222=>282 | 228=>305 | 229=>306
 | n=>n,fun x=>x⟩
theorem aEx:Go.Proofs.Lays.n189 Tryz.prog sortRen:=by constructor <;> first | kernel_rfl | (intro w;kernel_rfl)
def compRen:Go.Shelf.Ren:=⟨fun x=>match x with | 20=>127 | n=>n,fun x=>match x with | 0=>0 | 3=>3 | 4=>4 | 22=>50 | n=>n,fun x=>x⟩
theorem aEL:Go.Proofs.Lays2.n20 Tryz.prog compRen:=by constructor <;> first | kernel_rfl | (intro w;kernel_rfl)
theorem heap_row {w:World} {b n:Nat} {c:Array Value} {e:TypeId} {f:Array Value->Array Value} {os:Array Obj} (h:w.heap[b]? =some (.cells c e (0,0))):
 (Go.Sort.grow (Go.Sort.mapBlock (Go.Sort.ahead w n) b f) os).heap[b]? =some (.cells (f c) e (0,0))/\∀ k,k≠b->k<w.heap.size->(Go.Sort.grow (Go.Sort.mapBlock (Go.Sort.ahead w n) b f) os).heap[k]? =w.heap[k]?:=by
 have hb:b<w.heap.size:=(a0b.1 h).1
 constructor
 ·simp only [Go.Sort.grow,Go.Sort.mapBlock,Go.Sort.ahead];rw [Array.getElem?_append_left (by simpa using hb),Array.getElem?_modify,a1H rfl,h];rfl
 ·intro k hk hk2;simp only [Go.Sort.grow,Go.Sort.mapBlock,Go.Sort.ahead]
  grind
theorem st_row {w:World} {m:Mem} {b n:Nat} {c:Array Value} {e:TypeId} {f:Array Value->Array Value} {os:Array Obj} (hS:St ⟨w,m,[b]⟩ m [(b, .cells c e (0,0))] w):
 St ⟨w,m,[b]⟩ m [(b, .cells (f c) e (0,0))] (Go.Sort.grow (Go.Sort.mapBlock (Go.Sort.ahead w n) b f) os):=by
 obtain⟨h1,h2⟩:=heap_row (n:=n) (f:=f) (os:=os) (hS.own _ (.head _))
 have hm:m b=none:=hS.apart _ (.head _)
 refine⟨fun k o hk=>?_,fun x hx=>?_,fun x hx=>?_,by simp,hS.mle,fun k hk=>absurd rfl hk,fun x hx _=>?_,?_,(by grind),rfl,rfl,rfl⟩
 ·grind [St.mem]
 ·grind
 ·grind
 ·grind
 grind
theorem aEr {m:Mem}:∀ {xs:List Int} {cs:List Value},aU (xs.flatMap (aJ .i64).AY) m cs->cs=xs.map (.int .i64)
 | [],_,h=>by
  have h:_=[]:=h;rw [h];rfl
 | x :: xs,_,h=>by
  obtain⟨v,r,rfl,h1,h2⟩:=h;have h1:v= .int .i64 x:=h1;rw [h1,aEr h2];rfl
theorem aED {m:Mem}:∀ {xs:List Int},aU (xs.flatMap (aJ .i64).AY) m (xs.map (.int .i64))
 | []=>rfl
 | x :: xs=>⟨_,_,rfl,rfl,aED⟩
theorem aDA {m:Mem} {L:AW} {v:Value} {xs:List Int} (h:bB [aB v 3 (aJ .i64) xs] m L):xs.length<=1000000000/\((v= .slice none 0 0/\xs=[]/\L=[]) \/
 ∃ b c cap,v= .slice (some ⟨b,0,none⟩) xs.length cap/\L=[(b, .cells c 3 (0,0))]/\c.size=cap/\xs.length<=cap/\c.toList.take xs.length=xs.map (.int .i64)):=by
 obtain⟨H,R,rfl,⟨cs,h1,h2,h3⟩,hR⟩:=h
 have hR:R=[]:=hR
 subst hR
 have e:=aEr h3
 subst e
 refine⟨h2,?_⟩
 rcases h1.2 with⟨rfl,h4,rfl⟩ | ⟨b,c,cap,rfl,rfl,h4,h5,h6⟩
 ·grind
 ·exact .inr ⟨b,c,cap,rfl,rfl,by rw [h4];exact Nat.mul_one _,h5,by simpa using h6⟩
theorem row_of {m:Mem} {b cap:Nat} {c:Array Value} {xs:List Int} (h1:c.size=cap) (h2:xs.length<=cap) (h3:c.toList.take xs.length=xs.map (.int .i64)) (h4:xs.length<=1000000000):
 (aB (.slice (some ⟨b,0,none⟩) xs.length cap) 3 (aJ .i64) xs).p m [(b, .cells c 3 (0,0))]:=
 ⟨xs.map (.int .i64),⟨by grind [aJ], .inr ⟨b,c,cap,rfl,rfl,by rw [h1];exact(Nat.mul_one _).symm,h2,by simpa using h3⟩⟩,h4,aED⟩
theorem aCH {w:World} {b:Nat} {c:Array Value} {e:TypeId} {xs:List Int} (h:w.heap[b]? =some (.cells c e (0,0))) (hx:c.toList.take xs.length=xs.map (.int .i64)):Go.Sort.Holds (Value.int .i64) w b 0 xs.toArray:=by
 intro j hj
 have hj:j<xs.length:=by simpa using hj
 refine⟨?_,by simp [World.frozen?,h]⟩
 have h1:c.toList[j]? =some (.int .i64 xs[j]):=by
  have h2:(c.toList.take xs.length)[j]? =some (.int .i64 xs[j]):=by rw [hx];simp [hj]
  grind
 simp only [World.cell?,h,a1q,Option.isSome_none,a0h,if_false]
 grind
theorem aEu {c:Array Value} {ys:List Int} {k:Nat} (hk:k<=ys.length) (hc:ys.length<=c.size):(Go.Sort.putCells (Value.int .i64) 0 ys.toArray c).toList.take k=(ys.take k).map (.int .i64):=by
 apply a0v
 intro j
 rw [a0F]
 split
 ·rename_i hj;simp only [Go.Sort.putCells,a0d,Array.getElem?_mapIdx]
  grind
 grind
theorem aDk {c:Array Value} {ys:Array Int}:(Go.Sort.putCells (Value.int .i64) 0 ys c).size=c.size:=by simp [Go.Sort.putCells]
def cN (xs:List Int):List Int:=xs.mergeSort fun x y=>decide (x<=y)
def aDL (a0:List Int):Option (List Int):=some (cN a0)
theorem aGN (p0:Value) (a0 r:List Int) (H:aDL a0=some r):FnS Tryz.prog 101 [fEq p0] [aB p0 3 (aJ .i64) a0] (dI []) (fun _=>[aB p0 3 (aJ .i64) r]):=by
 have H:cN a0=r:=a1y H
 subst H
 intro m L vs hv hL w hS
 obtain⟨v,_,rfl,hv1,hv2⟩:=hv
 have hv1:v=p0:=hv1
 have hv2:_=[]:=hv2
 subst hv1;subst hv2
 obtain⟨hB,⟨rfl,rfl,rfl⟩ | ⟨b,c,cap,rfl,rfl,h1,h2,h3⟩⟩:=aDA hL
 ·refine(Any.slices_Sort_int_none aEx none 0 w).mono ?_;rintro e w' ⟨rfl,rfl⟩
  have e0:cN []=[]:=by simp [cN]
  exact⟨m,[],hS,_,rfl,⟨[],rfl,rfl⟩,by rw [e0];exact hL⟩
 ·have hw:=hS.own _ (.head _);have hl:(cN a0).length=a0.length:=by simp [cN]
  refine(Any.slices_Sort_int aEx b 0 cap a0 w (aCH hw h3) (a0b.1 hw).1 (by omega)).mono ?_
  rintro e w' ⟨rfl,n,os,rfl⟩
  refine⟨m,_,st_row hS,_,rfl,⟨[],rfl,rfl⟩,_,[],(a0q _).symm,?_,rfl⟩;rw [<- hl];exact row_of (by rw [aDk,h1]) (by omega) (by
   have:=aEu (c:=c) (ys:=cN a0) (k:=(cN a0).length) (a1l _) (by omega)
   rw [List.take_length]at this;exact this) (by omega)
def aEV (a0:List Int):Option (List Int):=some (Go.Lib.compact a0)
theorem aHO (xs:List Int):(Go.Lib.compact xs).length<=xs.length:=by
 unfold Go.Lib.compact Go.Lib.compactUpTo
 grind
theorem aGd (p0:Value) (a0 r:List Int) (H:aEV a0=some r):FnS Tryz.prog 127 [fEq p0] [aB p0 3 (aJ .i64) a0] (fSl (aJ .i64) r) (fun _=>[]):=by
 have H:Go.Lib.compact a0=r:=a1y H
 subst H
 intro m L vs hv hL w hS
 obtain⟨v,_,rfl,hv1,hv2⟩:=hv
 have hv1:v=p0:=hv1
 have hv2:_=[]:=hv2
 subst hv1;subst hv2
 obtain⟨hB,⟨rfl,rfl,rfl⟩ | ⟨b,c,cap,rfl,rfl,h1,h2,h3⟩⟩:=aDA hL
 ·refine(Any.slices_Compact_int_empty aEL none 0 w).mono ?_;rintro e w' ⟨rfl,rfl⟩
  exact⟨m,[],hS,_,rfl,cF m _ rfl,rfl⟩
 ·have hw:=hS.own _ (.head _);have hl:=aHO a0;refine(Any.slices_Compact_int aEL b 0 cap a0 w (aCH hw h3) (by omega) h2).mono ?_
  rintro e w' ⟨rfl,n,rfl⟩
  rw [<- Go.Sort.grow_empty (Go.Sort.putRow _ _ _ _ _)];have hS':=st_row (n:=n) (f:=Go.Sort.putCells (Value.int .i64) 0 (Go.Lib.compact a0++List.replicate (a0.length - (Go.Lib.compact a0).length) 0).toArray) (os:=#[]) hS;have hr:(aB (.slice (some ⟨b,0,none⟩) (Go.Lib.compact a0).length cap) 3 (aJ .i64) (Go.Lib.compact a0)).p m [(b, .cells (Go.Sort.putCells (Value.int .i64) 0 (Go.Lib.compact a0++List.replicate (a0.length - (Go.Lib.compact a0).length) 0).toArray c) 3 (0,0))]:=
   row_of (by rw [aDk,h1]) (by omega) (by
    grind [aEu]) (by omega)
  obtain⟨m',h4,h5,h6⟩:=zC (H:=[_]) (R:=[]) hS';exact⟨m',[],h5,_,rfl,cD m _ hr m' h4 h6,rfl⟩
open Go.SX Go.SW Go.Dt
def pA (y1:AO):Nat->(List Int)->Int->Option (List Int)
| 0,_,_=>none
| k+1,x10,x11=>
 if x11<(y1.AP.length:Int)then
  (idx y1.AP x11).bind fun y2=>
  (cY (x10++[y2.AV])).bind fun z1=>
  (chk (x11+1)).bind fun z2=>
  pA y1 k z1 z2
 else
  some x10
def qS (y1:AO):Nat->(List Int)->Int->Option (List Int)
| 0,_,_=>none
| k+1,x14,x15=>
 if x15<(y1.AN.length:Int)then
  (idx y1.AN x15).bind fun y3=>
  (cY (x14++[y3.AV])).bind fun z3=>
  (chk (x15+1)).bind fun z4=>
  qS y1 k z3 z4
 else
  some x14
def pE (AA:Nat) (a0:AB):Nat->(List Int)->Int->Option (List Int)
| 0,_,_=>none
| k+1,x4,x5=>
 if x5<(a0.AD.length:Int)then
  ((idx a0.AD x5).bind fun y1=>
  (pA y1 AA x4 0).bind fun x7=>
  qS y1 AA x7 0).bind fun x6=>
  (chk (x5+1)).bind fun z5=>
  pE AA a0 k x6 z5
 else
  some x4
def qC (a0:AB):Nat->(List Int)->Int->Option (List Int)
| 0,_,_=>none
| k+1,x19,x20=>
 if x20<(a0.Code.length:Int)then
  ((idx a0.Code x20).bind fun y4=>
  (vF y4.Op).bind fun y5=>
  bif y5 then
   (cY (x19++[y4.B])).bind fun z6=>
   some z6
  else
   some x19).bind fun x21=>
  (chk (x20+1)).bind fun z7=>
  qC a0 k x21 z7
 else
  some x19
def wO (AA:Nat) (a0:AB):Option (List Int):=
 (pE AA a0 AA [a0.AG] 0).bind fun x1=>
 (qC a0 AA x1 0).bind fun x16=>
 some x16
theorem aG0 (AA:Nat)  (a0:AB) (r:List Int) (H:wO AA a0=some r):FnS Tryz.prog 126 [fSt dX a0] [] jK (fun v=>[(fun v=>aB v 3 tI r) v]):=by
 unfold wO at H
 refine bY Tryz.func126 rfl Tryz.ntmps126 rfl (fun β=>?_)
 refine Z1 ?_
 refine Tn (cG rfl hh bW) fun b1=>?_
 refine Z5 ?_
 refine Tn (cE (t:=tI) (xs:=[a0.AG]) rfl (et rfl) (aX.cons rfl (has rfl) (bO (aD a1I)) aX.nil) rfl rfl rfl) fun b2=>?_
 generalize (Value.slice (some ⟨b2,0,none⟩) _ _)=v1
 refine rc 0 fun _=>?_
 revert H;refine B2z fun o1 H Hr1=>?_
 refine aO (ι:=List Int × Value) (fun i=>o1=i.1) (fun i=>[(1,fEq (ptr b1)),(3,fEq i.2)]) (fun i=>[aA b1 25 [fI a0.AH,fSl aE a0.AD,fSl aF a0.Code,fI a0.AG],aB i.2 3 tI i.1]) ?_ ?_
 refine Z7 ?_
 refine aC [1,0] (by decide) ?_
 refine Th (ι:=List Int × Int × Value) (fun i=>pE AA a0 i.1 i.2.1 i.2.2.1=_) (fun i=>[(1,fEq (ptr b1)),(3,fEq i.2.2.2),(16,fSl aE a0.AD),(17,fI (a0.AD.length:Int)),(18,fI i.2.2.1)]) (fun i=>[aA b1 25 [fI a0.AH,fSl aE a0.AD,fSl aF a0.Code,fI a0.AG],aB i.2.2.2 3 tI i.2.1]) (AA,[a0.AG],0,v1) H (fun _ h=>nomatch h) ?_
 clear H;rintro k1 ⟨x4,x5,v4⟩ H;dsimp only at H ⊢;rw [pE]at H
 refine rc 1 fun _=>?_
 refine Z3 ?_
 refine aK ?_
 revert H;refine is (fun c1 H=>?_) fun c1 H=>?_
 revert H;refine B3z fun o2 H Hr2=>?_
 refine aO (ι:=List Int × Value) (fun i=>o2=i.1) (fun i=>[(1,fEq (ptr b1)),(3,fEq i.2),(16,fSl aE a0.AD),(17,fI (a0.AD.length:Int)),(18,fI x5)]) (fun i=>[aA b1 25 [fI a0.AH,fSl aE a0.AD,fSl aF a0.Code,fI a0.AG],aB i.2 3 tI i.1]) ?_ ?_
 revert H;refine B2z fun y1 h1 H=>?_
 refine Z2 ?_
 refine Tn (bU rfl nS rfl) fun b3=>?_
 refine bT (φs':=[fSl aS y1.AQ,fSl aV y1.AN,fSl aY y1.AP]) a1I rfl rfl (has rfl) (has rfl) (aH (cA) (aH (cA) (aH (cA) bL))) (sz rfl) rfl rfl rfl ?_
 revert H;refine B1z fun o3 H Hr3=>?_
 refine aO (ι:=List Int × Value) (fun i=>o3=i.1) (fun i=>[(1,fEq (ptr b1)),(3,fEq i.2),(16,fSl aE a0.AD),(17,fI (a0.AD.length:Int)),(18,fI x5),(5,fEq (ptr b3))]) (fun i=>[aA b3 78 [fSl aS y1.AQ,fSl aV y1.AN,fSl aY y1.AP],aA b1 25 [fI a0.AH,fSl aE a0.AD,fSl aF a0.Code,fI a0.AG],aB i.2 3 tI i.1]) ?_ ?_
 refine Z7 ?_
 refine Th (ι:=List Int × Int × Value) (fun i=>pA y1 i.1 i.2.1 i.2.2.1=_) (fun i=>[(1,fEq (ptr b1)),(3,fEq i.2.2.2),(16,fSl aE a0.AD),(17,fI (a0.AD.length:Int)),(18,fI x5),(5,fEq (ptr b3)),(23,fSl aY y1.AP),(24,fI (y1.AP.length:Int)),(25,fI i.2.2.1)]) (fun i=>[aA b3 78 [fSl aS y1.AQ,fSl aV y1.AN,fSl aY y1.AP],aA b1 25 [fI a0.AH,fSl aE a0.AD,fSl aF a0.Code,fI a0.AG],aB i.2.2.2 3 tI i.2.1]) (AA,x4,0,v4) H (fun _ h=>nomatch h) ?_
 clear H;rintro k2 ⟨x10,x11,v8⟩ H;dsimp only at H ⊢;rw [pA]at H
 refine rc 2 fun _=>?_
 refine Z3 ?_
 refine aK ?_
 revert H;refine is (fun c2 H=>?_) fun c2 H=>?_
 refine Z3 ?_
 refine aK ?_
 revert H;refine B2z fun y2 h2 H=>?_
 refine Z2 ?_
 refine Tn (bU rfl mK rfl) fun b4=>?_
 refine bT (φs':=[fI y2.At,fSl tI y2.AX,fI y2.AV]) a1I rfl rfl (has rfl) (has rfl) (aH (aD a1I) (aH (cA) (aH (aD a1I) bL))) (sz rfl) rfl rfl rfl ?_
 refine Z5 ?_
 refine Tn (cE (t:=tI) (xs:=[y2.AV]) rfl (et rfl) (aX.cons rfl (has rfl) (bO (aD a1I)) aX.nil) rfl rfl rfl) fun b5=>?_
 generalize (Value.slice (some ⟨b5,0,none⟩) _ _)=v9
 refine rc 0 fun _=>?_
 revert H;refine bs fun z1 h3 H=>?_
 refine aR ?_
 refine aP ?_
 refine gJ a1I rfl rfl rfl (has rfl) (has rfl) (et rfl) rfl h3 (fun v10=>?_)
 refine rc 0 fun _=>?_
 revert H;refine B5z fun z2 h4 H=>?_
 refine Z3 ?_
 refine aC [2,3,0] (by decide) ?_
 exact Tm ((k2,z1,z2,v10)) ⟨H,ls⟩
 refine Z6 ?_
 exact Tm ((x10,v8)) (ij H)
 rintro⟨x7,v6⟩ hi;subst o3;replace H:=Hr3;clear Hr3;try dsimp only at H ⊢
 refine rc 2 fun _=>?_
 refine Z7 ?_
 refine Th (ι:=List Int × Int × Value) (fun i=>qS y1 i.1 i.2.1 i.2.2.1=_) (fun i=>[(1,fEq (ptr b1)),(3,fEq i.2.2.2),(16,fSl aE a0.AD),(17,fI (a0.AD.length:Int)),(18,fI x5),(36,fSl aV y1.AN),(37,fI (y1.AN.length:Int)),(38,fI i.2.2.1)]) (fun i=>[aA b3 78 [fSl aS y1.AQ,fSl aV y1.AN,fSl aY y1.AP],aA b1 25 [fI a0.AH,fSl aE a0.AD,fSl aF a0.Code,fI a0.AG],aB i.2.2.2 3 tI i.2.1]) (AA,x7,0,v6) H (fun _ h=>nomatch h) ?_
 clear H;rintro k3 ⟨x14,x15,v12⟩ H;dsimp only at H ⊢;rw [qS]at H
 refine rc 2 fun _=>?_
 refine Z3 ?_
 refine aK ?_
 revert H;refine is (fun c3 H=>?_) fun c3 H=>?_
 refine Z3 ?_
 refine aK ?_
 revert H;refine B2z fun y3 h5 H=>?_
 refine Z2 ?_
 refine Tn (bU rfl aAd rfl) fun b6=>?_
 refine bT (φs':=[fI y3.In,fI y3.AV]) a1I rfl rfl (has rfl) (has rfl) (aH (aD a1I) (aH (aD a1I) bL)) (sz rfl) rfl rfl rfl ?_
 refine Z5 ?_
 refine Tn (cE (t:=tI) (xs:=[y3.AV]) rfl (et rfl) (aX.cons rfl (has rfl) (bO (aD a1I)) aX.nil) rfl rfl rfl) fun b7=>?_
 generalize (Value.slice (some ⟨b7,0,none⟩) _ _)=v13
 refine rc 0 fun _=>?_
 revert H;refine bs fun z3 h6 H=>?_
 refine aR ?_
 refine aP ?_
 refine gJ a1I rfl rfl rfl (has rfl) (has rfl) (et rfl) rfl h6 (fun v14=>?_)
 refine rc 0 fun _=>?_
 revert H;refine B5z fun z4 h7 H=>?_
 refine Z3 ?_
 refine aC [2,3,0] (by decide) ?_
 exact Tm ((k3,z3,z4,v14)) ⟨H,ls⟩
 refine Z7 ?_
 refine aC [1,2] (by decide) ?_
 exact Tm ((x14,v12)) (ij H)
 rintro⟨x6,v5⟩ hi;subst o2;replace H:=Hr2;clear Hr2;try dsimp only at H ⊢
 refine rc 1 fun _=>?_
 revert H;refine B1z fun z5 h8 H=>?_
 refine Z3 ?_
 exact Tm ((k1,x6,z5,v5)) ⟨H,ls⟩
 refine Z6 ?_
 exact Tm ((x4,v4)) (ij H)
 rintro⟨x1,v2⟩ hi;subst o1;replace H:=Hr1;clear Hr1;try dsimp only at H ⊢
 refine rc 1 fun _=>?_
 revert H;refine bs fun o4 H Hr4=>?_
 refine aO (ι:=List Int × Value) (fun i=>o4=i.1) (fun i=>[(3,fEq i.2)]) (fun i=>[aA b1 25 [fI a0.AH,fSl aE a0.AD,fSl aF a0.Code,fI a0.AG],aB i.2 3 tI i.1]) ?_ ?_
 refine Z7 ?_
 refine Th (ι:=List Int × Int × Value) (fun i=>qC a0 i.1 i.2.1 i.2.2.1=_) (fun i=>[(3,fEq i.2.2.2),(50,fSl aF a0.Code),(51,fI (a0.Code.length:Int)),(52,fI i.2.2.1)]) (fun i=>[aA b1 25 [fI a0.AH,fSl aE a0.AD,fSl aF a0.Code,fI a0.AG],aB i.2.2.2 3 tI i.2.1]) (AA,x1,0,v2) H (fun _ h=>nomatch h) ?_
 clear H;rintro k4 ⟨x19,x20,v17⟩ H;dsimp only at H ⊢;rw [qC]at H
 refine rc 1 fun _=>?_
 refine Z3 ?_
 refine aK ?_
 revert H;refine is (fun c4 H=>?_) fun c4 H=>?_
 revert H;refine B3z fun o5 H Hr5=>?_
 refine aO (ι:=List Int × Value) (fun i=>o5=i.1) (fun i=>[(50,fSl aF a0.Code),(51,fI (a0.Code.length:Int)),(52,fI x20),(3,fEq i.2)]) (fun i=>[aA b1 25 [fI a0.AH,fSl aE a0.AD,fSl aF a0.Code,fI a0.AG],aB i.2 3 tI i.1]) ?_ ?_
 revert H;refine B2z fun y4 h9 H=>?_
 refine Z2 ?_
 refine Tn (bU rfl kV rfl) fun b8=>?_
 refine bT (φs':=[fI y4.Op,fI y4.A,fI y4.B]) a1I rfl rfl (has rfl) (has rfl) (aH (aD a1I) (aH (aD a1I) (aH (aD a1I) bL))) (sz rfl) rfl rfl rfl ?_
 revert H;refine B4z fun y5 h10 H=>?_
 refine Tc (aGD _ _ h10) ?_
 refine Z1 ?_
 revert H;refine cs (fun c5 H=>?_) fun c5 H=>?_
 refine Z5 ?_
 refine Tn (cE (t:=tI) (xs:=[y4.B]) rfl (et rfl) (aX.cons rfl (has rfl) (bO (aD a1I)) aX.nil) rfl rfl rfl) fun b9=>?_
 generalize (Value.slice (some ⟨b9,0,none⟩) _ _)=v19
 refine rc 0 fun _=>?_
 revert H;refine bs fun z6 h11 H=>?_
 refine bD ?_
 refine aP ?_
 refine gJ a1I rfl rfl rfl (has rfl) (has rfl) (et rfl) rfl h11 (fun v20=>?_)
 refine rc 0 fun _=>?_
 refine Z4 ?_
 refine aC [2,0] (by decide) ?_
 exact Tm ((z6,v20)) (ij H)
 refine Z4 ?_
 refine aC [1,2] (by decide) ?_
 exact Tm ((x19,v17)) (ij H)
 rintro⟨x21,v18⟩ hi;subst o5;replace H:=Hr5;clear Hr5;try dsimp only at H ⊢
 refine rc 1 fun _=>?_
 revert H;refine B1z fun z7 h12 H=>?_
 refine Z3 ?_
 exact Tm ((k4,x21,z7,v18)) ⟨H,ls⟩
 refine Z6 ?_
 exact Tm ((x19,v17)) (ij H)
 rintro⟨x16,v15⟩ hi;subst o4;replace H:=Hr4;clear Hr4;try dsimp only at H ⊢
 refine rc 1 fun _=>?_
 refine Z5 ?_
 cases H
 refine aC [1] (by decide) ?_
 exact aAK rfl (cM rfl) (fun _ _ _=>trivial) rfl
def nM (a0:AR):Nat->Int->Option (Int)
| 0,_=>none
| k+1,x13=>
 if x13<(a0.AB.Code.length:Int)then
  (idx a0.AB.Code x13).bind fun y9=>
  if y9.Op≠16 then
   (chk (x13+1)).bind fun z1=>
   nM a0 k z1
  else
   some x13
 else
  some x13
def pC (x11:Int):Nat->Int->(List Int)->Option (List Int)
| 0,_,_=>none
| k+1,x17,x18=>
 if x17<=x11 then
  (idx x18 x17).bind fun y11=>
  (chk (x17+1)).bind fun z2=>
  pC x11 k z2 (x18.set x17.toNat x11)
 else
  some x18
def lR (AA:Nat) (a0:AR) (y2:List Int):Nat->Int->Int->(List Int)->Option ((Int × List Int) ⊕ (AR ⊕ Value))
| 0,_,_,_=>none
| k+1,x6,x7,x8=>
 if x7<(y2.length:Int)then
  ((idx y2 x7).bind fun y7=>
  (bR (decide (y7=x6))).bind fun y8=>
  match y8 with
  | Sum.inr pv2=>((some (Sum.inr pv2)).bind fun r=>some (Sum.inr r)).bind fun r=>some (Sum.inr r)
  | Sum.inl y8=>
  (nM a0 AA x6).bind fun x11=>
  (bR (decide (x11<(a0.AB.Code.length:Int)))).bind fun y10=>
  match y10 with
  | Sum.inr pv3=>((some (Sum.inr pv3)).bind fun r=>some (Sum.inr r)).bind fun r=>some (Sum.inr r)
  | Sum.inl y10=>
  (pC x11 AA y7 x8).bind fun x14=>
  (chk (x11+1)).bind fun z3=>
  some (Sum.inl (z3,x14))).bind fun o=>match o with
  | Sum.inr r=>some r
  | Sum.inl (x9,x10)=>
  (chk (x7+1)).bind fun z4=>
  lR AA a0 y2 k x9 z4 x10
 else
  some (Sum.inl (x6,x8))
def lF (AA:Nat) (a0:AR):Option (AR ⊕ Value):=
 (wO AA (⟨a0.AB.AH,a0.AB.AD,a0.AB.Code,a0.AB.AG⟩:AB)).bind fun y1=>
 (aDL y1).bind fun y2=>
 (wT y2).bind fun y3=>
 (aEV y3).bind fun y4=>
 (bR (decide ((y4.length:Int)=(y2.length:Int)))).bind fun y5=>
 match y5 with
 | Sum.inr pv1=>some (Sum.inr pv1)
 | Sum.inl y5=>
 (mk 0 (a0.AB.Code.length:Int)).bind fun y6=>
 (lR AA a0 y2 AA 0 0 y6).bind fun o=>match o with
 | Sum.inr r=>some r
 | Sum.inl (x1,x2)=>
 (bR (decide (x1=(a0.AB.Code.length:Int)))).bind fun y12=>
 match y12 with
 | Sum.inr pv4=>some (Sum.inr pv4)
 | Sum.inl y12=>
 some (Sum.inl (⟨(⟨a0.AB.AH,a0.AB.AD,a0.AB.Code,a0.AB.AG⟩:AB),y2,x2,a0.AK,a0.AT⟩:AR))
theorem aE1 (AA:Nat) (p0:Nat) (a0:AR) (r:AR ⊕ Value) (H:lF AA a0=some r):FnE Tryz.prog 96 [fEq (.pointer (some ⟨p0,0,none⟩))] [dC p0 a0] r (fun r=>dI []) (fun r=>[dC p0 r]):=by
 unfold lF at H
 refine iR Tryz.func96 rfl Tryz.ntmps96 rfl (fun β=>?_)
 refine dG (fun v1 v2 v3=>?_)
 refine aQ ?_
 refine dF (fun b1 h1=>?_);subst h1
 refine rc 2 fun _=>?_
 refine rc 3 fun _=>?_
 refine B5 H fun y1 h2 H=>?_
 refine kX a1I rfl rfl rfl (has rfl) (aM.cons (has rfl) aM.nil) rfl (cb rfl) (aG0 AA a0.AB y1 h2) (Δi:=[]) rfl (fun v4=>?_)
 dsimp only [List.append,_root_.List.cons_append,_root_.List.nil_append]
 refine rc 0 fun _=>?_
 refine B4 H fun y2 h3 H=>?_
 refine Tc (aGN _ _ _ h3) ?_
 refine Z3 ?_
 refine cP (φ:=fSl tI y2) (v:=v4) [11,2,12,14] cD fz ?_
 refine cL ?_
 refine bz H fun y3 h4 H=>?_
 refine kX a1I rfl rfl rfl (has rfl) (aM.cons (has rfl) aM.nil) rfl (cb rfl) (aH7 y2 y3 h4) (Δi:=[]) rfl (fun v5=>?_)
 dsimp only [List.append,_root_.List.cons_append,_root_.List.nil_append]
 refine rc 0 fun _=>?_
 refine bz H fun y4 h5 H=>?_
 refine Tc (aGd _ _ _ h5) ?_
 refine B4 H fun y5 h6 H=>?_
 rcases y5 with y5 | pv1 <;> dsimp only at H
 refine Tc (aW _ _ h6).s ?_
 refine B9 H fun y6 h7 H=>?_
 refine Tn (aAb (t:=tI) (z:=0) rfl hh (et rfl) rfl ty_ze_3 rfl h7) fun b2=>?_
 generalize (Value.slice (some ⟨b2,0,none⟩) _ _)=v6
 refine rc 0 fun hc_v6=>?_
 refine Z2 ?_
 refine aQ ?_
 refine bJ (φs':=[fI a0.AB.AH,fSl aE a0.AB.AD,fSl aF a0.AB.Code,fI a0.AB.AG,fSl tI a0.AU,fEq v6,fEq (.map (some b1)),fEq v3]) a1I rfl rfl (has rfl) (has rfl) (aD hc_v6) (sz rfl) rfl rfl ?_
 revert H;refine B4z fun o1 H Hr1=>?_
 refine aO (fun i=>o1=Sum.inl i) (fun i=>[(0,fEq (ptr p0)),(2,fSl tI y2),(3,fI i.1)]) (fun i=>[aA p0 150 [fI a0.AB.AH,fSl aE a0.AB.AD,fSl aF a0.AB.Code,fI a0.AB.AG,fSl tI a0.AU,fEq v6,fEq (.map (some b1)),fEq v3],bK bG (fun y=>fSt aZ y) b1 a0.AK,aB v6 3 tI i.2,aB v3 3 tI a0.AT]) ?_ ?_
 refine Z6 ?_
 refine aC [0,2,1,4] (by decide) ?_
 refine Th (ι:=Int × Int × List Int) (fun i=>lR AA a0 y2 i.1 i.2.1 i.2.2.1 i.2.2.2=_) (fun i=>[(0,fEq (ptr p0)),(2,fSl tI y2),(3,fI i.2.1),(32,fSl tI y2),(33,fI (y2.length:Int)),(34,fI i.2.2.1)]) (fun i=>[aA p0 150 [fI a0.AB.AH,fSl aE a0.AB.AD,fSl aF a0.AB.Code,fI a0.AB.AG,fSl tI a0.AU,fEq v6,fEq (.map (some b1)),fEq v3],bK bG (fun y=>fSt aZ y) b1 a0.AK,aB v6 3 tI i.2.2.2,aB v3 3 tI a0.AT]) (AA,0,0,y6) H (fun _ h=>nomatch h) ?_
 clear H;rintro k1 ⟨x6,x7,x8⟩ H;dsimp only at H ⊢;rw [lR]at H
 refine Z3 ?_
 refine aK ?_
 revert H;refine is (fun c1 H=>?_) fun c1 H=>?_
 revert H;refine B3z fun o2 H Hr2=>?_
 refine aO (fun i=>o2=Sum.inl i) (fun i=>[(0,fEq (ptr p0)),(2,fSl tI y2),(3,fI i.1),(32,fSl tI y2),(33,fI (y2.length:Int)),(34,fI x7)]) (fun i=>[aA p0 150 [fI a0.AB.AH,fSl aE a0.AB.AD,fSl aF a0.AB.Code,fI a0.AB.AG,fSl tI a0.AU,fEq v6,fEq (.map (some b1)),fEq v3],bK bG (fun y=>fSt aZ y) b1 a0.AK,aB v6 3 tI i.2,aB v3 3 tI a0.AT]) ?_ ?_
 revert H;refine B2z fun y7 h8 H=>?_
 revert H;refine B8z fun y8 h9 H=>?_
 rcases y8 with y8 | pv2 <;> dsimp only at H
 refine Tc (aW _ _ h9).s ?_
 revert H;refine B1z fun o3 H Hr3=>?_
 refine aO (fun i=>o3=i) (fun i=>[(0,fEq (ptr p0)),(2,fSl tI y2),(3,fI i),(32,fSl tI y2),(33,fI (y2.length:Int)),(34,fI x7),(5,fI y7)]) (fun i=>[aA p0 150 [fI a0.AB.AH,fSl aE a0.AB.AD,fSl aF a0.AB.Code,fI a0.AB.AG,fSl tI a0.AU,fEq v6,fEq (.map (some b1)),fEq v3],bK bG (fun y=>fSt aZ y) b1 a0.AK,aB v6 3 tI x8,aB v3 3 tI a0.AT]) ?_ ?_
 refine Z1 ?_
 refine Th (ι:=Int) (fun i=>nM a0 i.1 i.2=_) (fun i=>[(0,fEq (ptr p0)),(2,fSl tI y2),(3,fI i.2),(32,fSl tI y2),(33,fI (y2.length:Int)),(34,fI x7),(5,fI y7)]) (fun i=>[aA p0 150 [fI a0.AB.AH,fSl aE a0.AB.AD,fSl aF a0.AB.Code,fI a0.AB.AG,fSl tI a0.AU,fEq v6,fEq (.map (some b1)),fEq v3],bK bG (fun y=>fSt aZ y) b1 a0.AK,aB v6 3 tI x8,aB v3 3 tI a0.AT]) (AA,x6) H (fun _ h=>nomatch h) ?_
 clear H;rintro k2 x13 H;dsimp only at H ⊢;rw [nM]at H
 refine aK ?_
 revert H;refine I10z (fun c2 H=>?_) fun c2 H=>?_
 revert H;refine B6z fun y9 h10 H=>?_
 revert H;refine I6z (fun c3 H=>?_) fun c3 H=>?_
 revert H;refine B6z fun z1 h11 H=>?_
 refine Z5 ?_
 exact Tm ((k2,z1)) ⟨H,ls⟩
 refine Z6 ?_
 exact Tm (x13) (ij H)
 refine Z12 ?_
 refine Z6 ?_
 exact Tm (x13) (ij H)
 rintro x11 hi;subst o3;replace H:=Hr3;clear Hr3;try dsimp only at H ⊢
 revert H;refine B9z fun y10 h12 H=>?_
 rcases y10 with y10 | pv3 <;> dsimp only at H
 refine Tc (aW _ _ h12).s ?_
 revert H;refine B1z fun o4 H Hr4=>?_
 refine aO (fun i=>o4=i) (fun i=>[(0,fEq (ptr p0)),(2,fSl tI y2),(3,fI x11),(32,fSl tI y2),(33,fI (y2.length:Int)),(34,fI x7)]) (fun i=>[aA p0 150 [fI a0.AB.AH,fSl aE a0.AB.AD,fSl aF a0.AB.Code,fI a0.AB.AG,fSl tI a0.AU,fEq v6,fEq (.map (some b1)),fEq v3],bK bG (fun y=>fSt aZ y) b1 a0.AK,aB v6 3 tI i,aB v3 3 tI a0.AT]) ?_ ?_
 refine Z5 ?_
 refine Th (ι:=Int × List Int) (fun i=>pC x11 i.1 i.2.1 i.2.2=_) (fun i=>[(0,fEq (ptr p0)),(2,fSl tI y2),(3,fI x11),(32,fSl tI y2),(33,fI (y2.length:Int)),(34,fI x7),(6,fI i.2.1)]) (fun i=>[aA p0 150 [fI a0.AB.AH,fSl aE a0.AB.AD,fSl aF a0.AB.Code,fI a0.AB.AG,fSl tI a0.AU,fEq v6,fEq (.map (some b1)),fEq v3],bK bG (fun y=>fSt aZ y) b1 a0.AK,aB v6 3 tI i.2.2,aB v3 3 tI a0.AT]) (AA,y7,x8) H (fun _ h=>nomatch h) ?_
 clear H;rintro k3 ⟨x17,x18⟩ H;dsimp only at H ⊢;rw [pC]at H
 refine aK ?_
 revert H;refine I5z (fun c4 H=>?_) fun c4 H=>?_
 refine Z3 ?_
 refine aK ?_
 revert H;refine B8z fun y11 h13 H=>?_
 refine Z1 ?_
 refine aQ ?_
 refine aAJ (z':=x11) a1I rfl rfl rfl (has rfl) (has rfl) (aD a1I) (sz rfl) (dU h13) rfl rfl ?_
 revert H;refine B5z fun z2 h14 H=>?_
 refine Z3 ?_
 refine aC [1,2,0,3] (by decide) ?_
 exact Tm ((k3,z2,x18.set x17.toNat x11)) ⟨H,ls⟩
 refine Z6 ?_
 exact Tm (x18) (ij H)
 rintro x14 hi;subst o4;replace H:=Hr4;clear Hr4;try dsimp only at H ⊢
 revert H;refine B2z fun z3 h15 H=>?_
 refine Z5 ?_
 exact Tm ((z3,x14)) (ij H)
 refine Tp (aW _ _ h12).pan ?_
 revert H;refine B3z fun r1 H e1=>?_
 cases e1;cases Hr2
 revert H;refine B3z fun r2 H e2=>?_
 cases e2;cases Hr1
 cases H
 exact bC
 refine Tp (aW _ _ h9).pan ?_
 revert H;refine B3z fun r3 H e3=>?_
 cases e3;cases Hr2
 revert H;refine B3z fun r4 H e4=>?_
 cases e4;cases Hr1
 cases H
 exact bC
 rintro⟨x9,x10⟩ hi;subst o2;replace H:=Hr2;clear Hr2;try dsimp only at H ⊢
 revert H;refine B1z fun z4 h16 H=>?_
 refine Z3 ?_
 exact Tm ((k1,x9,z4,x10)) ⟨H,ls⟩
 refine Z6 ?_
 exact Tm ((x6,x8)) (ij H)
 rintro⟨x1,x2⟩ hi;subst o1;replace H:=Hr1;clear Hr1;try dsimp only at H ⊢
 refine B9 H fun y12 h17 H=>?_
 rcases y12 with y12 | pv4 <;> dsimp only at H
 refine Tc (aW _ _ h17).s ?_
 refine Z6 ?_
 refine bJ (φs':=[fI a0.AB.AH,fSl aE a0.AB.AD,fSl aF a0.AB.Code,fI a0.AB.AG,fSl tI y2,fEq v6,fEq (.map (some b1)),fEq v3]) a1I rfl rfl (has rfl) (has rfl) (cA) (sz rfl) rfl rfl ?_
 refine Z1 ?_
 refine aP ?_
 refine cX ?_
 refine bD ?_
 refine aP ?_
 refine bD ?_
 refine bD ?_
 refine cW ?_
 cases H
 refine gP ?_
 exact cV (.inr rfl) rfl rfl
 refine Tp (aW _ _ h17).pan ?_
 refine Z1 ?_
 cases H
 exact bC
 refine Tp (aW _ _ h6).pan ?_
 refine Z1 ?_
 cases H
 exact bC
def kG (a0:AR) (a1:Int) (a2:AJ):Option (AR ⊕ Value):=
 bif (a0.AK.get a1).isSome then
  (bR (decide ((((a0.AK.get a1).getD (⟨0,0⟩:AJ)).AM)=a2.AM) && decide ((((a0.AK.get a1).getD (⟨0,0⟩:AJ)).AS)=a2.AS))).bind fun y1=>
  match y1 with
  | Sum.inr pv1=>some (Sum.inr pv1)
  | Sum.inl y1=>
  some (Sum.inl (⟨(⟨a0.AB.AH,a0.AB.AD,a0.AB.Code,a0.AB.AG⟩:AB),a0.AU,a0.last,a0.AK,a0.AT⟩:AR))
 else
  (cY (a0.AT++[a1])).bind fun z1=>
  some (Sum.inl (⟨(⟨a0.AB.AH,a0.AB.AD,a0.AB.Code,a0.AB.AG⟩:AB),a0.AU,a0.last,aI.upd a0.AK a1 (⟨a2.AM,a2.AS⟩:AJ),z1⟩:AR))
theorem iL (p0:Nat) (a0:AR) (a1:Int) (a2:AJ) (r:AR ⊕ Value) (H:kG a0 a1 a2=some r):FnE Tryz.prog 97 [fEq (.pointer (some ⟨p0,0,none⟩)),fI a1,fSt aZ a2] [dC p0 a0] r (fun r=>dI []) (fun r=>[dC p0 r]):=by
 unfold kG at H
 refine iR Tryz.func97 rfl Tryz.ntmps97 rfl (fun β=>?_)
 refine dG (fun v1 v2 v3=>?_)
 refine aQ ?_
 refine dF (fun b1 h1=>?_);subst h1
 refine rc 2 fun _=>?_
 refine rc 3 fun _=>?_
 refine Z1 ?_
 refine Tn (cG rfl hh bW) fun b2=>?_
 refine Z1 ?_
 refine aK ?_
 refine Z6 ?_
 refine Yo 1 rfl (aGS (zα:=(⟨0,0⟩:AJ)) (k:=a1) rfl hh hh rfl aAx (uJ [(.int .i64 0),(.int .i64 0)])) ?_
 refine Z3 ?_
 refine Tn (bU rfl aB6 rfl) fun b3=>?_
 refine bT (φs':=[fI (((a0.AK.get a1).getD (⟨0,0⟩:AJ)).AM),fI (((a0.AK.get a1).getD (⟨0,0⟩:AJ)).AS)]) a1I rfl rfl (has rfl) (has rfl) (aH (aD a1I) (aH (aD a1I) bL)) (sz rfl) rfl rfl rfl ?_
 refine Z5 ?_
 refine cz H (fun c1 H=>?_) fun c1 H=>?_
 refine Z4 ?_
 refine Yy (o_eqSt2 (t:=aZ) (u:=(⟨((a0.AK.get a1).getD (⟨0,0⟩:AJ)).AM,((a0.AK.get a1).getD (⟨0,0⟩:AJ)).AS⟩:AJ)) (v:=a2) rfl hh hh rfl rfl aFZ) ?_
 refine bz H fun y1 h2 H=>?_
 rcases y1 with y1 | pv1 <;> dsimp only at H
 refine Tc (aW _ _ h2).s ?_
 refine Z2 ?_
 refine aQ ?_
 refine cX ?_
 refine gE ?_
 refine aP ?_
 refine gE ?_
 refine gE ?_
 refine cW ?_
 cases H
 refine gP ?_
 refine aC [0] (by decide) ?_
 exact cV (.inl rfl) rfl rfl
 refine Tp (aW _ _ h2).pan ?_
 refine Z2 ?_
 cases H
 exact bC
 refine Z3 ?_
 refine aK ?_
 apply bQ (ods:=[_,_,_,_,_,_]) 6 0 6 bM rfl rfl rfl
 refine ND ?_
 refine M6 ?_
 intros
 refine Z1 ?_
 refine aQ ?_
 refine aBE (k:=a1) (y:=a2) a1I (.inl rfl) rfl (has rfl) (has rfl) rfl (has rfl) rfl aAx ?_
 refine Z8 ?_
 refine Tn (cE (t:=tI) (xs:=[a1]) rfl (et rfl) (aX.cons rfl (has rfl) (bO (aD a1I)) aX.nil) rfl rfl rfl) fun b4=>?_
 generalize (Value.slice (some ⟨b4,0,none⟩) _ _)=v4
 refine rc 0 fun _=>?_
 refine bz H fun z1 h3 H=>?_
 refine qR ?_
 refine aP ?_
 refine gJ a1I rfl rfl rfl (has rfl) (has rfl) (et rfl) rfl h3 (fun v5=>?_)
 refine rc 0 fun hc_v5=>?_
 refine Z2 ?_
 refine aR ?_
 refine bJ (φs':=[fI a0.AB.AH,fSl aE a0.AB.AD,fSl aF a0.AB.Code,fI a0.AB.AG,fSl tI a0.AU,fEq v1,fEq (.map (some b1)),fEq v5]) a1I rfl rfl (has rfl) (has rfl) (aD hc_v5) (sz rfl) rfl rfl ?_
 refine Z1 ?_
 refine aQ ?_
 refine cX ?_
 refine aQ ?_
 refine aP ?_
 refine gE ?_
 refine bD ?_
 refine cW ?_
 cases H
 refine gP ?_
 refine aC [0] (by decide) ?_
 exact cV (.inr rfl) rfl rfl
 exact fk
 kernel_rfl
def lH (a0:AJ) (a1:Int) (a2:Int):Option (AJ ⊕ Value):=
 (bR (decide (a1<=a0.AM))).bind fun y1=>
 match y1 with
 | Sum.inr pv1=>some (Sum.inr pv1)
 | Sum.inl y1=>
 (chk (a0.AM - a1)).bind fun z1=>
 (chk (z1+a2)).bind fun z2=>
 some (Sum.inl (⟨z2,a0.AS⟩:AJ))
theorem kZ  (a0:AJ) (a1:Int) (a2:Int) (r:AJ ⊕ Value) (H:lH a0 a1 a2=some r):FnE Tryz.prog 130 [fSt aZ a0,fI a1,fI a2] [] r (fun r=>fSt aZ r) (fun r=>[]):=by
 unfold lH at H
 refine iR Tryz.func130 rfl Tryz.ntmps130 rfl (fun β=>?_)
 refine Z1 ?_
 refine Tn (cG rfl hh bW) fun b1=>?_
 refine Tn (bU rfl aB6 rfl) fun b2=>?_
 refine B6 H fun y1 h1 H=>?_
 rcases y1 with y1 | pv1 <;> dsimp only at H
 refine Tc (aW _ _ h1).s ?_
 refine B5 H fun z1 h2 H=>?_
 refine B2 H fun z2 h3 H=>?_
 refine Z3 ?_
 refine Yy (dJ (ψs:=[fI z2,fI a0.AS]) rfl nW rfl (bE.cons (has rfl) (bO (aD a1I)) (bE.cons (has rfl) (bO (aD a1I)) bE.nil)) rfl) ?_
 refine bT (φs':=[fI z2,fI a0.AS]) a1I rfl rfl (has rfl) (has rfl) (aH (aD a1I) (aH (aD a1I) bL)) (sz rfl) rfl rfl rfl ?_
 refine Z2 ?_
 cases H
 refine gP ?_
 refine aC [0] (by decide) ?_
 exact aBW rfl (ag rfl) rfl (cM rfl) Ent.rfl rfl
 refine Tp (aW _ _ h1).pan ?_
 refine Z1 ?_
 cases H
 exact bC
def pM (a1:AO) (a2:Int):Nat->Int->Int->(List AO)->(List AL)->Int->(List Int)->(List Int)->(aI Int AJ)->(List Int)->Option ((Int × List AO × List AL × Int × List Int × List Int × aI Int AJ × List Int) ⊕ (AR ⊕ Value))
| 0,_,_,_,_,_,_,_,_,_=>none
| k+1,x18,x19,x20,x21,x22,x23,x24,x25,x26=>
 if x18<(a1.AN.length:Int)then
  (idx a1.AN x18).bind fun y1=>
  (kG (⟨(⟨x19,x20,x21,x22⟩:AB),x23,x24,x25,x26⟩:AR) y1.AV (⟨0,a2⟩:AJ)).bind fun y2=>
  match y2 with
  | Sum.inr pv1=>(some (Sum.inr pv1)).bind fun r=>some (Sum.inr r)
  | Sum.inl y2=>
  (chk (x18+1)).bind fun z1=>
  pM a1 a2 k z1 y2.AB.AH y2.AB.AD y2.AB.Code y2.AB.AG y2.AU y2.last y2.AK y2.AT
 else
  some (Sum.inl (x19,x20,x21,x22,x23,x24,x25,x26))
def qH (a1:AO) (y3:AZ):Nat->Int->Int->Option (Int)
| 0,_,_=>none
| k+1,x56,x57=>
 if x57<(y3.AX.length:Int)then
  (idx y3.AX x57).bind fun y4=>
  (idx a1.AQ y4).bind fun y5=>
  (chk (x56+y5.Ae)).bind fun z2=>
  (chk (x57+1)).bind fun z3=>
  qH a1 y3 k z2 z3
 else
  some x56
def pB (AA:Nat) (a1:AO) (a2:Int):Nat->Int->Int->(List AO)->(List AL)->Int->(List Int)->(List Int)->(aI Int AJ)->(List Int)->Option (AR ⊕ Value)
| 0,_,_,_,_,_,_,_,_,_=>none
| k+1,x36,x37,x38,x39,x40,x41,x42,x43,x44=>
 if x36<(a1.AP.length:Int)then
  ((idx a1.AP x36).bind fun y3=>
  (qH a1 y3 AA 0 0).bind fun x53=>
  (chk (a2+x53)).bind fun z4=>
  (kG (⟨(⟨x37,x38,x39,x40⟩:AB),x41,x42,x43,x44⟩:AR) y3.AV (⟨0,z4⟩:AJ)).bind fun y6=>
  match y6 with
  | Sum.inr pv2=>(some (Sum.inr pv2)).bind fun r=>some (Sum.inr r)
  | Sum.inl y6=>
  some (Sum.inl (y6.AB.AH,y6.AB.AD,y6.AB.Code,y6.AB.AG,y6.AU,y6.last,y6.AK,y6.AT))).bind fun o=>match o with
  | Sum.inr r=>some r
  | Sum.inl (x45,x46,x47,x48,x49,x50,x51,x52)=>
  (chk (x36+1)).bind fun z5=>
  pB AA a1 a2 k z5 x45 x46 x47 x48 x49 x50 x51 x52
 else
  some (Sum.inl (⟨(⟨x37,x38,x39,x40⟩:AB),x41,x42,x43,x44⟩:AR))
def xX (AA:Nat) (a0:AR) (a1:AO) (a2:Int):Option (AR ⊕ Value):=
 (pM a1 a2 AA 0 a0.AB.AH a0.AB.AD a0.AB.Code a0.AB.AG a0.AU a0.last a0.AK a0.AT).bind fun o=>match o with
 | Sum.inr r=>some r
 | Sum.inl (x1,x2,x3,x4,x5,x6,x7,x8)=>
 pB AA a1 a2 AA 0 x1 x2 x3 x4 x5 x6 x7 x8
theorem aCG (AA:Nat) (p0:Nat) (a0:AR) (a1:AO) (a2:Int) (r:AR ⊕ Value) (H:xX AA a0 a1 a2=some r):FnE Tryz.prog 131 [fEq (.pointer (some ⟨p0,0,none⟩)),fSt aE a1,fI a2] [dC p0 a0] r (fun r=>dI []) (fun r=>[dC p0 r]):=by
 unfold xX at H
 refine iR Tryz.func131 rfl Tryz.ntmps131 rfl (fun β=>?_)
 refine dG (fun v1 v2 v3=>?_)
 refine aQ ?_
 refine dF (fun b1 h1=>?_);subst h1
 refine rc 2 fun _=>?_
 refine rc 3 fun _=>?_
 refine Z1 ?_
 refine Tn (cG rfl hh bW) fun b2=>?_
 revert H;refine B1z fun o1 H Hr1=>?_
 refine aO (ι:=Int × List AO × List AL × Int × List Int × List Int × aI Int AJ × List Int × Value × Nat × Value) (fun i=>o1=Sum.inl (i.1,i.2.1,i.2.2.1,i.2.2.2.1,i.2.2.2.2.1,i.2.2.2.2.2.1,i.2.2.2.2.2.2.1,i.2.2.2.2.2.2.2.1)) (fun i=>[(0,fEq (ptr p0)),(2,fI a2),(4,fEq (ptr b2))]) (fun i=>[aA b2 78 [fSl aS a1.AQ,fSl aV a1.AN,fSl aY a1.AP],aA p0 150 [fI i.1,fSl aE i.2.1,fSl aF i.2.2.1,fI i.2.2.2.1,fSl tI i.2.2.2.2.1,fEq i.2.2.2.2.2.2.2.2.1,fEq (.map (some i.2.2.2.2.2.2.2.2.2.1)),fEq i.2.2.2.2.2.2.2.2.2.2],bK bG (fun y=>fSt aZ y) i.2.2.2.2.2.2.2.2.2.1 i.2.2.2.2.2.2.1,aB i.2.2.2.2.2.2.2.2.1 3 tI i.2.2.2.2.2.1,aB i.2.2.2.2.2.2.2.2.2.2 3 tI i.2.2.2.2.2.2.2.1]) ?_ ?_
 refine Z7 ?_
 refine aC [0,2,1,3,4] (by decide) ?_
 refine Th (ι:=Int × Int × List AO × List AL × Int × List Int × List Int × aI Int AJ × List Int × Value × Nat × Value) (fun i=>pM a1 a2 i.1 i.2.1 i.2.2.1 i.2.2.2.1 i.2.2.2.2.1 i.2.2.2.2.2.1 i.2.2.2.2.2.2.1 i.2.2.2.2.2.2.2.1 i.2.2.2.2.2.2.2.2.1 i.2.2.2.2.2.2.2.2.2.1=_) (fun i=>[(0,fEq (ptr p0)),(2,fI a2),(4,fEq (ptr b2)),(14,fSl aV a1.AN),(15,fI (a1.AN.length:Int)),(16,fI i.2.1)]) (fun i=>[aA b2 78 [fSl aS a1.AQ,fSl aV a1.AN,fSl aY a1.AP],aA p0 150 [fI i.2.2.1,fSl aE i.2.2.2.1,fSl aF i.2.2.2.2.1,fI i.2.2.2.2.2.1,fSl tI i.2.2.2.2.2.2.1,fEq i.2.2.2.2.2.2.2.2.2.2.1,fEq (.map (some i.2.2.2.2.2.2.2.2.2.2.2.1)),fEq i.2.2.2.2.2.2.2.2.2.2.2.2],bK bG (fun y=>fSt aZ y) i.2.2.2.2.2.2.2.2.2.2.2.1 i.2.2.2.2.2.2.2.2.1,aB i.2.2.2.2.2.2.2.2.2.2.1 3 tI i.2.2.2.2.2.2.2.1,aB i.2.2.2.2.2.2.2.2.2.2.2.2 3 tI i.2.2.2.2.2.2.2.2.2.1]) (AA,0,a0.AB.AH,a0.AB.AD,a0.AB.Code,a0.AB.AG,a0.AU,a0.last,a0.AK,a0.AT,v1,b1,v3) H (fun _ h=>nomatch h) ?_
 clear H;rintro k1 ⟨x18,x19,x20,x21,x22,x23,x24,x25,x26,v8,b5,v9⟩ H;dsimp only at H ⊢;rw [pM]at H
 refine rc 3 fun _=>?_
 refine rc 4 fun _=>?_
 refine Z3 ?_
 refine aK ?_
 revert H;refine is (fun c1 H=>?_) fun c1 H=>?_
 refine Z3 ?_
 refine aK ?_
 revert H;refine B2z fun y1 h2 H=>?_
 refine Z2 ?_
 refine Tn (bU rfl aAd rfl) fun b6=>?_
 refine bT (φs':=[fI y1.In,fI y1.AV]) a1I rfl rfl (has rfl) (has rfl) (aH (aD a1I) (aH (aD a1I) bL)) (sz rfl) rfl rfl rfl ?_
 refine Z6 ?_
 refine Yy (dJ (ψs:=[fI 0,fI a2]) rfl nW rfl (bE.cons (has rfl) (bO (aD a1I)) bE.nil) rfl) ?_
 refine bD ?_
 refine cX ?_
 refine gE ?_
 refine aP ?_
 refine gE ?_
 refine gE ?_
 refine cW ?_
 revert H;refine bs fun y2 h3 H=>?_
 rcases y2 with y2 | pv1 <;> dsimp only at H
 refine Tc (iL _ _ _ _ _ h3).s ?_
 refine dG (fun v10 v11 v12=>?_)
 refine aQ ?_
 refine dF (fun b7 h4=>?_);subst h4
 refine rc 2 fun _=>?_
 refine rc 3 fun _=>?_
 revert H;refine B4z fun z1 h5 H=>?_
 refine Z3 ?_
 refine aC [5,1,0,2,3] (by decide) ?_
 exact Tm ((k1,z1,y2.AB.AH,y2.AB.AD,y2.AB.Code,y2.AB.AG,y2.AU,y2.last,y2.AK,y2.AT,v10,b7,v12)) ⟨H,ls⟩
 refine Tp (iL _ _ _ _ _ h3).pan ?_
 revert H;refine B5z fun r1 H e1=>?_
 cases e1;cases Hr1
 cases H
 exact bC
 refine Z6 ?_
 exact Tm ((x19,x20,x21,x22,x23,x24,x25,x26,v8,b5,v9)) (ij H)
 rintro⟨x1,x2,x3,x4,x5,x6,x7,x8,v4,b3,v5⟩ hi;subst o1;replace H:=Hr1;clear Hr1;try dsimp only at H ⊢
 refine rc 3 fun _=>?_
 refine rc 4 fun _=>?_
 refine Z7 ?_
 refine Th (ι:=Int × Int × List AO × List AL × Int × List Int × List Int × aI Int AJ × List Int × Value × Nat × Value) (fun i=>pB AA a1 a2 i.1 i.2.1 i.2.2.1 i.2.2.2.1 i.2.2.2.2.1 i.2.2.2.2.2.1 i.2.2.2.2.2.2.1 i.2.2.2.2.2.2.2.1 i.2.2.2.2.2.2.2.2.1 i.2.2.2.2.2.2.2.2.2.1=_) (fun i=>[(0,fEq (ptr p0)),(2,fI a2),(4,fEq (ptr b2)),(28,fSl aY a1.AP),(29,fI (a1.AP.length:Int)),(30,fI i.2.1)]) (fun i=>[aA b2 78 [fSl aS a1.AQ,fSl aV a1.AN,fSl aY a1.AP],aA p0 150 [fI i.2.2.1,fSl aE i.2.2.2.1,fSl aF i.2.2.2.2.1,fI i.2.2.2.2.2.1,fSl tI i.2.2.2.2.2.2.1,fEq i.2.2.2.2.2.2.2.2.2.2.1,fEq (.map (some i.2.2.2.2.2.2.2.2.2.2.2.1)),fEq i.2.2.2.2.2.2.2.2.2.2.2.2],bK bG (fun y=>fSt aZ y) i.2.2.2.2.2.2.2.2.2.2.2.1 i.2.2.2.2.2.2.2.2.1,aB i.2.2.2.2.2.2.2.2.2.2.1 3 tI i.2.2.2.2.2.2.2.1,aB i.2.2.2.2.2.2.2.2.2.2.2.2 3 tI i.2.2.2.2.2.2.2.2.2.1]) (AA,0,x1,x2,x3,x4,x5,x6,x7,x8,v4,b3,v5) H (fun _ h=>nomatch h) ?_
 clear H;rintro k2 ⟨x36,x37,x38,x39,x40,x41,x42,x43,x44,v15,b9,v16⟩ H;dsimp only at H ⊢;rw [pB]at H
 refine rc 3 fun _=>?_
 refine rc 4 fun _=>?_
 refine Z3 ?_
 refine aK ?_
 refine iz H (fun c2 H=>?_) fun c2 H=>?_
 revert H;refine B3z fun o2 H Hr2=>?_
 refine aO (ι:=Int × List AO × List AL × Int × List Int × List Int × aI Int AJ × List Int × Value × Nat × Value) (fun i=>o2=Sum.inl (i.1,i.2.1,i.2.2.1,i.2.2.2.1,i.2.2.2.2.1,i.2.2.2.2.2.1,i.2.2.2.2.2.2.1,i.2.2.2.2.2.2.2.1)) (fun i=>[(0,fEq (ptr p0)),(2,fI a2),(4,fEq (ptr b2)),(28,fSl aY a1.AP),(29,fI (a1.AP.length:Int)),(30,fI x36)]) (fun i=>[aA p0 150 [fI i.1,fSl aE i.2.1,fSl aF i.2.2.1,fI i.2.2.2.1,fSl tI i.2.2.2.2.1,fEq i.2.2.2.2.2.2.2.2.1,fEq (.map (some i.2.2.2.2.2.2.2.2.2.1)),fEq i.2.2.2.2.2.2.2.2.2.2],aA b2 78 [fSl aS a1.AQ,fSl aV a1.AN,fSl aY a1.AP],bK bG (fun y=>fSt aZ y) i.2.2.2.2.2.2.2.2.2.1 i.2.2.2.2.2.2.1,aB i.2.2.2.2.2.2.2.2.1 3 tI i.2.2.2.2.2.1,aB i.2.2.2.2.2.2.2.2.2.2 3 tI i.2.2.2.2.2.2.2.1]) ?_ ?_
 revert H;refine B2z fun y3 h6 H=>?_
 refine Z2 ?_
 refine Tn (bU rfl mK rfl) fun b11=>?_
 refine bT (φs':=[fI y3.At,fSl tI y3.AX,fI y3.AV]) a1I rfl rfl (has rfl) (has rfl) (aH (aD a1I) (aH (cA) (aH (aD a1I) bL))) (sz rfl) rfl rfl rfl ?_
 revert H;refine B4z fun o3 H Hr3=>?_
 refine aO (fun i=>o3=i) (fun i=>[(0,fEq (ptr p0)),(2,fI a2),(4,fEq (ptr b2)),(28,fSl aY a1.AP),(29,fI (a1.AP.length:Int)),(30,fI x36),(9,fEq (ptr b11)),(10,fI i)]) (fun i=>[aA b11 84 [fI y3.At,fSl tI y3.AX,fI y3.AV],aA b2 78 [fSl aS a1.AQ,fSl aV a1.AN,fSl aY a1.AP],aA p0 150 [fI x37,fSl aE x38,fSl aF x39,fI x40,fSl tI x41,fEq v15,fEq (.map (some b9)),fEq v16],bK bG (fun y=>fSt aZ y) b9 x43,aB v15 3 tI x42,aB v16 3 tI x44]) ?_ ?_
 refine Z7 ?_
 refine Th (ι:=Int × Int) (fun i=>qH a1 y3 i.1 i.2.1 i.2.2=_) (fun i=>[(0,fEq (ptr p0)),(2,fI a2),(4,fEq (ptr b2)),(28,fSl aY a1.AP),(29,fI (a1.AP.length:Int)),(30,fI x36),(9,fEq (ptr b11)),(10,fI i.2.1),(35,fSl tI y3.AX),(36,fI (y3.AX.length:Int)),(37,fI i.2.2)]) (fun i=>[aA b11 84 [fI y3.At,fSl tI y3.AX,fI y3.AV],aA b2 78 [fSl aS a1.AQ,fSl aV a1.AN,fSl aY a1.AP],aA p0 150 [fI x37,fSl aE x38,fSl aF x39,fI x40,fSl tI x41,fEq v15,fEq (.map (some b9)),fEq v16],bK bG (fun y=>fSt aZ y) b9 x43,aB v15 3 tI x42,aB v16 3 tI x44]) (AA,0,0) H (fun _ h=>nomatch h) ?_
 clear H;rintro k3 ⟨x56,x57⟩ H;dsimp only at H ⊢;rw [qH]at H
 refine Z3 ?_
 refine aK ?_
 revert H;refine is (fun c3 H=>?_) fun c3 H=>?_
 refine Z3 ?_
 refine aK ?_
 revert H;refine B2z fun y4 h7 H=>?_
 revert H;refine B9z fun y5 h8 H=>?_
 revert H;refine B3z fun z2 h9 H=>?_
 revert H;refine B6z fun z3 h10 H=>?_
 refine Z3 ?_
 exact Tm ((k3,z2,z3)) ⟨H,ls⟩
 refine Z6 ?_
 exact Tm (x56) (ij H)
 rintro x53 hi;subst o3;replace H:=Hr3;clear Hr3;try dsimp only at H ⊢
 revert H;refine B6z fun z4 h11 H=>?_
 refine Z1 ?_
 refine Yy (dJ (ψs:=[fI 0,fI z4]) rfl nW rfl (bE.cons (has rfl) (bO (aD a1I)) bE.nil) rfl) ?_
 refine bD ?_
 refine cX ?_
 refine gE ?_
 refine aP ?_
 refine gE ?_
 refine gE ?_
 refine cW ?_
 revert H;refine bs fun y6 h12 H=>?_
 rcases y6 with y6 | pv2 <;> dsimp only at H
 refine Tc (iL _ _ _ _ _ h12).s ?_
 refine dG (fun v19 v20 v21=>?_)
 refine aQ ?_
 refine dF (fun b12 h13=>?_);subst h13
 refine rc 2 fun _=>?_
 refine rc 3 fun _=>?_
 refine Z3 ?_
 refine aC [1,5,0,2,3] (by decide) ?_
 exact Tm ((y6.AB.AH,y6.AB.AD,y6.AB.Code,y6.AB.AG,y6.AU,y6.last,y6.AK,y6.AT,v19,b12,v21)) (ij H)
 refine Tp (iL _ _ _ _ _ h12).pan ?_
 revert H;refine B2z fun r2 H e2=>?_
 cases e2;cases Hr2
 refine Z2 ?_
 cases H
 exact bC
 rintro⟨x45,x46,x47,x48,x49,x50,x51,x52,v17,b10,v18⟩ hi;subst o2;replace H:=Hr2;clear Hr2;try dsimp only at H ⊢
 refine rc 3 fun _=>?_
 refine rc 4 fun _=>?_
 refine B1 H fun z5 h14 H=>?_
 refine Z3 ?_
 refine aC [1,0,2,3,4] (by decide) ?_
 exact Tm ((k2,z5,x45,x46,x47,x48,x49,x50,x51,x52,v17,b10,v18)) ⟨H,ls⟩
 refine Z5 ?_
 refine aQ ?_
 refine cX ?_
 refine aR ?_
 refine aP ?_
 refine aR ?_
 refine aR ?_
 refine cW ?_
 cases H
 refine gP ?_
 refine aC [0] (by decide) ?_
 exact cV (.inr rfl) rfl rfl
open Go.SX Go.SW Go.Dt
def pP (w0:AL) (w1:AJ):Option (AJ ⊕ Value):=
 (bR (decide (w0.A<w1.AS))).bind fun y1=>
 match y1 with
 | Sum.inr pv1=>some (Sum.inr pv1)
 | Sum.inl y1=>
 some (Sum.inl (⟨w1.AM,w1.AS⟩:AJ))
theorem sJ (q1:Nat) (w0:AL) (w1:AJ) (r:AJ ⊕ Value) (H:pP w0 w1=some r):FnE Tryz.prog 128 [bV aF w0,fEq (.pointer (some ⟨q1,0,none⟩))] [qJ q1 w1] r (fun r=>dI []) (fun r=>[qJ q1 r]):=by
 unfold pP at H
 refine iR Tryz.func128 rfl Tryz.ntmps128 rfl (fun β=>?_)
 refine lY ?_
 refine B6 H fun y1 h1 H=>?_
 rcases y1 with y1 | pv1 <;> dsimp only at H
 refine Tc (aW _ _ h1).s ?_
 refine Z1 ?_
 refine mG ?_
 cases H
 refine gP ?_
 exact cV (.inr rfl) rfl rfl
 refine Tp (aW _ _ h1).pan ?_
 cases H
 exact bC
def oF (w0:AJ):Option (AJ ⊕ Value):=
 (bR (decide (w0.AM=0))).bind fun y1=>
 match y1 with
 | Sum.inr pv1=>some (Sum.inr pv1)
 | Sum.inl y1=>
 some (Sum.inl (⟨w0.AM,w0.AS⟩:AJ))
theorem mN (q0:Nat) (w0:AJ) (r:AJ ⊕ Value) (H:oF w0=some r):FnE Tryz.prog 129 [fEq (.pointer (some ⟨q0,0,none⟩))] [qJ q0 w0] r (fun r=>dI []) (fun r=>[qJ q0 r]):=by
 unfold oF at H
 refine iR Tryz.func129 rfl Tryz.ntmps129 rfl (fun β=>?_)
 refine lY ?_
 refine B4 H fun y1 h1 H=>?_
 rcases y1 with y1 | pv1 <;> dsimp only at H
 refine Tc (aW _ _ h1).s ?_
 refine Z1 ?_
 refine mG ?_
 cases H
 refine gP ?_
 exact cV (.inr rfl) rfl rfl
 refine Tp (aW _ _ h1).pan ?_
 cases H
 exact bC
def tB (AA:Nat) (a0:AR) (a1:Int):Option (AR ⊕ Value):=
 (idx a0.AB.Code a1).bind fun y1=>
 (if ((⟨y1.Op,y1.A,y1.B⟩:AL).Op)=1 then
  (lH (⟨((a0.AK.get a1).getD (⟨0,0⟩:AJ)).AM,((a0.AK.get a1).getD (⟨0,0⟩:AJ)).AS⟩:AJ) 0 1).bind fun y2=>
  match y2 with
  | Sum.inr pv1=>(some (Sum.inr pv1)).bind fun r=>some (Sum.inr r)
  | Sum.inl y2=>
  some (Sum.inl (y2.AM,y2.AS,a0.AB.AH,a0.AB.AD,a0.AB.Code,a0.AB.AG,a0.AU,a0.last,a0.AK,a0.AT))
 else
  if ((⟨y1.Op,y1.A,y1.B⟩:AL).Op)=2 then
   (pP (⟨y1.Op,y1.A,y1.B⟩:AL) (⟨((a0.AK.get a1).getD (⟨0,0⟩:AJ)).AM,((a0.AK.get a1).getD (⟨0,0⟩:AJ)).AS⟩:AJ)).bind fun y3=>
   match y3 with
   | Sum.inr pv2=>(some (Sum.inr pv2)).bind fun r=>some (Sum.inr r)
   | Sum.inl y3=>
   (lH (⟨y3.AM,y3.AS⟩:AJ) 0 1).bind fun y4=>
   match y4 with
   | Sum.inr pv3=>(some (Sum.inr pv3)).bind fun r=>some (Sum.inr r)
   | Sum.inl y4=>
   some (Sum.inl (y4.AM,y4.AS,a0.AB.AH,a0.AB.AD,a0.AB.Code,a0.AB.AG,a0.AU,a0.last,a0.AK,a0.AT))
  else
   (if ((⟨y1.Op,y1.A,y1.B⟩:AL).Op)=3 then
    some (decide (((⟨y1.Op,y1.A,y1.B⟩:AL).Op)=3))
   else
    if ((⟨y1.Op,y1.A,y1.B⟩:AL).Op)=4 then
     some (decide (((⟨y1.Op,y1.A,y1.B⟩:AL).Op)=4))
    else
     if ((⟨y1.Op,y1.A,y1.B⟩:AL).Op)=5 then
      some (decide (((⟨y1.Op,y1.A,y1.B⟩:AL).Op)=5))
     else
      if ((⟨y1.Op,y1.A,y1.B⟩:AL).Op)=6 then
       some (decide (((⟨y1.Op,y1.A,y1.B⟩:AL).Op)=6))
      else
       some (decide (((⟨y1.Op,y1.A,y1.B⟩:AL).Op)=7))).bind fun x11=>
   bif x11 then
    (lH (⟨((a0.AK.get a1).getD (⟨0,0⟩:AJ)).AM,((a0.AK.get a1).getD (⟨0,0⟩:AJ)).AS⟩:AJ) 2 1).bind fun y5=>
    match y5 with
    | Sum.inr pv4=>(some (Sum.inr pv4)).bind fun r=>some (Sum.inr r)
    | Sum.inl y5=>
    some (Sum.inl (y5.AM,y5.AS,a0.AB.AH,a0.AB.AD,a0.AB.Code,a0.AB.AG,a0.AU,a0.last,a0.AK,a0.AT))
   else
    if ((⟨y1.Op,y1.A,y1.B⟩:AL).Op)=8 then
     (pP (⟨y1.Op,y1.A,y1.B⟩:AL) (⟨((a0.AK.get a1).getD (⟨0,0⟩:AJ)).AM,((a0.AK.get a1).getD (⟨0,0⟩:AJ)).AS⟩:AJ)).bind fun y6=>
     match y6 with
     | Sum.inr pv5=>(some (Sum.inr pv5)).bind fun r=>some (Sum.inr r)
     | Sum.inl y6=>
     (lH (⟨y6.AM,y6.AS⟩:AJ) ((⟨y1.Op,y1.A,y1.B⟩:AL).B) 0).bind fun y7=>
     match y7 with
     | Sum.inr pv6=>(some (Sum.inr pv6)).bind fun r=>some (Sum.inr r)
     | Sum.inl y7=>
     some (Sum.inl (y7.AM,y7.AS,a0.AB.AH,a0.AB.AD,a0.AB.Code,a0.AB.AG,a0.AU,a0.last,a0.AK,a0.AT))
    else
     if ((⟨y1.Op,y1.A,y1.B⟩:AL).Op)=9 then
      (lH (⟨((a0.AK.get a1).getD (⟨0,0⟩:AJ)).AM,((a0.AK.get a1).getD (⟨0,0⟩:AJ)).AS⟩:AJ) 1 0).bind fun y8=>
      match y8 with
      | Sum.inr pv7=>(some (Sum.inr pv7)).bind fun r=>some (Sum.inr r)
      | Sum.inl y8=>
      (idx a0.last a1).bind fun y9=>
      (bR (decide (((⟨y1.Op,y1.A,y1.B⟩:AL).A)<=y9))).bind fun y10=>
      match y10 with
      | Sum.inr pv8=>(some (Sum.inr pv8)).bind fun r=>some (Sum.inr r)
      | Sum.inl y10=>
      (kG (⟨(⟨a0.AB.AH,a0.AB.AD,a0.AB.Code,a0.AB.AG⟩:AB),a0.AU,a0.last,a0.AK,a0.AT⟩:AR) ((⟨y1.Op,y1.A,y1.B⟩:AL).A) (⟨y8.AM,y8.AS⟩:AJ)).bind fun y11=>
      match y11 with
      | Sum.inr pv9=>(some (Sum.inr pv9)).bind fun r=>some (Sum.inr r)
      | Sum.inl y11=>
      some (Sum.inl (y8.AM,y8.AS,y11.AB.AH,y11.AB.AD,y11.AB.Code,y11.AB.AG,y11.AU,y11.last,y11.AK,y11.AT))
     else
      if ((⟨y1.Op,y1.A,y1.B⟩:AL).Op)=10 then
       (idx a0.last a1).bind fun y12=>
       (bR (decide (((⟨y1.Op,y1.A,y1.B⟩:AL).A)<=y12))).bind fun y13=>
       match y13 with
       | Sum.inr pv10=>(some (Sum.inr pv10)).bind fun r=>some (Sum.inr r)
       | Sum.inl y13=>
       (kG (⟨(⟨a0.AB.AH,a0.AB.AD,a0.AB.Code,a0.AB.AG⟩:AB),a0.AU,a0.last,a0.AK,a0.AT⟩:AR) ((⟨y1.Op,y1.A,y1.B⟩:AL).A) (⟨((a0.AK.get a1).getD (⟨0,0⟩:AJ)).AM,((a0.AK.get a1).getD (⟨0,0⟩:AJ)).AS⟩:AJ)).bind fun y14=>
       match y14 with
       | Sum.inr pv11=>(some (Sum.inr pv11)).bind fun r=>some (Sum.inr r)
       | Sum.inl y14=>
       (some (Sum.inl (⟨(⟨y14.AB.AH,y14.AB.AD,y14.AB.Code,y14.AB.AG⟩:AB),y14.AU,y14.last,y14.AK,y14.AT⟩:AR))).bind fun r=>some (Sum.inr r)
      else
       if ((⟨y1.Op,y1.A,y1.B⟩:AL).Op)=11 then
        (oF (⟨((a0.AK.get a1).getD (⟨0,0⟩:AJ)).AM,((a0.AK.get a1).getD (⟨0,0⟩:AJ)).AS⟩:AJ)).bind fun y15=>
        match y15 with
        | Sum.inr pv12=>(some (Sum.inr pv12)).bind fun r=>some (Sum.inr r)
        | Sum.inl y15=>
        (idx a0.AB.AD ((⟨y1.Op,y1.A,y1.B⟩:AL).A)).bind fun y16=>
        (chk ((y16.AQ.length:Int)+(y16.AN.length:Int))).bind fun z1=>
        (chk (y15.AS+z1)).bind fun z2=>
        (xX AA (⟨(⟨a0.AB.AH,a0.AB.AD,a0.AB.Code,a0.AB.AG⟩:AB),a0.AU,a0.last,a0.AK,a0.AT⟩:AR) (⟨y16.AQ,y16.AN,y16.AP⟩:AO) z2).bind fun y17=>
        match y17 with
        | Sum.inr pv13=>(some (Sum.inr pv13)).bind fun r=>some (Sum.inr r)
        | Sum.inl y17=>
        some (Sum.inl (y15.AM,z2,y17.AB.AH,y17.AB.AD,y17.AB.Code,y17.AB.AG,y17.AU,y17.last,y17.AK,y17.AT))
       else
        if ((⟨y1.Op,y1.A,y1.B⟩:AL).Op)=12 then
         (bR (decide (((⟨y1.Op,y1.A,y1.B⟩:AL).A)<=(((a0.AK.get a1).getD (⟨0,0⟩:AJ)).AS)))).bind fun y18=>
         match y18 with
         | Sum.inr pv14=>(some (Sum.inr pv14)).bind fun r=>some (Sum.inr r)
         | Sum.inl y18=>
         some (Sum.inl (((a0.AK.get a1).getD (⟨0,0⟩:AJ)).AM,(⟨y1.Op,y1.A,y1.B⟩:AL).A,a0.AB.AH,a0.AB.AD,a0.AB.Code,a0.AB.AG,a0.AU,a0.last,a0.AK,a0.AT))
        else
         (if ((⟨y1.Op,y1.A,y1.B⟩:AL).Op)=13 then
          some (decide (((⟨y1.Op,y1.A,y1.B⟩:AL).Op)=13))
         else
          some (decide (((⟨y1.Op,y1.A,y1.B⟩:AL).Op)=15))).bind fun x12=>
         bif x12 then
          (pP (⟨y1.Op,y1.A,y1.B⟩:AL) (⟨((a0.AK.get a1).getD (⟨0,0⟩:AJ)).AM,((a0.AK.get a1).getD (⟨0,0⟩:AJ)).AS⟩:AJ)).bind fun y19=>
          match y19 with
          | Sum.inr pv15=>(some (Sum.inr pv15)).bind fun r=>some (Sum.inr r)
          | Sum.inl y19=>
          (oF (⟨y19.AM,y19.AS⟩:AJ)).bind fun y20=>
          match y20 with
          | Sum.inr pv16=>(some (Sum.inr pv16)).bind fun r=>some (Sum.inr r)
          | Sum.inl y20=>
          (kG (⟨(⟨a0.AB.AH,a0.AB.AD,a0.AB.Code,a0.AB.AG⟩:AB),a0.AU,a0.last,a0.AK,a0.AT⟩:AR) ((⟨y1.Op,y1.A,y1.B⟩:AL).B) (⟨0,y20.AS⟩:AJ)).bind fun y21=>
          match y21 with
          | Sum.inr pv17=>(some (Sum.inr pv17)).bind fun r=>some (Sum.inr r)
          | Sum.inl y21=>
          some (Sum.inl (y20.AM,y20.AS,y21.AB.AH,y21.AB.AD,y21.AB.Code,y21.AB.AG,y21.AU,y21.last,y21.AK,y21.AT))
         else
          if ((⟨y1.Op,y1.A,y1.B⟩:AL).Op)=14 then
           (oF (⟨((a0.AK.get a1).getD (⟨0,0⟩:AJ)).AM,((a0.AK.get a1).getD (⟨0,0⟩:AJ)).AS⟩:AJ)).bind fun y22=>
           match y22 with
           | Sum.inr pv18=>(some (Sum.inr pv18)).bind fun r=>some (Sum.inr r)
           | Sum.inl y22=>
           some (Sum.inl (y22.AM,y22.AS,a0.AB.AH,a0.AB.AD,a0.AB.Code,a0.AB.AG,a0.AU,a0.last,a0.AK,a0.AT))
          else
           if ((⟨y1.Op,y1.A,y1.B⟩:AL).Op)=16 then
            (oF (⟨((a0.AK.get a1).getD (⟨0,0⟩:AJ)).AM,((a0.AK.get a1).getD (⟨0,0⟩:AJ)).AS⟩:AJ)).bind fun y23=>
            match y23 with
            | Sum.inr pv19=>(some (Sum.inr pv19)).bind fun r=>some (Sum.inr r)
            | Sum.inl y23=>
            (some (Sum.inl (⟨(⟨a0.AB.AH,a0.AB.AD,a0.AB.Code,a0.AB.AG⟩:AB),a0.AU,a0.last,a0.AK,a0.AT⟩:AR))).bind fun r=>some (Sum.inr r)
           else
            some (Sum.inl (((a0.AK.get a1).getD (⟨0,0⟩:AJ)).AM,((a0.AK.get a1).getD (⟨0,0⟩:AJ)).AS,a0.AB.AH,a0.AB.AD,a0.AB.Code,a0.AB.AG,a0.AU,a0.last,a0.AK,a0.AT))).bind fun o=>match o with
 | Sum.inr r=>some r
 | Sum.inl (x1,x2,x3,x4,x5,x6,x7,x8,x9,x10)=>
 (chk (a1+1)).bind fun z3=>
 (kG (⟨(⟨x3,x4,x5,x6⟩:AB),x7,x8,x9,x10⟩:AR) z3 (⟨x1,x2⟩:AJ)).bind fun y24=>
 match y24 with
 | Sum.inr pv20=>some (Sum.inr pv20)
 | Sum.inl y24=>
 some (Sum.inl (⟨(⟨y24.AB.AH,y24.AB.AD,y24.AB.Code,y24.AB.AG⟩:AB),y24.AU,y24.last,y24.AK,y24.AT⟩:AR))
theorem aCY (AA:Nat) (p0:Nat) (a0:AR) (a1:Int) (r:AR ⊕ Value) (H:tB AA a0 a1=some r):FnE Tryz.prog 98 [fEq (.pointer (some ⟨p0,0,none⟩)),fI a1] [dC p0 a0] r (fun r=>dI []) (fun r=>[dC p0 r]):=by
 unfold tB at H
 refine iR Tryz.func98 rfl Tryz.ntmps98 rfl (fun β=>?_)
 refine dG (fun v1 v2 v3=>?_)
 refine aQ ?_
 refine dF (fun b1 h1=>?_);subst h1
 refine rc 2 fun _=>?_
 refine rc 3 fun _=>?_
 refine aK ?_
 refine bz H fun y1 h2 H=>?_
 apply bQ (ods:=[_,_,_,_,_,_,_,_,_,_,_,_,_,_,_,_,_,_]) 18 2 6 bM rfl rfl rfl
 refine ND ?_
 refine M8 ?_
 intros
 refine M5 ?_
 intros
 refine Mo 0 rfl (aDT (zα:=(⟨0,0⟩:AJ)) (k:=a1) rfl hh hh rfl aAx (uJ [(.int .i64 0),(.int .i64 0)])) fun _=>?_
 refine Mn 4 (fun b2=>ptr b2) (fun b2=>aA b2 54 [fI 0,fI 0,fI 0]) rfl (bU rfl kV rfl) (fun b2 u1=>?_)
 refine Mn 5 (fun b3=>ptr b3) (fun b3=>aA b3 59 [fI 0,fI 0]) rfl (bU rfl aB6 rfl) (fun b3 u2=>?_)
 refine wS (od:=od1 14 [4] true (fun b2 _=>jK) (fun b2 _=>[aA b2 54 [fI y1.Op,fI y1.A,fI y1.B]])) (p:=4) (φs':=[fI y1.Op,fI y1.A,fI y1.B]) rfl (fun _=>rfl) (fun _=>rfl) a1I rfl rfl rfl (has rfl) (has rfl) (aH (aD a1I) (aH (aD a1I) (aH (aD a1I) bL))) (sz rfl) rfl rfl rfl (fun _=>?_)
 refine wS (od:=od1 15 [5] true (fun b3 _=>jK) (fun b3 _=>[aA b3 59 [fI (((a0.AK.get a1).getD (⟨0,0⟩:AJ)).AM),fI (((a0.AK.get a1).getD (⟨0,0⟩:AJ)).AS)]])) (p:=5) (φs':=[fI (((a0.AK.get a1).getD (⟨0,0⟩:AJ)).AM),fI (((a0.AK.get a1).getD (⟨0,0⟩:AJ)).AS)]) rfl (fun _=>rfl) (fun _=>rfl) a1I rfl rfl rfl (has rfl) (has rfl) (aH (aD a1I) (aH (aD a1I) bL)) (sz rfl) rfl rfl rfl (fun _=>?_)
 refine Z3 ?_
 refine aR ?_
 refine cP (φ:=bV aF y1) (v:=ptr b2) [4] (yO aG.rfl) fz ?_
 refine cL ?_
 refine Yy (vG rfl (aM.cons hh (aM.cons hh aM.nil))) ?_
 refine Z3 ?_
 refine Yy (vG rfl (aM.cons hh aM.nil)) ?_
 revert H;refine B2z fun o1 H Hr1=>?_
 refine aO (ι:=Int × Int × Int × List AO × List AL × Int × List Int × List Int × aI Int AJ × List Int × Value × Nat × Value) (fun i=>o1=Sum.inl (i.1,i.2.1,i.2.2.1,i.2.2.2.1,i.2.2.2.2.1,i.2.2.2.2.2.1,i.2.2.2.2.2.2.1,i.2.2.2.2.2.2.2.1,i.2.2.2.2.2.2.2.2.1,i.2.2.2.2.2.2.2.2.2.1)) (fun i=>[(0,fEq (ptr p0)),(1,fI a1),(5,fEq (ptr b3))]) (fun i=>[aA b3 59 [fI i.1,fI i.2.1],aA p0 150 [fI i.2.2.1,fSl aE i.2.2.2.1,fSl aF i.2.2.2.2.1,fI i.2.2.2.2.2.1,fSl tI i.2.2.2.2.2.2.1,fEq i.2.2.2.2.2.2.2.2.2.2.1,fEq (.map (some i.2.2.2.2.2.2.2.2.2.2.2.1)),fEq i.2.2.2.2.2.2.2.2.2.2.2.2],bK bG (fun y=>fSt aZ y) i.2.2.2.2.2.2.2.2.2.2.2.1 i.2.2.2.2.2.2.2.2.1,aB i.2.2.2.2.2.2.2.2.2.2.1 3 tI i.2.2.2.2.2.2.2.1,aB i.2.2.2.2.2.2.2.2.2.2.2.2 3 tI i.2.2.2.2.2.2.2.2.2.1]) ?_ ?_
 revert H;refine I9z (fun c1 H=>?_) fun c1 H=>?_
 revert H;refine B3z fun y2 h3 H=>?_
 rcases y2 with y2 | pv1 <;> dsimp only at H
 refine Tc (kZ _ _ _ _ h3).s ?_
 refine aR ?_
 refine bT (φs':=[fI y2.AM,fI y2.AS]) a1I rfl rfl (has rfl) (has rfl) (aH (aD a1I) (aH (aD a1I) bL)) (sz rfl) rfl rfl rfl ?_
 refine Z3 ?_
 refine aC [0,2,1,3,4] (by decide) ?_
 exact Tm ((y2.AM,y2.AS,a0.AB.AH,a0.AB.AD,a0.AB.Code,a0.AB.AG,a0.AU,a0.last,a0.AK,a0.AT,v1,b1,v3)) (ij H)
 refine Tp (kZ _ _ _ _ h3).pan ?_
 revert H;refine B2z fun r1 H e1=>?_
 cases e1;cases Hr1
 cases H
 exact bC
 revert H;refine I5z (fun c2 H=>?_) fun c2 H=>?_
 refine Z3 ?_
 refine aR ?_
 refine mG ?_
 revert H;refine bs fun y3 h4 H=>?_
 rcases y3 with y3 | pv2 <;> dsimp only at H
 refine lK a1I rfl rfl rfl (has rfl) aM.nil rfl (cb rfl) (sJ b3 y1 (⟨((a0.AK.get a1).getD (⟨0,0⟩:AJ)).AM,((a0.AK.get a1).getD (⟨0,0⟩:AJ)).AS⟩:AJ) (Sum.inl y3) h4).s rfl ?_
 refine lY ?_
 revert H;refine B3z fun y4 h5 H=>?_
 rcases y4 with y4 | pv3 <;> dsimp only at H
 refine Tc (kZ _ _ _ _ h5).s ?_
 refine bT (φs':=[fI y4.AM,fI y4.AS]) a1I rfl rfl (has rfl) (has rfl) (aH (aD a1I) (aH (aD a1I) bL)) (sz rfl) rfl rfl rfl ?_
 refine Z3 ?_
 refine aC [0,2,1,3,4] (by decide) ?_
 exact Tm ((y4.AM,y4.AS,a0.AB.AH,a0.AB.AD,a0.AB.Code,a0.AB.AG,a0.AU,a0.last,a0.AK,a0.AT,v1,b1,v3)) (ij H)
 refine Tp (kZ _ _ _ _ h5).pan ?_
 revert H;refine B2z fun r2 H e2=>?_
 cases e2;cases Hr1
 cases H
 exact bC
 refine qT a1I rfl (has rfl) aM.nil rfl (cb rfl) (sJ b3 y1 (⟨((a0.AK.get a1).getD (⟨0,0⟩:AJ)).AM,((a0.AK.get a1).getD (⟨0,0⟩:AJ)).AS⟩:AJ) (Sum.inr pv2) h4).pan rfl ?_
 revert H;refine B3z fun r3 H e3=>?_
 cases e3;cases Hr1
 cases H
 exact bC
 revert H;refine B1z fun o2 H Hr2=>?_
 refine aO (fun i=>o2=i) (fun i=>[(0,fEq (ptr p0)),(1,fI a1),(4,bV aF y1),(5,fEq (ptr b3)),(6,fJ 128 [bV aF y1,fEq (ptr b3)]),(7,fJ 129 [fEq (ptr b3)]),(26,fI (y1.Op)),(37,aL i)]) (fun i=>[aA p0 150 [fI a0.AB.AH,fSl aE a0.AB.AD,fSl aF a0.AB.Code,fI a0.AB.AG,fSl tI a0.AU,fEq v1,fEq (.map (some b1)),fEq v3],aA b3 59 [fI (((a0.AK.get a1).getD (⟨0,0⟩:AJ)).AM),fI (((a0.AK.get a1).getD (⟨0,0⟩:AJ)).AS)],bK bG (fun y=>fSt aZ y) b1 a0.AK,aB v1 3 tI a0.last,aB v3 3 tI a0.AT]) ?_ ?_
 revert H;refine I4z (fun c3 H=>?_) fun c3 H=>?_
 refine Z3 ?_
 refine aC [1,4,0,2,3] (by decide) ?_
 exact Tm (decide ((y1.Op)=3)) (ij H)
 revert H;refine I5z (fun c4 H=>?_) fun c4 H=>?_
 refine Z3 ?_
 refine aC [1,4,0,2,3] (by decide) ?_
 exact Tm (decide ((y1.Op)=4)) (ij H)
 revert H;refine I5z (fun c5 H=>?_) fun c5 H=>?_
 refine Z3 ?_
 refine aC [1,4,0,2,3] (by decide) ?_
 exact Tm (decide ((y1.Op)=5)) (ij H)
 revert H;refine I5z (fun c6 H=>?_) fun c6 H=>?_
 refine Z3 ?_
 refine aC [1,4,0,2,3] (by decide) ?_
 exact Tm (decide ((y1.Op)=6)) (ij H)
 refine Z5 ?_
 refine aC [1,4,0,2,3] (by decide) ?_
 exact Tm (decide ((y1.Op)=7)) (ij H)
 rintro x11 hi;subst o2;replace H:=Hr2;clear Hr2;try dsimp only at H ⊢
 revert H;refine cs (fun c7 H=>?_) fun c7 H=>?_
 revert H;refine B3z fun y5 h6 H=>?_
 rcases y5 with y5 | pv4 <;> dsimp only at H
 refine Tc (kZ _ _ _ _ h6).s ?_
 refine aP ?_
 refine bT (φs':=[fI y5.AM,fI y5.AS]) a1I rfl rfl (has rfl) (has rfl) (aH (aD a1I) (aH (aD a1I) bL)) (sz rfl) rfl rfl rfl ?_
 refine Z3 ?_
 exact Tm ((y5.AM,y5.AS,a0.AB.AH,a0.AB.AD,a0.AB.Code,a0.AB.AG,a0.AU,a0.last,a0.AK,a0.AT,v1,b1,v3)) (ij H)
 refine Tp (kZ _ _ _ _ h6).pan ?_
 revert H;refine B2z fun r4 H e4=>?_
 cases e4;cases Hr1
 cases H
 exact bC
 revert H;refine I5z (fun c8 H=>?_) fun c8 H=>?_
 refine Z3 ?_
 refine aP ?_
 refine mG ?_
 revert H;refine bs fun y6 h7 H=>?_
 rcases y6 with y6 | pv5 <;> dsimp only at H
 refine lK a1I rfl rfl rfl (has rfl) aM.nil rfl (cb rfl) (sJ b3 y1 (⟨((a0.AK.get a1).getD (⟨0,0⟩:AJ)).AM,((a0.AK.get a1).getD (⟨0,0⟩:AJ)).AS⟩:AJ) (Sum.inl y6) h7).s rfl ?_
 refine lY ?_
 revert H;refine B5z fun y7 h8 H=>?_
 rcases y7 with y7 | pv6 <;> dsimp only at H
 refine Tc (kZ _ _ _ _ h8).s ?_
 refine bT (φs':=[fI y7.AM,fI y7.AS]) a1I rfl rfl (has rfl) (has rfl) (aH (aD a1I) (aH (aD a1I) bL)) (sz rfl) rfl rfl rfl ?_
 refine Z3 ?_
 exact Tm ((y7.AM,y7.AS,a0.AB.AH,a0.AB.AD,a0.AB.Code,a0.AB.AG,a0.AU,a0.last,a0.AK,a0.AT,v1,b1,v3)) (ij H)
 refine Tp (kZ _ _ _ _ h8).pan ?_
 revert H;refine B2z fun r5 H e5=>?_
 cases e5;cases Hr1
 cases H
 exact bC
 refine qT a1I rfl (has rfl) aM.nil rfl (cb rfl) (sJ b3 y1 (⟨((a0.AK.get a1).getD (⟨0,0⟩:AJ)).AM,((a0.AK.get a1).getD (⟨0,0⟩:AJ)).AS⟩:AJ) (Sum.inr pv5) h7).pan rfl ?_
 revert H;refine B3z fun r6 H e6=>?_
 cases e6;cases Hr1
 cases H
 exact bC
 revert H;refine I5z (fun c9 H=>?_) fun c9 H=>?_
 revert H;refine B3z fun y8 h9 H=>?_
 rcases y8 with y8 | pv7 <;> dsimp only at H
 refine Tc (kZ _ _ _ _ h9).s ?_
 refine aP ?_
 refine bT (φs':=[fI y8.AM,fI y8.AS]) a1I rfl rfl (has rfl) (has rfl) (aH (aD a1I) (aH (aD a1I) bL)) (sz rfl) rfl rfl rfl ?_
 refine Z1 ?_
 refine aK ?_
 revert H;refine bs fun y9 h10 H=>?_
 apply bQ (ods:=[_,_,_,_,_,_,_,_,_,_]) 10 0 5 bM rfl rfl rfl
 refine ND ?_
 refine M7 ?_
 intros
 refine Mo 3 rfl (rX rfl hh hh (el rfl) h10) fun _=>?_
 refine Mo 3 rfl (kC rfl rfl hh (sc rfl) (dU h10) rfl) fun _=>?_
 refine M1 ?_
 intros
 revert H;refine B1z fun y10 h11 H=>?_
 rcases y10 with y10 | pv8 <;> dsimp only at H
 refine Tc (aW _ _ h11).s ?_
 refine Z6 ?_
 refine aQ ?_
 refine cX ?_
 refine aR ?_
 refine aP ?_
 refine aR ?_
 refine aR ?_
 refine cW ?_
 revert H;refine bs fun y11 h12 H=>?_
 rcases y11 with y11 | pv9 <;> dsimp only at H
 refine Tc (iL _ _ _ _ _ h12).s ?_
 refine dG (fun v6 v7 v8=>?_)
 refine aQ ?_
 refine dF (fun b5 h13=>?_);subst h13
 refine rc 2 fun _=>?_
 refine rc 3 fun _=>?_
 refine Z3 ?_
 refine aC [4,1,0,2,3] (by decide) ?_
 exact Tm ((y8.AM,y8.AS,y11.AB.AH,y11.AB.AD,y11.AB.Code,y11.AB.AG,y11.AU,y11.last,y11.AK,y11.AT,v6,b5,v8)) (ij H)
 refine Tp (iL _ _ _ _ _ h12).pan ?_
 revert H;refine B2z fun r7 H e7=>?_
 cases e7;cases Hr1
 cases H
 exact bC
 refine Tp (aW _ _ h11).pan ?_
 revert H;refine B3z fun r8 H e8=>?_
 cases e8;cases Hr1
 cases H
 exact bC
 exact fk
 kernel_rfl
 refine Tp (kZ _ _ _ _ h9).pan ?_
 revert H;refine B3z fun r9 H e9=>?_
 cases e9;cases Hr1
 cases H
 exact bC
 revert H;refine I5z (fun c10 H=>?_) fun c10 H=>?_
 refine Z1 ?_
 refine aK ?_
 revert H;refine bs fun y12 h14 H=>?_
 apply bQ (ods:=[_,_,_,_,_,_,_,_,_,_]) 10 0 5 bM rfl rfl rfl
 refine ND ?_
 refine M8 ?_
 intros
 refine Mo 3 rfl (kC rfl rfl hh (sc rfl) (dU h14) rfl) fun _=>?_
 refine M1 ?_
 intros
 revert H;refine B1z fun y13 h15 H=>?_
 rcases y13 with y13 | pv10 <;> dsimp only at H
 refine Tc (aW _ _ h15).s ?_
 refine Z6 ?_
 refine aQ ?_
 refine cX ?_
 refine aR ?_
 refine aP ?_
 refine aR ?_
 refine bD ?_
 refine cW ?_
 revert H;refine bs fun y14 h16 H=>?_
 rcases y14 with y14 | pv11 <;> dsimp only at H
 refine Tc (iL _ _ _ _ _ h16).s ?_
 refine dG (fun v9 v10 v11=>?_)
 refine aQ ?_
 refine dF (fun b6 h17=>?_);subst h17
 refine rc 2 fun _=>?_
 refine rc 3 fun _=>?_
 revert H;refine B4z fun r10 H e10=>?_
 cases e10;cases Hr1
 refine cX ?_
 refine bD ?_
 refine aP ?_
 refine bD ?_
 refine bD ?_
 refine cW ?_
 cases H
 refine gP ?_
 refine aC [0] (by decide) ?_
 exact cV (.inl rfl) rfl rfl
 refine Tp (iL _ _ _ _ _ h16).pan ?_
 revert H;refine B3z fun r11 H e11=>?_
 cases e11;cases Hr1
 cases H
 exact bC
 refine Tp (aW _ _ h15).pan ?_
 revert H;refine B3z fun r12 H e12=>?_
 cases e12;cases Hr1
 cases H
 exact bC
 exact fk
 kernel_rfl
 revert H;refine I5z (fun c11 H=>?_) fun c11 H=>?_
 refine Z3 ?_
 refine aP ?_
 refine mG ?_
 revert H;refine bs fun y15 h18 H=>?_
 rcases y15 with y15 | pv12 <;> dsimp only at H
 refine lK a1I rfl rfl rfl (has rfl) aM.nil rfl (cb rfl) (mN b3 (⟨((a0.AK.get a1).getD (⟨0,0⟩:AJ)).AM,((a0.AK.get a1).getD (⟨0,0⟩:AJ)).AS⟩:AJ) (Sum.inl y15) h18).s rfl ?_
 refine lY ?_
 refine Z1 ?_
 refine aK ?_
 revert H;refine bs fun y16 h19 H=>?_
 apply bQ (ods:=[_,_,_,_,_,_,_,_,_,_,_]) 11 1 6 bM rfl rfl rfl
 refine ND ?_
 refine M8 ?_
 intros
 refine M1 ?_
 intros
 refine Mn 5 (fun b7=>ptr b7) (fun b7=>aA b7 78 [fEq (.slice none 0 0),fEq (.slice none 0 0),fEq (.slice none 0 0)]) rfl (bU rfl nS rfl) (fun b7 u3=>?_)
 refine wS (od:=od1 9 [5] true (fun b7 _=>jK) (fun b7 _=>[aA b7 78 [fSl aS y16.AQ,fSl aV y16.AN,fSl aY y16.AP]])) (p:=5) (φs':=[fSl aS y16.AQ,fSl aV y16.AN,fSl aY y16.AP]) rfl (fun _=>rfl) (fun _=>rfl) a1I rfl rfl rfl (has rfl) (has rfl) (aH (cA) (aH (cA) (aH (cA) bL))) (sz rfl) rfl rfl rfl (fun _=>?_)
 revert H;refine jC fun z1 h20 H=>?_
 revert H;refine B1z fun z2 h21 H=>?_
 refine Z2 ?_
 refine bJ (φs':=[fI y15.AM,fI z2]) a1I rfl rfl (has rfl) (has rfl) (aD a1I) (sz rfl) rfl rfl ?_
 refine Z6 ?_
 refine aQ ?_
 refine cX ?_
 refine aR ?_
 refine aP ?_
 refine aR ?_
 refine aR ?_
 refine cW ?_
 revert H;refine bs fun y17 h22 H=>?_
 rcases y17 with y17 | pv13 <;> dsimp only at H
 refine Tc (aCG _ _ _ _ _ _ h22).s ?_
 refine dG (fun v12 v13 v14=>?_)
 refine aQ ?_
 refine dF (fun b8 h23=>?_);subst h23
 refine rc 2 fun _=>?_
 refine rc 3 fun _=>?_
 refine Z3 ?_
 refine aC [4,1,0,2,3] (by decide) ?_
 exact Tm ((y15.AM,z2,y17.AB.AH,y17.AB.AD,y17.AB.Code,y17.AB.AG,y17.AU,y17.last,y17.AK,y17.AT,v12,b8,v14)) (ij H)
 refine Tp (aCG _ _ _ _ _ _ h22).pan ?_
 revert H;refine B2z fun r13 H e13=>?_
 cases e13;cases Hr1
 cases H
 exact bC
 exact fk
 kernel_rfl
 refine qT a1I rfl (has rfl) aM.nil rfl (cb rfl) (mN b3 (⟨((a0.AK.get a1).getD (⟨0,0⟩:AJ)).AM,((a0.AK.get a1).getD (⟨0,0⟩:AJ)).AS⟩:AJ) (Sum.inr pv12) h18).pan rfl ?_
 revert H;refine B3z fun r14 H e14=>?_
 cases e14;cases Hr1
 cases H
 exact bC
 revert H;refine I5z (fun c12 H=>?_) fun c12 H=>?_
 revert H;refine B7z fun y18 h24 H=>?_
 rcases y18 with y18 | pv14 <;> dsimp only at H
 refine Tc (aW _ _ h24).s ?_
 refine Z5 ?_
 refine aP ?_
 refine bJ (φs':=[fI (((a0.AK.get a1).getD (⟨0,0⟩:AJ)).AM),fI (y1.A)]) a1I rfl rfl (has rfl) (has rfl) (aD a1I) (sz rfl) rfl rfl ?_
 refine Z3 ?_
 exact Tm ((((a0.AK.get a1).getD (⟨0,0⟩:AJ)).AM,y1.A,a0.AB.AH,a0.AB.AD,a0.AB.Code,a0.AB.AG,a0.AU,a0.last,a0.AK,a0.AT,v1,b1,v3)) (ij H)
 refine Tp (aW _ _ h24).pan ?_
 revert H;refine B3z fun r15 H e15=>?_
 cases e15;cases Hr1
 cases H
 exact bC
 revert H;refine B1z fun o3 H Hr3=>?_
 refine aO (fun i=>o3=i) (fun i=>[(0,fEq (ptr p0)),(1,fI a1),(4,bV aF y1),(5,fEq (ptr b3)),(6,fJ 128 [bV aF y1,fEq (ptr b3)]),(7,fJ 129 [fEq (ptr b3)]),(26,fI (y1.Op)),(131,aL i)]) (fun i=>[aA p0 150 [fI a0.AB.AH,fSl aE a0.AB.AD,fSl aF a0.AB.Code,fI a0.AB.AG,fSl tI a0.AU,fEq v1,fEq (.map (some b1)),fEq v3],aA b3 59 [fI (((a0.AK.get a1).getD (⟨0,0⟩:AJ)).AM),fI (((a0.AK.get a1).getD (⟨0,0⟩:AJ)).AS)],bK bG (fun y=>fSt aZ y) b1 a0.AK,aB v1 3 tI a0.last,aB v3 3 tI a0.AT]) ?_ ?_
 revert H;refine I4z (fun c13 H=>?_) fun c13 H=>?_
 refine Z3 ?_
 exact Tm (decide ((y1.Op)=13)) (ij H)
 refine Z5 ?_
 exact Tm (decide ((y1.Op)=15)) (ij H)
 rintro x12 hi;subst o3;replace H:=Hr3;clear Hr3;try dsimp only at H ⊢
 revert H;refine cs (fun c14 H=>?_) fun c14 H=>?_
 refine Z3 ?_
 refine aP ?_
 refine mG ?_
 revert H;refine bs fun y19 h25 H=>?_
 rcases y19 with y19 | pv15 <;> dsimp only at H
 refine lK a1I rfl rfl rfl (has rfl) aM.nil rfl (cb rfl) (sJ b3 y1 (⟨((a0.AK.get a1).getD (⟨0,0⟩:AJ)).AM,((a0.AK.get a1).getD (⟨0,0⟩:AJ)).AS⟩:AJ) (Sum.inl y19) h25).s rfl ?_
 refine lY ?_
 refine Z3 ?_
 refine mG ?_
 revert H;refine bs fun y20 h26 H=>?_
 rcases y20 with y20 | pv16 <;> dsimp only at H
 refine lK a1I rfl rfl rfl (has rfl) aM.nil rfl (cb rfl) (mN b3 y19 (Sum.inl y20) h26).s rfl ?_
 refine lY ?_
 refine Z7 ?_
 refine Yy (dJ (ψs:=[fI 0,fI y20.AS]) rfl nW rfl (bE.cons (has rfl) (bO (aD a1I)) bE.nil) rfl) ?_
 refine aQ ?_
 refine cX ?_
 refine aR ?_
 refine aP ?_
 refine aR ?_
 refine aR ?_
 refine cW ?_
 revert H;refine bs fun y21 h27 H=>?_
 rcases y21 with y21 | pv17 <;> dsimp only at H
 refine Tc (iL _ _ _ _ _ h27).s ?_
 refine dG (fun v15 v16 v17=>?_)
 refine aQ ?_
 refine dF (fun b9 h28=>?_);subst h28
 refine rc 2 fun _=>?_
 refine rc 3 fun _=>?_
 refine Z3 ?_
 refine aC [4,1,0,2,3] (by decide) ?_
 exact Tm ((y20.AM,y20.AS,y21.AB.AH,y21.AB.AD,y21.AB.Code,y21.AB.AG,y21.AU,y21.last,y21.AK,y21.AT,v15,b9,v17)) (ij H)
 refine Tp (iL _ _ _ _ _ h27).pan ?_
 revert H;refine B2z fun r16 H e16=>?_
 cases e16;cases Hr1
 cases H
 exact bC
 refine qT a1I rfl (has rfl) aM.nil rfl (cb rfl) (mN b3 y19 (Sum.inr pv16) h26).pan rfl ?_
 revert H;refine B3z fun r17 H e17=>?_
 cases e17;cases Hr1
 cases H
 exact bC
 refine qT a1I rfl (has rfl) aM.nil rfl (cb rfl) (sJ b3 y1 (⟨((a0.AK.get a1).getD (⟨0,0⟩:AJ)).AM,((a0.AK.get a1).getD (⟨0,0⟩:AJ)).AS⟩:AJ) (Sum.inr pv15) h25).pan rfl ?_
 revert H;refine B3z fun r18 H e18=>?_
 cases e18;cases Hr1
 cases H
 exact bC
 revert H;refine I5z (fun c15 H=>?_) fun c15 H=>?_
 refine Z3 ?_
 refine aP ?_
 refine mG ?_
 revert H;refine bs fun y22 h29 H=>?_
 rcases y22 with y22 | pv18 <;> dsimp only at H
 refine lK a1I rfl rfl rfl (has rfl) aM.nil rfl (cb rfl) (mN b3 (⟨((a0.AK.get a1).getD (⟨0,0⟩:AJ)).AM,((a0.AK.get a1).getD (⟨0,0⟩:AJ)).AS⟩:AJ) (Sum.inl y22) h29).s rfl ?_
 refine lY ?_
 refine Z3 ?_
 exact Tm ((y22.AM,y22.AS,a0.AB.AH,a0.AB.AD,a0.AB.Code,a0.AB.AG,a0.AU,a0.last,a0.AK,a0.AT,v1,b1,v3)) (ij H)
 refine qT a1I rfl (has rfl) aM.nil rfl (cb rfl) (mN b3 (⟨((a0.AK.get a1).getD (⟨0,0⟩:AJ)).AM,((a0.AK.get a1).getD (⟨0,0⟩:AJ)).AS⟩:AJ) (Sum.inr pv18) h29).pan rfl ?_
 revert H;refine B2z fun r19 H e19=>?_
 cases e19;cases Hr1
 cases H
 exact bC
 revert H;refine I5z (fun c16 H=>?_) fun c16 H=>?_
 refine Z3 ?_
 refine aP ?_
 refine mG ?_
 revert H;refine bs fun y23 h30 H=>?_
 rcases y23 with y23 | pv19 <;> dsimp only at H
 refine lK a1I rfl rfl rfl (has rfl) aM.nil rfl (cb rfl) (mN b3 (⟨((a0.AK.get a1).getD (⟨0,0⟩:AJ)).AM,((a0.AK.get a1).getD (⟨0,0⟩:AJ)).AS⟩:AJ) (Sum.inl y23) h30).s rfl ?_
 refine lY ?_
 revert H;refine B4z fun r20 H e20=>?_
 cases e20;cases Hr1
 refine aQ ?_
 refine cX ?_
 refine aR ?_
 refine aP ?_
 refine aR ?_
 refine aR ?_
 refine cW ?_
 cases H
 refine gP ?_
 refine aC [0] (by decide) ?_
 exact cV (.inl rfl) rfl rfl
 refine qT a1I rfl (has rfl) aM.nil rfl (cb rfl) (mN b3 (⟨((a0.AK.get a1).getD (⟨0,0⟩:AJ)).AM,((a0.AK.get a1).getD (⟨0,0⟩:AJ)).AS⟩:AJ) (Sum.inr pv19) h30).pan rfl ?_
 revert H;refine B3z fun r21 H e21=>?_
 cases e21;cases Hr1
 cases H
 exact bC
 refine Z4 ?_
 refine aC [1,0,2,3,4] (by decide) ?_
 exact Tm ((((a0.AK.get a1).getD (⟨0,0⟩:AJ)).AM,((a0.AK.get a1).getD (⟨0,0⟩:AJ)).AS,a0.AB.AH,a0.AB.AD,a0.AB.Code,a0.AB.AG,a0.AU,a0.last,a0.AK,a0.AT,v1,b1,v3)) (ij H)
 rintro⟨x1,x2,x3,x4,x5,x6,x7,x8,x9,x10,v4,b4,v5⟩ hi;subst o1;replace H:=Hr1;clear Hr1;try dsimp only at H ⊢
 refine rc 3 fun _=>?_
 refine rc 4 fun _=>?_
 refine B3 H fun z3 h31 H=>?_
 refine Z2 ?_
 refine aQ ?_
 refine cX ?_
 refine aR ?_
 refine aP ?_
 refine aR ?_
 refine aR ?_
 refine cW ?_
 refine bz H fun y24 h32 H=>?_
 rcases y24 with y24 | pv20 <;> dsimp only at H
 refine Tc (iL _ _ _ _ _ h32).s ?_
 refine dG (fun v18 v19 v20=>?_)
 refine aQ ?_
 refine dF (fun b10 h33=>?_);subst h33
 refine rc 2 fun _=>?_
 refine rc 3 fun _=>?_
 refine Z1 ?_
 refine cX ?_
 refine bD ?_
 refine aP ?_
 refine bD ?_
 refine bD ?_
 refine cW ?_
 cases H
 refine gP ?_
 refine aC [0] (by decide) ?_
 exact cV (.inr rfl) rfl rfl
 refine Tp (iL _ _ _ _ _ h32).pan ?_
 cases H
 exact bC
 exact fk
 kernel_rfl
open Go.SX Go.SW Go.Dt
theorem aG7 (p0 p1:Nat) (φ0 φ1:AF):FnD Tryz.prog 92 [fEq (ptr p0),fEq (ptr p1)] [aA p0 122 [φ0],aA p1 4 [φ1]] (.returning) [aA p0 122 [φ0],aA p1 4 [φ1]]:=by
 refine aAA Tryz.func92 rfl Tryz.ntmps92 rfl (fun β c₀ cs hc=>?_)
 refine aAz (v:= .nilIface) (cs':=c₀ :: cs) (by simp [recoverD,hc]) rfl rfl rfl rfl ?_
 refine T_inS ?_
 refine Z2 ?_
 refine Yy (aAa rfl hh aAe (rfl:oJ _=some true)) ?_
 refine Z6 ?_
 exact aAq (u':= .returning) (.inr rfl) rfl (by cases c₀;cases hc;rfl) rfl rfl
theorem jM (p0 p1:Nat) (φ0 φ1:AF):FnD Tryz.prog 92 [fEq (ptr p0),fEq (ptr p1)] [aA p0 122 [φ0],aA p1 4 [φ1]] (.panicking [{ v:=(.iface 190 (.agg #[])),recovered:=false }]) [aA p0 122 [fEq (Go.Value.pointer Option.none)],aA p1 4 [aL false]]:=by
 refine aAA Tryz.func92 rfl Tryz.ntmps92 rfl (fun β c₀ cs hc=>?_)
 refine aAz (v:=(.iface 190 (.agg #[]))) (cs':={ c₀ with mode:= .panicking [{ v:=(.iface 190 (.agg #[])),recovered:=true }] } :: cs) (by simp [recoverD,hc]) rfl rfl rfl rfl ?_
 refine T_inS ?_
 refine Z2 ?_
 refine Yy (aAa rfl hh aAe (rfl:oJ _=some false)) ?_
 refine Z3 ?_
 refine Yy (aFy rfl hh aFG aF0) ?_
 refine Z2 ?_
 refine jT 10 rfl (uJ []) ?_
 refine Z3 ?_
 refine Tn (bU rfl aGG rfl) fun b1=>?_
 refine bT (φs':=[]) a1I rfl rfl hh hh bL (sz rfl) rfl rfl rfl ?_
 refine Z2 ?_
 refine aP ?_
 refine bJ (φs':=[fEq (Go.Value.pointer Option.none)]) a1I rfl rfl (has rfl) (has rfl) (aD a1I) (sz rfl) rfl rfl ?_
 refine aQ ?_
 refine bJ (φs':=[aL false]) a1I rfl rfl (has rfl) (has rfl) (aD a1I) (sz rfl) rfl rfl ?_
 refine Z2 ?_
 refine aC [1,0] (by decide) ?_
 exact aAq (u':= .panicking [{ v:=(.iface 190 (.agg #[])),recovered:=true }]) (.inr rfl) rfl rfl rfl rfl
def qW (AA:Nat) (a0:AB):Nat->Int->Int->(List AO)->(List AL)->Int->(List Int)->(List Int)->(aI Int AJ)->(List Int)->Option ((Int × List AO × List AL × Int × List Int × List Int × aI Int AJ × List Int) ⊕ ((Option AR) × Bool))
| 0,_,_,_,_,_,_,_,_,_=>none
| k+1,x26,x27,x28,x29,x30,x31,x32,x33,x34=>
 if x26<(a0.AD.length:Int)then
  (idx a0.AD x26).bind fun y8=>
  (xK AA (⟨(⟨x27,x28,x29,x30⟩:AB),x31,x32,x33,x34⟩:AR) (⟨y8.AQ,y8.AN,y8.AP⟩:AO)).bind fun y9=>
  match y9 with
  | Sum.inr pv7=>((unW 190 pv7).bind fun e14=>some (none,false)).bind fun r=>some (Sum.inr r)
  | Sum.inl y9=>
  (chk (x26+1)).bind fun z1=>
  qW AA a0 k z1 y9.AB.AH y9.AB.AD y9.AB.Code y9.AB.AG y9.AU y9.last y9.AK y9.AT
 else
  some (Sum.inl (x27,x28,x29,x30,x31,x32,x33,x34))
def kM (AA:Nat):Nat->Int->(List AO)->(List AL)->Int->(List Int)->(List Int)->(aI Int AJ)->(List Int)->Option ((Int × List AO × List AL × Int × List Int × List Int × aI Int AJ × List Int) ⊕ ((Option AR) × Bool))
| 0,_,_,_,_,_,_,_,_=>none
| k+1,x51,x52,x53,x54,x55,x56,x57,x58=>
 if 0<(x58.length:Int)then
  (chk ((x58.length:Int) - 1)).bind fun z2=>
  (idx x58 z2).bind fun y13=>
  (chk ((x58.length:Int) - 1)).bind fun z3=>
  (slc x58 0 z3).bind fun y14=>
  (tB AA (⟨(⟨x51,x52,x53,x54⟩:AB),x55,x56,x57,y14⟩:AR) y13).bind fun y15=>
  match y15 with
  | Sum.inr pv11=>((unW 190 pv11).bind fun e16=>some (none,false)).bind fun r=>some (Sum.inr r)
  | Sum.inl y15=>
  kM AA k y15.AB.AH y15.AB.AD y15.AB.Code y15.AB.AG y15.AU y15.last y15.AK y15.AT
 else
  some (Sum.inl (x51,x52,x53,x54,x55,x56,x57,x58))
def fD (AA:Nat) (a0:AB):Option ((Option AR) × Bool):=
 (if 0<=a0.AH then
  if a0.AH<=12 then
   if (a0.AD.length:Int)<=12 then
    if 0<(a0.Code.length:Int)then
     if (a0.Code.length:Int)<=12000 then
      (kN (⟨(⟨a0.AH,a0.AD,a0.Code,a0.AG⟩:AB),[],[],(aI.none:aI Int AJ),[]⟩:AR) a0.AG).bind fun y1=>
      (bR y1.2).bind fun y2=>
      match y2 with
      | Sum.inr pv1=>((unW 190 pv1).bind fun e2=>some (none,false)).bind fun r=>some (Sum.inr r)
      | Sum.inl y2=>
      some (Sum.inl (y1.1.AB.AH,y1.1.AB.AD,y1.1.AB.Code,y1.1.AB.AG,y1.1.AU,y1.1.last,y1.1.AK,y1.1.AT))
     else
      (bR false).bind fun y3=>
      match y3 with
      | Sum.inr pv2=>((unW 190 pv2).bind fun e4=>some (none,false)).bind fun r=>some (Sum.inr r)
      | Sum.inl y3=>
      some (Sum.inl (a0.AH,a0.AD,a0.Code,a0.AG,[],[],(aI.none:aI Int AJ),[]))
    else
     (bR false).bind fun y4=>
     match y4 with
     | Sum.inr pv3=>((unW 190 pv3).bind fun e6=>some (none,false)).bind fun r=>some (Sum.inr r)
     | Sum.inl y4=>
     some (Sum.inl (a0.AH,a0.AD,a0.Code,a0.AG,[],[],(aI.none:aI Int AJ),[]))
   else
    (bR false).bind fun y5=>
    match y5 with
    | Sum.inr pv4=>((unW 190 pv4).bind fun e8=>some (none,false)).bind fun r=>some (Sum.inr r)
    | Sum.inl y5=>
    some (Sum.inl (a0.AH,a0.AD,a0.Code,a0.AG,[],[],(aI.none:aI Int AJ),[]))
  else
   (bR false).bind fun y6=>
   match y6 with
   | Sum.inr pv5=>((unW 190 pv5).bind fun e10=>some (none,false)).bind fun r=>some (Sum.inr r)
   | Sum.inl y6=>
   some (Sum.inl (a0.AH,a0.AD,a0.Code,a0.AG,[],[],(aI.none:aI Int AJ),[]))
 else
  (bR false).bind fun y7=>
  match y7 with
  | Sum.inr pv6=>((unW 190 pv6).bind fun e12=>some (none,false)).bind fun r=>some (Sum.inr r)
  | Sum.inl y7=>
  some (Sum.inl (a0.AH,a0.AD,a0.Code,a0.AG,[],[],(aI.none:aI Int AJ),[]))).bind fun o=>match o with
 | Sum.inr r=>some r
 | Sum.inl (x1,x2,x3,x4,x5,x6,x7,x8)=>
 (qW AA a0 AA 0 x1 x2 x3 x4 x5 x6 x7 x8).bind fun o=>match o with
 | Sum.inr r=>some r
 | Sum.inl (x9,x10,x11,x12,x13,x14,x15,x16)=>
 (vQ AA (⟨(⟨x9,x10,x11,x12⟩:AB),x13,x14,x15,x16⟩:AR)).bind fun y10=>
 match y10 with
 | Sum.inr pv8=>(unW 190 pv8).bind fun e20=>some (none,false)
 | Sum.inl y10=>
 (lF AA (⟨(⟨y10.AB.AH,y10.AB.AD,y10.AB.Code,y10.AB.AG⟩:AB),y10.AU,y10.last,y10.AK,y10.AT⟩:AR)).bind fun y11=>
 match y11 with
 | Sum.inr pv9=>(unW 190 pv9).bind fun e19=>some (none,false)
 | Sum.inl y11=>
 (kG (⟨(⟨y11.AB.AH,y11.AB.AD,y11.AB.Code,y11.AB.AG⟩:AB),y11.AU,y11.last,y11.AK,y11.AT⟩:AR) a0.AG (⟨0,a0.AH⟩:AJ)).bind fun y12=>
 match y12 with
 | Sum.inr pv10=>(unW 190 pv10).bind fun e18=>some (none,false)
 | Sum.inl y12=>
 (kM AA AA y12.AB.AH y12.AB.AD y12.AB.Code y12.AB.AG y12.AU y12.last y12.AK y12.AT).bind fun o=>match o with
 | Sum.inr r=>some r
 | Sum.inl (x35,x36,x37,x38,x39,x40,x41,x42)=>
 (bR (decide ((x41.size:Int)=(a0.Code.length:Int)))).bind fun y16=>
 match y16 with
 | Sum.inr pv12=>(unW 190 pv12).bind fun e17=>some (none,false)
 | Sum.inl y16=>
 some (some (⟨(⟨x35,x36,x37,x38⟩:AB),x39,x40,x41,x42⟩:AR),true)
theorem aGl (AA:Nat)  (a0:AB) (r:(Option AR) × Bool) (H:fD AA a0=some r):FnS Tryz.prog 48 [fSt dX a0] [] (dI [fOpt aBY r.1,aL r.2]) (fun _=>[]):=by
 unfold fD at H
 refine aFe Tryz.func48 rfl Tryz.ntmps48 rfl (fun β=>?_)
 refine Z1 ?_
 refine Tn (cG rfl hh bW) fun b1=>?_
 refine Tn (bU rfl aG9 rfl) fun b2=>?_
 refine Tn (bU rfl aAt rfl) fun b3=>?_
 refine Z2 ?_
 refine Yy (vG rfl (aM.cons hh (aM.cons hh aM.nil))) ?_
 refine aEo (vs:=[ptr b2,ptr b3]) a1I rfl rfl (has rfl) ?_
 refine Z3 ?_
 refine Tn (aBT (fun y=>fSt aZ y) bG rfl) fun b4=>?_
 refine Yy (dJ (ψs:=[fI a0.AH,fSl aE a0.AD,fSl aF a0.Code,fI a0.AG,fEq (.slice none 0 0),fEq (.slice none 0 0),fEq (.map (some b4)),fEq (.slice none 0 0)]) rfl aHp rfl (bE.cons (has rfl) bW (bE.cons (has rfl) (bO (aD a1I)) bE.nil)) rfl) ?_
 refine Tn (cG rfl hh bW) fun b5=>?_
 refine bD ?_
 refine bJ (φs':=[fEq (ptr b5)]) a1I rfl rfl (has rfl) (has rfl) (aD a1I) (sz rfl) rfl rfl ?_
 revert H;refine B1z fun o1 H Hr1=>?_
 refine aO (ι:=Int × List AO × List AL × Int × List Int × List Int × aI Int AJ × List Int × Value × Nat × Value) (fun i=>o1=Sum.inl (i.1,i.2.1,i.2.2.1,i.2.2.2.1,i.2.2.2.2.1,i.2.2.2.2.2.1,i.2.2.2.2.2.2.1,i.2.2.2.2.2.2.2.1)) (fun i=>[(1,fEq (ptr b1)),(2,fEq (ptr b2)),(3,fEq (ptr b3))]) (fun i=>[aA b5 150 [fI i.1,fSl aE i.2.1,fSl aF i.2.2.1,fI i.2.2.2.1,fSl tI i.2.2.2.2.1,fEq i.2.2.2.2.2.2.2.2.1,fEq (.map (some i.2.2.2.2.2.2.2.2.2.1)),fEq i.2.2.2.2.2.2.2.2.2.2],aA b2 122 [fEq (ptr b5)],aA b3 4 [aL false],aA b1 25 [fI a0.AH,fSl aE a0.AD,fSl aF a0.Code,fI a0.AG],bK bG (fun y=>fSt aZ y) i.2.2.2.2.2.2.2.2.2.1 i.2.2.2.2.2.2.1,aB i.2.2.2.2.2.2.2.2.1 3 tI i.2.2.2.2.2.1,aB i.2.2.2.2.2.2.2.2.2.2 3 tI i.2.2.2.2.2.2.2.1]) ?_ ?_
 revert H;refine I5z (fun c1 H=>?_) fun c1 H=>?_
 revert H;refine I5z (fun c2 H=>?_) fun c2 H=>?_
 revert H;refine I6z (fun c3 H=>?_) fun c3 H=>?_
 revert H;refine I6z (fun c4 H=>?_) fun c4 H=>?_
 revert H;refine I6z (fun c5 H=>?_) fun c5 H=>?_
 refine Z3 ?_
 refine dQ tI 3 ?_
 refine dQ tI 3 ?_
 refine bD ?_
 refine rV (ψs:=[fI (((⟨a0,[],[],(aI.none:aI Int AJ),[]⟩:AR).AB).AH),fSl aE (((⟨a0,[],[],(aI.none:aI Int AJ),[]⟩:AR).AB).AD),fSl aF (((⟨a0,[],[],(aI.none:aI Int AJ),[]⟩:AR).AB).Code),fI (((⟨a0,[],[],(aI.none:aI Int AJ),[]⟩:AR).AB).AG),fSl tI ((⟨a0,[],[],(aI.none:aI Int AJ),[]⟩:AR).AU),fEq (.slice none 0 0),fEq (.map (some b4)),fEq (.slice none 0 0)]) (aG.cons Ent.rfl (aG.cons Ent.rfl (aG.cons Ent.rfl (aG.cons Ent.rfl (aG.cons cF (aG.cons Ent.rfl (aG.cons Ent.rfl (aG.cons Ent.rfl aG.nil)))))))) ?_
 refine aR ?_
 refine cX ?_
 refine aQ ?_
 refine aP ?_
 refine bD ?_
 refine bD ?_
 refine cW ?_
 revert H;refine bs fun y1 h1 H=>?_
 refine Tc (vE _ _ _ _ h1) ?_
 refine dG (fun v3 v4 v5=>?_)
 refine aQ ?_
 refine dF (fun b7 h2=>?_);subst h2
 refine rc 2 fun _=>?_
 refine rc 3 fun _=>?_
 revert H;refine B1z fun y2 h3 H=>?_
 rcases y2 with y2 | pv1 <;> dsimp only at H
 refine Tc (aW _ _ h3).s ?_
 refine Z1 ?_
 refine aC [1,4,5,6,0,2,3] (by decide) ?_
 exact Tm ((y1.1.AB.AH,y1.1.AB.AD,y1.1.AB.Code,y1.1.AB.AG,y1.1.AU,y1.1.last,y1.1.AK,y1.1.AT,v3,b7,v5)) (ij H)
 refine Tp (aW _ _ h3).pan ?_
 revert H;refine B1z fun r1 H e1=>?_
 cases e1;cases Hr1
 have H0:=H;clear H;obtain⟨e2,h4,H⟩:=bind_some H0;clear H0;have hv_e2:=fR h4;subst hv_e2
 cases H
 refine aC [4,5] (by decide) ?_
 exact fZ (eZ (vs:=[ptr b2,ptr b3]) (u:= .panicking [{ v:= .iface 190 (.agg #[]),recovered:=false }]) (by simp) (cb rfl) (jM _ _ _ _) rfl (jG rfl rfl rfl (sc rfl) (sc rfl) jO Ent.rfl))
 revert H;refine B5z fun y3 h5 H=>?_
 rcases y3 with y3 | pv2 <;> dsimp only at H
 refine Tc (aW _ _ h5).s ?_
 refine Z1 ?_
 refine dQ tI 3 ?_
 refine dQ tI 3 ?_
 refine bD ?_
 refine rV (ψs:=[fI a0.AH,fSl aE a0.AD,fSl aF a0.Code,fI a0.AG,fSl tI [],fEq (.slice none 0 0),fEq (.map (some b4)),fEq (.slice none 0 0)]) (aG.cons Ent.rfl (aG.cons Ent.rfl (aG.cons Ent.rfl (aG.cons Ent.rfl (aG.cons cF (aG.cons Ent.rfl (aG.cons Ent.rfl (aG.cons Ent.rfl aG.nil)))))))) ?_
 refine aC [0,3,5,6,4,2,1] (by decide) ?_
 exact Tm ((a0.AH,a0.AD,a0.Code,a0.AG,[],[],(aI.none:aI Int AJ),[],(.slice none 0 0),b4,(.slice none 0 0))) (ij H)
 refine Tp (aW _ _ h5).pan ?_
 revert H;refine B1z fun r2 H e3=>?_
 cases e3;cases Hr1
 have H0:=H;clear H;obtain⟨e4,h6,H⟩:=bind_some H0;clear H0;have hv_e4:=fR h6;subst hv_e4
 cases H
 refine aC [0,3] (by decide) ?_
 exact fZ (eZ (vs:=[ptr b2,ptr b3]) (u:= .panicking [{ v:= .iface 190 (.agg #[]),recovered:=false }]) (by simp) (cb rfl) (jM _ _ _ _) rfl (jG rfl rfl rfl (sc rfl) (sc rfl) jO Ent.rfl))
 revert H;refine jC fun y4 h7 H=>?_
 rcases y4 with y4 | pv3 <;> dsimp only at H
 refine Tc (aW _ _ h7).s ?_
 refine Z1 ?_
 refine dQ tI 3 ?_
 refine dQ tI 3 ?_
 refine bD ?_
 refine rV (ψs:=[fI a0.AH,fSl aE a0.AD,fSl aF a0.Code,fI a0.AG,fSl tI [],fEq (.slice none 0 0),fEq (.map (some b4)),fEq (.slice none 0 0)]) (aG.cons Ent.rfl (aG.cons Ent.rfl (aG.cons Ent.rfl (aG.cons Ent.rfl (aG.cons cF (aG.cons Ent.rfl (aG.cons Ent.rfl (aG.cons Ent.rfl aG.nil)))))))) ?_
 refine aC [0,3,5,6,4,2,1] (by decide) ?_
 exact Tm ((a0.AH,a0.AD,a0.Code,a0.AG,[],[],(aI.none:aI Int AJ),[],(.slice none 0 0),b4,(.slice none 0 0))) (ij H)
 refine Tp (aW _ _ h7).pan ?_
 revert H;refine B1z fun r3 H e5=>?_
 cases e5;cases Hr1
 have H0:=H;clear H;obtain⟨e6,h8,H⟩:=bind_some H0;clear H0;have hv_e6:=fR h8;subst hv_e6
 cases H
 refine aC [0,3] (by decide) ?_
 exact fZ (eZ (vs:=[ptr b2,ptr b3]) (u:= .panicking [{ v:= .iface 190 (.agg #[]),recovered:=false }]) (by simp) (cb rfl) (jM _ _ _ _) rfl (jG rfl rfl rfl (sc rfl) (sc rfl) jO Ent.rfl))
 refine Z12 ?_
 revert H;refine B5z fun y5 h9 H=>?_
 rcases y5 with y5 | pv4 <;> dsimp only at H
 refine Tc (aW _ _ h9).s ?_
 refine Z1 ?_
 refine dQ tI 3 ?_
 refine dQ tI 3 ?_
 refine bD ?_
 refine rV (ψs:=[fI a0.AH,fSl aE a0.AD,fSl aF a0.Code,fI a0.AG,fSl tI [],fEq (.slice none 0 0),fEq (.map (some b4)),fEq (.slice none 0 0)]) (aG.cons Ent.rfl (aG.cons Ent.rfl (aG.cons Ent.rfl (aG.cons Ent.rfl (aG.cons cF (aG.cons Ent.rfl (aG.cons Ent.rfl (aG.cons Ent.rfl aG.nil)))))))) ?_
 refine aC [0,3,5,6,4,2,1] (by decide) ?_
 exact Tm ((a0.AH,a0.AD,a0.Code,a0.AG,[],[],(aI.none:aI Int AJ),[],(.slice none 0 0),b4,(.slice none 0 0))) (ij H)
 refine Tp (aW _ _ h9).pan ?_
 revert H;refine B1z fun r4 H e7=>?_
 cases e7;cases Hr1
 have H0:=H;clear H;obtain⟨e8,h10,H⟩:=bind_some H0;clear H0;have hv_e8:=fR h10;subst hv_e8
 cases H
 refine aC [0,3] (by decide) ?_
 exact fZ (eZ (vs:=[ptr b2,ptr b3]) (u:= .panicking [{ v:= .iface 190 (.agg #[]),recovered:=false }]) (by simp) (cb rfl) (jM _ _ _ _) rfl (jG rfl rfl rfl (sc rfl) (sc rfl) jO Ent.rfl))
 refine Z12 ?_
 revert H;refine jC fun y6 h11 H=>?_
 rcases y6 with y6 | pv5 <;> dsimp only at H
 refine Tc (aW _ _ h11).s ?_
 refine Z1 ?_
 refine dQ tI 3 ?_
 refine dQ tI 3 ?_
 refine bD ?_
 refine rV (ψs:=[fI a0.AH,fSl aE a0.AD,fSl aF a0.Code,fI a0.AG,fSl tI [],fEq (.slice none 0 0),fEq (.map (some b4)),fEq (.slice none 0 0)]) (aG.cons Ent.rfl (aG.cons Ent.rfl (aG.cons Ent.rfl (aG.cons Ent.rfl (aG.cons cF (aG.cons Ent.rfl (aG.cons Ent.rfl (aG.cons Ent.rfl aG.nil)))))))) ?_
 refine aC [0,3,5,6,4,2,1] (by decide) ?_
 exact Tm ((a0.AH,a0.AD,a0.Code,a0.AG,[],[],(aI.none:aI Int AJ),[],(.slice none 0 0),b4,(.slice none 0 0))) (ij H)
 refine Tp (aW _ _ h11).pan ?_
 revert H;refine B1z fun r5 H e9=>?_
 cases e9;cases Hr1
 have H0:=H;clear H;obtain⟨e10,h12,H⟩:=bind_some H0;clear H0;have hv_e10:=fR h12;subst hv_e10
 cases H
 refine aC [0,3] (by decide) ?_
 exact fZ (eZ (vs:=[ptr b2,ptr b3]) (u:= .panicking [{ v:= .iface 190 (.agg #[]),recovered:=false }]) (by simp) (cb rfl) (jM _ _ _ _) rfl (jG rfl rfl rfl (sc rfl) (sc rfl) jO Ent.rfl))
 refine Z12 ?_
 refine Z12 ?_
 revert H;refine B4z fun y7 h13 H=>?_
 rcases y7 with y7 | pv6 <;> dsimp only at H
 refine Tc (aW _ _ h13).s ?_
 refine Z1 ?_
 refine dQ tI 3 ?_
 refine dQ tI 3 ?_
 refine bD ?_
 refine rV (ψs:=[fI a0.AH,fSl aE a0.AD,fSl aF a0.Code,fI a0.AG,fSl tI [],fEq (.slice none 0 0),fEq (.map (some b4)),fEq (.slice none 0 0)]) (aG.cons Ent.rfl (aG.cons Ent.rfl (aG.cons Ent.rfl (aG.cons Ent.rfl (aG.cons cF (aG.cons Ent.rfl (aG.cons Ent.rfl (aG.cons Ent.rfl aG.nil)))))))) ?_
 refine aC [0,3,5,6,4,2,1] (by decide) ?_
 exact Tm ((a0.AH,a0.AD,a0.Code,a0.AG,[],[],(aI.none:aI Int AJ),[],(.slice none 0 0),b4,(.slice none 0 0))) (ij H)
 refine Tp (aW _ _ h13).pan ?_
 revert H;refine B1z fun r6 H e11=>?_
 cases e11;cases Hr1
 have H0:=H;clear H;obtain⟨e12,h14,H⟩:=bind_some H0;clear H0;have hv_e12:=fR h14;subst hv_e12
 cases H
 refine aC [0,3] (by decide) ?_
 exact fZ (eZ (vs:=[ptr b2,ptr b3]) (u:= .panicking [{ v:= .iface 190 (.agg #[]),recovered:=false }]) (by simp) (cb rfl) (jM _ _ _ _) rfl (jG rfl rfl rfl (sc rfl) (sc rfl) jO Ent.rfl))
 rintro⟨x1,x2,x3,x4,x5,x6,x7,x8,v1,b6,v2⟩ hi;subst o1;replace H:=Hr1;clear Hr1;try dsimp only at H ⊢
 refine rc 5 fun _=>?_
 refine rc 6 fun _=>?_
 revert H;refine bs fun o2 H Hr2=>?_
 refine aO (ι:=Int × List AO × List AL × Int × List Int × List Int × aI Int AJ × List Int × Value × Nat × Value) (fun i=>o2=Sum.inl (i.1,i.2.1,i.2.2.1,i.2.2.2.1,i.2.2.2.2.1,i.2.2.2.2.2.1,i.2.2.2.2.2.2.1,i.2.2.2.2.2.2.2.1)) (fun i=>[(1,fEq (ptr b1)),(2,fEq (ptr b2)),(3,fEq (ptr b3))]) (fun i=>[aA b5 150 [fI i.1,fSl aE i.2.1,fSl aF i.2.2.1,fI i.2.2.2.1,fSl tI i.2.2.2.2.1,fEq i.2.2.2.2.2.2.2.2.1,fEq (.map (some i.2.2.2.2.2.2.2.2.2.1)),fEq i.2.2.2.2.2.2.2.2.2.2],aA b2 122 [fEq (ptr b5)],aA b3 4 [aL false],aA b1 25 [fI a0.AH,fSl aE a0.AD,fSl aF a0.Code,fI a0.AG],bK bG (fun y=>fSt aZ y) i.2.2.2.2.2.2.2.2.2.1 i.2.2.2.2.2.2.1,aB i.2.2.2.2.2.2.2.2.1 3 tI i.2.2.2.2.2.1,aB i.2.2.2.2.2.2.2.2.2.2 3 tI i.2.2.2.2.2.2.2.1]) ?_ ?_
 refine Z7 ?_
 refine Th (ι:=Int × Int × List AO × List AL × Int × List Int × List Int × aI Int AJ × List Int × Value × Nat × Value) (fun i=>qW AA a0 i.1 i.2.1 i.2.2.1 i.2.2.2.1 i.2.2.2.2.1 i.2.2.2.2.2.1 i.2.2.2.2.2.2.1 i.2.2.2.2.2.2.2.1 i.2.2.2.2.2.2.2.2.1 i.2.2.2.2.2.2.2.2.2.1=_) (fun i=>[(1,fEq (ptr b1)),(2,fEq (ptr b2)),(3,fEq (ptr b3)),(46,fSl aE a0.AD),(47,fI (a0.AD.length:Int)),(48,fI i.2.1)]) (fun i=>[aA b5 150 [fI i.2.2.1,fSl aE i.2.2.2.1,fSl aF i.2.2.2.2.1,fI i.2.2.2.2.2.1,fSl tI i.2.2.2.2.2.2.1,fEq i.2.2.2.2.2.2.2.2.2.2.1,fEq (.map (some i.2.2.2.2.2.2.2.2.2.2.2.1)),fEq i.2.2.2.2.2.2.2.2.2.2.2.2],aA b2 122 [fEq (ptr b5)],aA b3 4 [aL false],aA b1 25 [fI a0.AH,fSl aE a0.AD,fSl aF a0.Code,fI a0.AG],bK bG (fun y=>fSt aZ y) i.2.2.2.2.2.2.2.2.2.2.2.1 i.2.2.2.2.2.2.2.2.1,aB i.2.2.2.2.2.2.2.2.2.2.1 3 tI i.2.2.2.2.2.2.2.1,aB i.2.2.2.2.2.2.2.2.2.2.2.2 3 tI i.2.2.2.2.2.2.2.2.2.1]) (AA,0,x1,x2,x3,x4,x5,x6,x7,x8,v1,b6,v2) H (fun _ h=>nomatch h) ?_
 clear H;rintro k1 ⟨x26,x27,x28,x29,x30,x31,x32,x33,x34,v10,b10,v11⟩ H;dsimp only at H ⊢;rw [qW]at H
 refine rc 5 fun _=>?_
 refine rc 6 fun _=>?_
 refine Z3 ?_
 refine aK ?_
 revert H;refine is (fun c6 H=>?_) fun c6 H=>?_
 refine Z3 ?_
 refine aK ?_
 revert H;refine B2z fun y8 h15 H=>?_
 refine Z2 ?_
 refine Tn (bU rfl nS rfl) fun b11=>?_
 refine bT (φs':=[fSl aS y8.AQ,fSl aV y8.AN,fSl aY y8.AP]) a1I rfl rfl (has rfl) (has rfl) (aH (cA) (aH (cA) (aH (cA) bL))) (sz rfl) rfl rfl rfl ?_
 refine Z4 ?_
 refine gE ?_
 refine cX ?_
 refine T_fr7 ?_
 refine aP ?_
 refine T_fr7 ?_
 refine aR ?_
 refine cW ?_
 revert H;refine bs fun y9 h16 H=>?_
 rcases y9 with y9 | pv7 <;> dsimp only at H
 refine Tc (aEW _ _ _ _ _ h16).s ?_
 refine dG (fun v12 v13 v14=>?_)
 refine aQ ?_
 refine dF (fun b12 h17=>?_);subst h17
 refine rc 2 fun _=>?_
 refine rc 3 fun _=>?_
 revert H;refine B4z fun z1 h18 H=>?_
 refine Z3 ?_
 refine aC [1,5,6,7,0,2,3] (by decide) ?_
 exact Tm ((k1,z1,y9.AB.AH,y9.AB.AD,y9.AB.Code,y9.AB.AG,y9.AU,y9.last,y9.AK,y9.AT,v12,b12,v14)) ⟨H,ls⟩
 refine Tp (aEW _ _ _ _ _ h16).pan ?_
 revert H;refine B5z fun r7 H e13=>?_
 cases e13;cases Hr2
 have H0:=H;clear H;obtain⟨e14,h19,H⟩:=bind_some H0;clear H0;have hv_e14:=fR h19;subst hv_e14
 cases H
 refine aC [1,2] (by decide) ?_
 exact fZ (eZ (vs:=[ptr b2,ptr b3]) (u:= .panicking [{ v:= .iface 190 (.agg #[]),recovered:=false }]) (by simp) (cb rfl) (jM _ _ _ _) rfl (jG rfl rfl rfl (sc rfl) (sc rfl) jO Ent.rfl))
 refine Z6 ?_
 exact Tm ((x27,x28,x29,x30,x31,x32,x33,x34,v10,b10,v11)) (ij H)
 rintro⟨x9,x10,x11,x12,x13,x14,x15,x16,v6,b8,v7⟩ hi;subst o2;replace H:=Hr2;clear Hr2;try dsimp only at H ⊢
 refine rc 5 fun _=>?_
 refine rc 6 fun _=>?_
 refine Z2 ?_
 refine aR ?_
 refine cX ?_
 refine qR ?_
 refine aP ?_
 refine qR ?_
 refine bD ?_
 refine cW ?_
 refine bz H fun y10 h20 H=>?_
 rcases y10 with y10 | pv8 <;> dsimp only at H
 refine Tc (aFk _ _ _ _ h20).s ?_
 refine dG (fun v15 v16 v17=>?_)
 refine aQ ?_
 refine dF (fun b13 h21=>?_);subst h21
 refine rc 2 fun _=>?_
 refine rc 3 fun _=>?_
 refine Z3 ?_
 refine cX ?_
 refine bD ?_
 refine aP ?_
 refine bD ?_
 refine bD ?_
 refine cW ?_
 refine bz H fun y11 h22 H=>?_
 rcases y11 with y11 | pv9 <;> dsimp only at H
 refine Tc (aE1 _ _ _ _ h22).s ?_
 refine dG (fun v18 v19 v20=>?_)
 refine aQ ?_
 refine dF (fun b14 h23=>?_);subst h23
 refine rc 2 fun _=>?_
 refine rc 3 fun _=>?_
 refine Z7 ?_
 refine Yy (dJ (ψs:=[fI 0,fI a0.AH]) rfl nW rfl (bE.cons (has rfl) (bO (aD a1I)) bE.nil) rfl) ?_
 refine cX ?_
 refine bD ?_
 refine aP ?_
 refine bD ?_
 refine bD ?_
 refine cW ?_
 refine bz H fun y12 h24 H=>?_
 rcases y12 with y12 | pv10 <;> dsimp only at H
 refine Tc (iL _ _ _ _ _ h24).s ?_
 refine dG (fun v21 v22 v23=>?_)
 refine aQ ?_
 refine dF (fun b15 h25=>?_);subst h25
 refine rc 2 fun _=>?_
 refine rc 3 fun _=>?_
 revert H;refine B1z fun o3 H Hr3=>?_
 refine aO (ι:=Int × List AO × List AL × Int × List Int × List Int × aI Int AJ × List Int × Value × Nat × Value) (fun i=>o3=Sum.inl (i.1,i.2.1,i.2.2.1,i.2.2.2.1,i.2.2.2.2.1,i.2.2.2.2.2.1,i.2.2.2.2.2.2.1,i.2.2.2.2.2.2.2.1)) (fun i=>[(1,fEq (ptr b1)),(2,fEq (ptr b2)),(3,fEq (ptr b3))]) (fun i=>[aA b5 150 [fI i.1,fSl aE i.2.1,fSl aF i.2.2.1,fI i.2.2.2.1,fSl tI i.2.2.2.2.1,fEq i.2.2.2.2.2.2.2.2.1,fEq (.map (some i.2.2.2.2.2.2.2.2.2.1)),fEq i.2.2.2.2.2.2.2.2.2.2],aA b2 122 [fEq (ptr b5)],aA b3 4 [aL false],aA b1 25 [fI a0.AH,fSl aE a0.AD,fSl aF a0.Code,fI a0.AG],bK bG (fun y=>fSt aZ y) i.2.2.2.2.2.2.2.2.2.1 i.2.2.2.2.2.2.1,aB i.2.2.2.2.2.2.2.2.1 3 tI i.2.2.2.2.2.1,aB i.2.2.2.2.2.2.2.2.2.2 3 tI i.2.2.2.2.2.2.2.1]) ?_ ?_
 refine Z1 ?_
 refine aC [1,4,5,6,0,2,3] (by decide) ?_
 refine Th (ι:=Int × List AO × List AL × Int × List Int × List Int × aI Int AJ × List Int × Value × Nat × Value) (fun i=>kM AA i.1 i.2.1 i.2.2.1 i.2.2.2.1 i.2.2.2.2.1 i.2.2.2.2.2.1 i.2.2.2.2.2.2.1 i.2.2.2.2.2.2.2.1 i.2.2.2.2.2.2.2.2.1=_) (fun i=>[(1,fEq (ptr b1)),(2,fEq (ptr b2)),(3,fEq (ptr b3))]) (fun i=>[aA b5 150 [fI i.2.1,fSl aE i.2.2.1,fSl aF i.2.2.2.1,fI i.2.2.2.2.1,fSl tI i.2.2.2.2.2.1,fEq i.2.2.2.2.2.2.2.2.2.1,fEq (.map (some i.2.2.2.2.2.2.2.2.2.2.1)),fEq i.2.2.2.2.2.2.2.2.2.2.2],aA b2 122 [fEq (ptr b5)],aA b3 4 [aL false],aA b1 25 [fI a0.AH,fSl aE a0.AD,fSl aF a0.Code,fI a0.AG],bK bG (fun y=>fSt aZ y) i.2.2.2.2.2.2.2.2.2.2.1 i.2.2.2.2.2.2.2.1,aB i.2.2.2.2.2.2.2.2.2.1 3 tI i.2.2.2.2.2.2.1,aB i.2.2.2.2.2.2.2.2.2.2.2 3 tI i.2.2.2.2.2.2.2.2.1]) (AA,y12.AB.AH,y12.AB.AD,y12.AB.Code,y12.AB.AG,y12.AU,y12.last,y12.AK,y12.AT,v21,b15,v23) H (fun _ h=>nomatch h) ?_
 clear H;rintro k2 ⟨x51,x52,x53,x54,x55,x56,x57,x58,v28,b18,v29⟩ H;dsimp only at H ⊢;rw [kM]at H
 refine rc 5 fun _=>?_
 refine rc 6 fun _=>?_
 refine aK ?_
 revert H;refine I8z (fun c7 H=>?_) fun c7 H=>?_
 refine Z4 ?_
 refine aK ?_
 revert H;refine bs fun z2 h26 H=>?_
 revert H;refine bs fun y13 h27 H=>?_
 apply bQ (ods:=[_,_,_,_,_,_,_,_,_,_,_,_,_]) 13 0 7 bM rfl rfl rfl
 refine ND ?_
 refine M8 ?_
 intros
 refine M1 ?_
 intros
 refine My (xJ rfl hh hh h26) fun _=>?_
 refine M1 ?_
 intros
 refine Mo 6 rfl (kC rfl rfl hh (sc rfl) (dU h27) rfl) fun _=>?_
 refine M1 ?_
 intros
 refine Z2 ?_
 refine aK ?_
 revert H;refine bs fun z3 h28 H=>?_
 revert H;refine bs fun y14 h29 H=>?_
 apply bQ (ods:=[_,_,_,_,_,_,_,_,_,_,_,_,_,_]) 14 0 7 bM rfl rfl rfl
 refine ND ?_
 refine M8 ?_
 intros
 refine M3 ?_
 intros
 refine Mo 6 rfl (aE3 rfl hh hh (el rfl) h29) fun _=>?_
 refine M2 ?_
 intros
 refine Z1 ?_
 refine qR ?_
 refine T_cut 96 rfl h29 (fun v30=>?_)
 refine rc 0 fun hc_v30=>?_
 refine aP ?_
 refine bJ (φs':=[fI x51,fSl aE x52,fSl aF x53,fI x54,fSl tI x55,fEq v28,fEq (.map (some b18)),fEq v30]) a1I rfl rfl (has rfl) (has rfl) (aD hc_v30) (sz rfl) rfl rfl ?_
 refine Z4 ?_
 refine gE ?_
 refine cX ?_
 refine aQ ?_
 refine aP ?_
 refine qR ?_
 refine bD ?_
 refine cW ?_
 revert H;refine bs fun y15 h30 H=>?_
 rcases y15 with y15 | pv11 <;> dsimp only at H
 refine Tc (aCY _ _ _ _ _ h30).s ?_
 refine dG (fun v31 v32 v33=>?_)
 refine aQ ?_
 refine dF (fun b19 h31=>?_);subst h31
 refine rc 2 fun _=>?_
 refine rc 3 fun _=>?_
 refine Z3 ?_
 refine aC [1,4,5,6,0,2,3] (by decide) ?_
 exact Tm ((k2,y15.AB.AH,y15.AB.AD,y15.AB.Code,y15.AB.AG,y15.AU,y15.last,y15.AK,y15.AT,v31,b19,v33)) ⟨H,ls⟩
 refine Tp (aCY _ _ _ _ _ h30).pan ?_
 revert H;refine B4z fun r8 H e15=>?_
 cases e15;cases Hr3
 have H0:=H;clear H;obtain⟨e16,h32,H⟩:=bind_some H0;clear H0;have hv_e16:=fR h32;subst hv_e16
 cases H
 refine aC [0,1] (by decide) ?_
 exact fZ (eZ (vs:=[ptr b2,ptr b3]) (u:= .panicking [{ v:= .iface 190 (.agg #[]),recovered:=false }]) (by simp) (cb rfl) (jM _ _ _ _) rfl (jG rfl rfl rfl (sc rfl) (sc rfl) jO Ent.rfl))
 exact fk
 kernel_rfl
 exact fk
 kernel_rfl
 refine Z6 ?_
 exact Tm ((x51,x52,x53,x54,x55,x56,x57,x58,v28,b18,v29)) (ij H)
 rintro⟨x35,x36,x37,x38,x39,x40,x41,x42,v24,b16,v25⟩ hi;subst o3;replace H:=Hr3;clear Hr3;try dsimp only at H ⊢
 refine rc 5 fun _=>?_
 refine rc 6 fun _=>?_
 refine aK ?_
 apply bQ (ods:=[_,_,_,_,_,_,_,_,_]) 9 0 7 bM rfl rfl rfl
 refine ND ?_
 refine M4 ?_
 intros
 refine Mo 4 rfl (aCi rfl hh aAx) fun _=>?_
 refine M4 ?_
 intros
 refine B1 H fun y16 h33 H=>?_
 rcases y16 with y16 | pv12 <;> dsimp only at H
 refine Tc (aW _ _ h33).s ?_
 refine Z3 ?_
 refine aP ?_
 refine bJ (φs':=[fEq (ptr b5)]) a1I rfl rfl (has rfl) (has rfl) (aD a1I) (sz rfl) rfl rfl ?_
 refine aQ ?_
 refine bJ (φs':=[aL true]) a1I rfl rfl (has rfl) (has rfl) (aD a1I) (sz rfl) rfl rfl ?_
 refine Z2 ?_
 refine gE ?_
 refine cP (φ:=fSl tI x40) (v:=v24) [] cD (fun _ h=>nomatch h) ?_
 refine bD ?_
 refine aP ?_
 refine eX (φs':=[fI x35,fSl aE x36,fSl aF x37,fI x38,fSl tI x39,fSl tI x40,fEq (.map (some b16)),fEq v25]) (i:=5) rfl rfl ?_
 refine cL ?_
 refine aR ?_
 refine cP (φ:=fMap bG (fun y=>fSt aZ y) x41) (v:= .map (some b16)) [105] frz_map fz ?_
 refine eX (φs':=[fI x35,fSl aE x36,fSl aF x37,fI x38,fSl tI x39,fSl tI x40,fMap bG (fun y=>fSt aZ y) x41,fEq v25]) (i:=6) rfl rfl ?_
 refine cL ?_
 refine aR ?_
 refine cP (φ:=fSl tI x42) (v:=v25) [] cD (fun _ h=>nomatch h) ?_
 refine eX (φs':=[fI x35,fSl aE x36,fSl aF x37,fI x38,fSl tI x39,fSl tI x40,fMap bG (fun y=>fSt aZ y) x41,fSl tI x42]) (i:=7) rfl rfl ?_
 refine cL ?_
 refine cP (φ:=bV aBY (⟨(⟨x35,x36,x37,x38⟩:AB),x39,x40,x41,x42⟩:AR)) (v:=ptr b5) [102,103,112] (yO aG.rfl) fz ?_
 refine aQ ?_
 refine aP ?_
 refine eX (φs':=[bV aBY (⟨(⟨x35,x36,x37,x38⟩:AB),x39,x40,x41,x42⟩:AR)]) (i:=0) rfl rfl ?_
 refine cL ?_
 cases H
 refine aC [0,1] (by decide) ?_
 exact aCD (eZ (vs:=[ptr b2,ptr b3]) (u:= .returning) (by simp) (cb rfl) (aG7 _ _ _ _) rfl (jG rfl rfl rfl (sc rfl) (sc rfl) ent_optS Ent.rfl))
 refine Tp (aW _ _ h33).pan ?_
 refine Z1 ?_
 have H0:=H;clear H;obtain⟨e17,h34,H⟩:=bind_some H0;clear H0;have hv_e17:=fR h34;subst hv_e17
 cases H
 refine aC [1,2] (by decide) ?_
 exact fZ (eZ (vs:=[ptr b2,ptr b3]) (u:= .panicking [{ v:= .iface 190 (.agg #[]),recovered:=false }]) (by simp) (cb rfl) (jM _ _ _ _) rfl (jG rfl rfl rfl (sc rfl) (sc rfl) jO Ent.rfl))
 exact fk
 kernel_rfl
 refine Tp (iL _ _ _ _ _ h24).pan ?_
 refine Z1 ?_
 have H0:=H;clear H;obtain⟨e18,h35,H⟩:=bind_some H0;clear H0;have hv_e18:=fR h35;subst hv_e18
 cases H
 refine aC [0,1] (by decide) ?_
 exact fZ (eZ (vs:=[ptr b2,ptr b3]) (u:= .panicking [{ v:= .iface 190 (.agg #[]),recovered:=false }]) (by simp) (cb rfl) (jM _ _ _ _) rfl (jG rfl rfl rfl (sc rfl) (sc rfl) jO Ent.rfl))
 refine Tp (aE1 _ _ _ _ h22).pan ?_
 refine Z1 ?_
 have H0:=H;clear H;obtain⟨e19,h36,H⟩:=bind_some H0;clear H0;have hv_e19:=fR h36;subst hv_e19
 cases H
 refine aC [0,1] (by decide) ?_
 exact fZ (eZ (vs:=[ptr b2,ptr b3]) (u:= .panicking [{ v:= .iface 190 (.agg #[]),recovered:=false }]) (by simp) (cb rfl) (jM _ _ _ _) rfl (jG rfl rfl rfl (sc rfl) (sc rfl) jO Ent.rfl))
 refine Tp (aFk _ _ _ _ h20).pan ?_
 refine Z1 ?_
 have H0:=H;clear H;obtain⟨e20,h37,H⟩:=bind_some H0;clear H0;have hv_e20:=fR h37;subst hv_e20
 cases H
 refine aC [0,1] (by decide) ?_
 exact fZ (eZ (vs:=[ptr b2,ptr b3]) (u:= .panicking [{ v:= .iface 190 (.agg #[]),recovered:=false }]) (by simp) (cb rfl) (jM _ _ _ _) rfl (jG rfl rfl rfl (sc rfl) (sc rfl) jO Ent.rfl))
def kW (AA:Nat) (a0:AB):Option (Int):=
 (fD AA (⟨a0.AH,a0.AD,a0.Code,a0.AG⟩:AB)).bind fun y1=>
 bif y1.2 then
  some 0
 else
  some 2
theorem aDX (AA:Nat)  (a0:AB) (r:Int) (H:kW AA a0=some r):FnS Tryz.prog 18 [fSt dX a0] [] (fI r) (fun _=>[]):=by
 unfold kW at H
 refine bY Tryz.func18 rfl Tryz.ntmps18 rfl (fun β=>?_)
 refine Z1 ?_
 refine Tn (cG rfl hh bW) fun b1=>?_
 refine Z2 ?_
 refine aK ?_
 refine B2 H fun y1 h1 H=>?_
 refine Tc (aGl _ _ _ h1) ?_
 refine Z10 ?_
 refine cz H (fun c1 H=>?_) fun c1 H=>?_
 refine Z7 ?_
 cases H
 refine aC [] (by decide) ?_
 exact To
 refine Z5 ?_
 cases H
 refine aC [] (by decide) ?_
 exact To
def sE  :Nat->Int->(List Int)->Option (Int × List Int)
| 0,_,_=>none
| k+1,x10,x11=>
 if 128<=x10 then
  (jB .i64 x10 128).bind fun z1=>
  (chk (z1+128)).bind fun z2=>
  (cY (x11++[IntKind.wrap .u8 z2])).bind fun z3=>
  (hJ .i64 x10 128).bind fun z4=>
  sE k z4 z3
 else
  some (x10,x11)
def pW (AA:Nat) (a1:List Int):Nat->Int->(List Int)->Option (List Int)
| 0,_,_=>none
| k+1,x3,x4=>
 if x3<(a1.length:Int)then
  ((idx a1 x3).bind fun y1=>
  (sE AA y1 x4).bind fun (x6,x7)=>
  (cY (x7++[IntKind.wrap .u8 x6])).bind fun z5=>
  some z5).bind fun x5=>
  (chk (x3+1)).bind fun z6=>
  pW AA a1 k z6 x5
 else
  some x4
def fS (AA:Nat) (a0:List Int) (a1:List Int):Option (List Int):=
 pW AA a1 AA 0 a0
theorem jF (AA:Nat) (p0:Nat) (a0:List Int) (a1:List Int) (r:List Int) (H:fS AA a0 a1=some r):FnS Tryz.prog 28 [fEq (.pointer (some ⟨p0,0,none⟩)),fSl tI a1] [aAi p0 a0] (dI []) (fun _=>[aAi p0 r]):=by
 unfold fS at H
 refine bY Tryz.func28 rfl Tryz.ntmps28 rfl (fun β=>?_)
 refine hZ (fun v1=>?_)
 refine rc 1 fun _=>?_
 refine Z6 ?_
 refine Th (ι:=Int × List Int × Value) (fun i=>pW AA a1 i.1 i.2.1 i.2.2.1=_) (fun i=>[(0,fEq (ptr p0)),(6,fSl tI a1),(7,fI (a1.length:Int)),(8,fI i.2.1)]) (fun i=>[aA p0 72 [fEq i.2.2.2],aB i.2.2.2 5 (aJ .u8) i.2.2.1]) (AA,0,a0,v1) H (fun _ h=>nomatch h) ?_
 clear H;rintro k1 ⟨x3,x4,v3⟩ H;dsimp only at H ⊢;rw [pW]at H
 refine rc 1 fun _=>?_
 refine Z3 ?_
 refine aK ?_
 refine iz H (fun c1 H=>?_) fun c1 H=>?_
 revert H;refine B3z fun o1 H Hr1=>?_
 refine aO (ι:=List Int × Value) (fun i=>o1=i.1) (fun i=>[(0,fEq (ptr p0)),(6,fSl tI a1),(7,fI (a1.length:Int)),(8,fI x3)]) (fun i=>[aA p0 72 [fEq i.2],aB i.2 5 (aJ .u8) i.1]) ?_ ?_
 revert H;refine B2z fun y1 h1 H=>?_
 revert H;refine B4z fun o2 H Hr2=>?_
 refine aO (ι:=Int × List Int × Value) (fun i=>o2=(i.1,i.2.1)) (fun i=>[(0,fEq (ptr p0)),(6,fSl tI a1),(7,fI (a1.length:Int)),(8,fI x3),(5,fI i.1)]) (fun i=>[aA p0 72 [fEq i.2.2],aB i.2.2 5 (aJ .u8) i.2.1]) ?_ ?_
 refine Z1 ?_
 refine Th (ι:=Int × List Int × Value) (fun i=>sE i.1 i.2.1 i.2.2.1=_) (fun i=>[(0,fEq (ptr p0)),(6,fSl tI a1),(7,fI (a1.length:Int)),(8,fI x3),(5,fI i.2.1)]) (fun i=>[aA p0 72 [fEq i.2.2.2],aB i.2.2.2 5 (aJ .u8) i.2.2.1]) (AA,y1,x4,v3) H (fun _ h=>nomatch h) ?_
 clear H;rintro k2 ⟨x10,x11,v7⟩ H;dsimp only at H ⊢;rw [sE]at H
 refine rc 1 fun _=>?_
 refine aK ?_
 revert H;refine I4z (fun c2 H=>?_) fun c2 H=>?_
 revert H;refine fP fun z1 h2 H=>?_
 refine Yy (uF rfl hh hh h2) ?_
 revert H;refine bs fun z2 h3 H=>?_
 refine Z1 ?_
 refine Yy (sI rfl hh tX sN) ?_
 refine Tn (cE (t:=(aJ .u8)) (xs:=[IntKind.wrap .u8 z2]) rfl (et rfl) (aX.cons rfl (has rfl) (bO (aD a1I)) aX.nil) rfl rfl rfl) fun b1=>?_
 generalize (Value.slice (some ⟨b1,0,none⟩) _ _)=v8
 refine rc 0 fun _=>?_
 revert H;refine bs fun z3 h4 H=>?_
 refine aQ ?_
 refine aP ?_
 refine gJ a1I rfl rfl rfl (has rfl) (has rfl) (et rfl) rfl h4 (fun v9=>?_)
 refine rc 0 fun hc_v9=>?_
 refine Z1 ?_
 refine aP ?_
 refine bJ (φs':=[fEq v9]) a1I rfl rfl (has rfl) (has rfl) (aD hc_v9) (sz rfl) rfl rfl ?_
 revert H;refine B3z fun z4 h5 H=>?_
 refine Yy (rT rfl hh hh h5) ?_
 refine Z4 ?_
 exact Tm ((k2,z4,z3,v9)) ⟨H,ls⟩
 refine Z6 ?_
 exact Tm ((x10,x11,v7)) (ij H)
 rintro⟨x6,x7,v5⟩ hi;subst o2;replace H:=Hr2;clear Hr2;try dsimp only at H ⊢
 refine rc 1 fun _=>?_
 refine Z6 ?_
 refine Yy (sI rfl hh tX sN) ?_
 refine Tn (cE (t:=(aJ .u8)) (xs:=[IntKind.wrap .u8 x6]) rfl (et rfl) (aX.cons rfl (has rfl) (bO (aD a1I)) aX.nil) rfl rfl rfl) fun b2=>?_
 generalize (Value.slice (some ⟨b2,0,none⟩) _ _)=v10
 refine rc 0 fun _=>?_
 revert H;refine bs fun z5 h6 H=>?_
 refine aQ ?_
 refine aP ?_
 refine gJ a1I rfl rfl rfl (has rfl) (has rfl) (et rfl) rfl h6 (fun v11=>?_)
 refine rc 0 fun hc_v11=>?_
 refine Z1 ?_
 refine aP ?_
 refine bJ (φs':=[fEq v11]) a1I rfl rfl (has rfl) (has rfl) (aD hc_v11) (sz rfl) rfl rfl ?_
 refine Z3 ?_
 exact Tm ((z5,v11)) (ij H)
 rintro⟨x5,v4⟩ hi;subst o1;replace H:=Hr1;clear Hr1;try dsimp only at H ⊢
 refine rc 1 fun _=>?_
 refine B1 H fun z6 h7 H=>?_
 refine Z3 ?_
 exact Tm ((k1,z6,x5,v4)) ⟨H,ls⟩
 refine Z5 ?_
 refine hO (x:=x4) ?_
 cases H
 exact cV (.inr rfl) rfl rfl
def yZ (a0:AL) (a1:Int):Option (List Int):=
 (slc [a0.A,a0.B] 0 a1).bind fun y1=>
 some y1
theorem aIr  (a0:AL) (a1:Int) (r:List Int) (H:yZ a0 a1=some r):FnS Tryz.prog 30 [fSt aF a0,fI a1] [] (fSl tI r) (fun _=>[]):=by
 unfold yZ at H
 refine bY Tryz.func30 rfl Tryz.ntmps30 rfl (fun β=>?_)
 refine Z1 ?_
 refine Tn (cG rfl hh bW) fun b1=>?_
 refine Z7 ?_
 refine Tn (cE (t:=tI) (xs:=[a0.A,a0.B]) rfl (et rfl) (aX.cons rfl (has rfl) (bO (aD a1I)) (aX.cons rfl (has rfl) (bO (aD a1I)) aX.nil)) rfl rfl rfl) fun b2=>?_
 generalize (Value.slice (some ⟨b2,0,none⟩) _ _)=v1
 refine rc 0 fun _=>?_
 refine Z1 ?_
 refine cP (φ:=fSl tI [a0.A,a0.B]) (v:=v1) [9] cD fz ?_
 refine cL ?_
 refine bz H fun y1 h1 H=>?_
 refine Yy (vN (t:=tI) rfl hh xP (vP hh) (el rfl) h1) ?_
 refine Z3 ?_
 cases H
 refine aC [] (by decide) ?_
 exact To
open Go.SX Go.SW Go.Dt
def rL (AA:Nat) (y3:AO):Nat->Int->(List Int)->Option (List Int)
| 0,_,_=>none
| k+1,x10,x11=>
 if x10<(y3.AQ.length:Int)then
  (idx y3.AQ x10).bind fun y5=>
  (fS AA x11 [y5.At,y5.Ae]).bind fun y6=>
  (chk (x10+1)).bind fun z1=>
  rL AA y3 k z1 y6
 else
  some x11
def rS (AA:Nat) (y3:AO):Nat->Int->(List Int)->Option (List Int)
| 0,_,_=>none
| k+1,x15,x16=>
 if x15<(y3.AN.length:Int)then
  (idx y3.AN x15).bind fun y8=>
  (fS AA x16 [y8.In,y8.AV]).bind fun y9=>
  (chk (x15+1)).bind fun z2=>
  rS AA y3 k z2 y9
 else
  some x16
def qP (AA:Nat) (y3:AO):Nat->Int->(List Int)->Option (List Int)
| 0,_,_=>none
| k+1,x19,x20=>
 if x19<(y3.AP.length:Int)then
  (idx y3.AP x19).bind fun y11=>
  (fS AA x20 [y11.At,y11.AV,(y11.AX.length:Int)]).bind fun y12=>
  (fS AA y12 y11.AX).bind fun y13=>
  (chk (x19+1)).bind fun z3=>
  qP AA y3 k z3 y13
 else
  some x20
def rE (AA:Nat) (a0:AB):Nat->Int->(List Int)->Option (List Int)
| 0,_,_=>none
| k+1,x4,x5=>
 if x4<(a0.AD.length:Int)then
  ((idx a0.AD x4).bind fun y3=>
  (fS AA x5 [(y3.AQ.length:Int)]).bind fun y4=>
  (rL AA y3 AA 0 y4).bind fun x7=>
  (fS AA x7 [(y3.AN.length:Int)]).bind fun y7=>
  (rS AA y3 AA 0 y7).bind fun x12=>
  (fS AA x12 [(y3.AP.length:Int)]).bind fun y10=>
  qP AA y3 AA 0 y10).bind fun x6=>
  (chk (x4+1)).bind fun z4=>
  rE AA a0 k z4 x6
 else
  some x5
def qZ (AA:Nat) (a0:AB):Nat->Int->(List Int)->Option (List Int)
| 0,_,_=>none
| k+1,x24,x25=>
 if x24<(a0.Code.length:Int)then
  ((idx a0.Code x24).bind fun y16=>
  (fS AA x25 [y16.Op]).bind fun y17=>
  if y16.Op=1 then
   if y16.A<0 then
    (chk ((-2)*y16.A)).bind fun z5=>
    (chk (z5 - 1)).bind fun z6=>
    (fS AA y17 [z6]).bind fun y18=>
    some y18
   else
    (chk (2*y16.A)).bind fun z7=>
    (fS AA y17 [z7]).bind fun y19=>
    some y19
  else
   (idx nH y16.Op).bind fun y20=>
   (yZ (⟨y16.Op,y16.A,y16.B⟩:AL) y20.many).bind fun y21=>
   (fS AA y17 y21).bind fun y22=>
   some y22).bind fun x26=>
  (chk (x24+1)).bind fun z8=>
  qZ AA a0 k z8 x26
 else
  some x25
def nG (AA:Nat) (a0:AB):Option ((List Int) × Int):=
 (kW AA (⟨a0.AH,a0.AD,a0.Code,a0.AG⟩:AB)).bind fun y1=>
 if y1≠0 then
  some ([],y1)
 else
  (fS AA [] [a0.AH,a0.AG,(a0.AD.length:Int)]).bind fun y2=>
  (rE AA a0 AA 0 y2).bind fun x1=>
  (fS AA x1 [(a0.Code.length:Int)]).bind fun y14=>
  (pD).bind fun y15=>
  (qZ AA a0 AA 0 y14).bind fun x21=>
  some (x21,0)
theorem aGe (AA:Nat)  (a0:AB) (r:(List Int) × Int) (H:nG AA a0=some r):FnS Tryz.prog 8 [fSt dX a0] [] (dI [fSl (aJ .u8) r.1,fI r.2]) (fun _=>[]):=by
 unfold nG at H
 refine bY Tryz.func8 rfl Tryz.ntmps8 rfl (fun β=>?_)
 refine Z1 ?_
 refine Tn (cG rfl hh bW) fun b1=>?_
 refine Z3 ?_
 refine aK ?_
 refine B2 H fun y1 h1 H=>?_
 refine Tc (aDX _ _ _ h1) ?_
 refine I6 H (fun c1 H=>?_) fun c1 H=>?_
 refine Z7 ?_
 cases H
 refine aC [] (by decide) ?_
 exact qN rfl (hasSE rfl cF) (cM rfl) rfl
 refine Z4 ?_
 refine Tn (bU rfl aDR rfl) fun b2=>?_
 refine Z9 ?_
 refine Tn (cE (t:=tI) (xs:=[a0.AH,a0.AG,(a0.AD.length:Int)]) rfl (et rfl) (aX.cons rfl (has rfl) (bO (aD a1I)) (aX.cons rfl (has rfl) (bO (aD a1I)) (aX.cons rfl (has rfl) (bO (aD a1I)) aX.nil))) rfl rfl rfl) fun b3=>?_
 generalize (Value.slice (some ⟨b3,0,none⟩) _ _)=v1
 refine rc 0 fun _=>?_
 refine cP (φ:=fSl tI [a0.AH,a0.AG,(a0.AD.length:Int)]) (v:=v1) [29] cD fz ?_
 refine cL ?_
 refine dQ (aJ .u8) 5 ?_
 refine aP ?_
 refine hO (x:=[]) ?_
 refine bz H fun y2 h2 H=>?_
 refine Tc (jF _ _ _ _ _ h2) ?_
 refine hZ (fun v2=>?_)
 refine rc 1 fun _=>?_
 revert H;refine B1z fun o1 H Hr1=>?_
 refine aO (ι:=List Int × Value) (fun i=>o1=i.1) (fun i=>[(1,fEq (ptr b1)),(5,fEq (ptr b2))]) (fun i=>[aA b2 72 [fEq i.2],aA b1 25 [fI a0.AH,fSl aE a0.AD,fSl aF a0.Code,fI a0.AG],aB i.2 5 (aJ .u8) i.1]) ?_ ?_
 refine Z7 ?_
 refine aC [0,2,1] (by decide) ?_
 refine Th (ι:=Int × List Int × Value) (fun i=>rE AA a0 i.1 i.2.1 i.2.2.1=_) (fun i=>[(1,fEq (ptr b1)),(5,fEq (ptr b2)),(32,fSl aE a0.AD),(33,fI (a0.AD.length:Int)),(34,fI i.2.1)]) (fun i=>[aA b2 72 [fEq i.2.2.2],aA b1 25 [fI a0.AH,fSl aE a0.AD,fSl aF a0.Code,fI a0.AG],aB i.2.2.2 5 (aJ .u8) i.2.2.1]) (AA,0,y2,v2) H (fun _ h=>nomatch h) ?_
 clear H;rintro k1 ⟨x4,x5,v5⟩ H;dsimp only at H ⊢;rw [rE]at H
 refine rc 2 fun _=>?_
 refine Z3 ?_
 refine aK ?_
 revert H;refine is (fun c2 H=>?_) fun c2 H=>?_
 revert H;refine B3z fun o2 H Hr2=>?_
 refine aO (ι:=List Int × Value) (fun i=>o2=i.1) (fun i=>[(1,fEq (ptr b1)),(5,fEq (ptr b2)),(32,fSl aE a0.AD),(33,fI (a0.AD.length:Int)),(34,fI x4)]) (fun i=>[aA b2 72 [fEq i.2],aA b1 25 [fI a0.AH,fSl aE a0.AD,fSl aF a0.Code,fI a0.AG],aB i.2 5 (aJ .u8) i.1]) ?_ ?_
 revert H;refine B2z fun y3 h3 H=>?_
 refine Z2 ?_
 refine Tn (bU rfl nS rfl) fun b4=>?_
 refine bT (φs':=[fSl aS y3.AQ,fSl aV y3.AN,fSl aY y3.AP]) a1I rfl rfl (has rfl) (has rfl) (aH (cA) (aH (cA) (aH (cA) bL))) (sz rfl) rfl rfl rfl ?_
 refine Z5 ?_
 refine Tn (cE (t:=tI) (xs:=[(y3.AQ.length:Int)]) rfl (et rfl) (aX.cons rfl (has rfl) (bO (aD a1I)) aX.nil) rfl rfl rfl) fun b5=>?_
 generalize (Value.slice (some ⟨b5,0,none⟩) _ _)=v7
 refine rc 0 fun _=>?_
 refine cP (φ:=fSl tI [(y3.AQ.length:Int)]) (v:=v7) [41] cD fz ?_
 refine cL ?_
 refine bD ?_
 refine aQ ?_
 refine hO (x:=x5) ?_
 revert H;refine bs fun y4 h4 H=>?_
 refine Tc (jF _ _ _ _ _ h4) ?_
 refine hZ (fun v8=>?_)
 refine rc 1 fun _=>?_
 revert H;refine B1z fun o3 H Hr3=>?_
 refine aO (ι:=List Int × Value) (fun i=>o3=i.1) (fun i=>[(1,fEq (ptr b1)),(5,fEq (ptr b2)),(32,fSl aE a0.AD),(33,fI (a0.AD.length:Int)),(34,fI x4),(7,fEq (ptr b4))]) (fun i=>[aA b2 72 [fEq i.2],aA b4 78 [fSl aS y3.AQ,fSl aV y3.AN,fSl aY y3.AP],aA b1 25 [fI a0.AH,fSl aE a0.AD,fSl aF a0.Code,fI a0.AG],aB i.2 5 (aJ .u8) i.1]) ?_ ?_
 refine Z7 ?_
 refine aC [0,2,3,1] (by decide) ?_
 refine Th (ι:=Int × List Int × Value) (fun i=>rL AA y3 i.1 i.2.1 i.2.2.1=_) (fun i=>[(1,fEq (ptr b1)),(5,fEq (ptr b2)),(32,fSl aE a0.AD),(33,fI (a0.AD.length:Int)),(34,fI x4),(7,fEq (ptr b4)),(44,fSl aS y3.AQ),(45,fI (y3.AQ.length:Int)),(46,fI i.2.1)]) (fun i=>[aA b2 72 [fEq i.2.2.2],aA b4 78 [fSl aS y3.AQ,fSl aV y3.AN,fSl aY y3.AP],aA b1 25 [fI a0.AH,fSl aE a0.AD,fSl aF a0.Code,fI a0.AG],aB i.2.2.2 5 (aJ .u8) i.2.2.1]) (AA,0,y4,v8) H (fun _ h=>nomatch h) ?_
 clear H;rintro k2 ⟨x10,x11,v11⟩ H;dsimp only at H ⊢;rw [rL]at H
 refine rc 3 fun _=>?_
 refine Z3 ?_
 refine aK ?_
 revert H;refine is (fun c3 H=>?_) fun c3 H=>?_
 refine Z3 ?_
 refine aK ?_
 revert H;refine B2z fun y5 h5 H=>?_
 refine Z2 ?_
 refine Tn (bU rfl aFh rfl) fun b6=>?_
 refine bT (φs':=[fI y5.At,fI y5.Ae]) a1I rfl rfl (has rfl) (has rfl) (aH (aD a1I) (aH (aD a1I) bL)) (sz rfl) rfl rfl rfl ?_
 refine Z6 ?_
 refine Tn (cE (t:=tI) (xs:=[y5.At,y5.Ae]) rfl (et rfl) (aX.cons rfl (has rfl) (bO (aD a1I)) (aX.cons rfl (has rfl) (bO (aD a1I)) aX.nil)) rfl rfl rfl) fun b7=>?_
 generalize (Value.slice (some ⟨b7,0,none⟩) _ _)=v12
 refine rc 0 fun _=>?_
 refine cP (φ:=fSl tI [y5.At,y5.Ae]) (v:=v12) [54] cD fz ?_
 refine cL ?_
 refine aR ?_
 refine aQ ?_
 refine hO (x:=x11) ?_
 revert H;refine bs fun y6 h6 H=>?_
 refine Tc (jF _ _ _ _ _ h6) ?_
 refine hZ (fun v13=>?_)
 refine rc 1 fun _=>?_
 revert H;refine B4z fun z1 h7 H=>?_
 refine Z3 ?_
 refine aC [0,3,4,1] (by decide) ?_
 exact Tm ((k2,z1,y6,v13)) ⟨H,ls⟩
 refine Z6 ?_
 exact Tm ((x11,v11)) (ij H)
 rintro⟨x7,v9⟩ hi;subst o3;replace H:=Hr3;clear Hr3;try dsimp only at H ⊢
 refine rc 3 fun _=>?_
 refine Z4 ?_
 refine Tn (cE (t:=tI) (xs:=[(y3.AN.length:Int)]) rfl (et rfl) (aX.cons rfl (has rfl) (bO (aD a1I)) aX.nil) rfl rfl rfl) fun b8=>?_
 generalize (Value.slice (some ⟨b8,0,none⟩) _ _)=v14
 refine rc 0 fun _=>?_
 refine cP (φ:=fSl tI [(y3.AN.length:Int)]) (v:=v14) [60] cD fz ?_
 refine cL ?_
 refine bD ?_
 refine aP ?_
 refine hO (x:=x7) ?_
 revert H;refine bs fun y7 h8 H=>?_
 refine Tc (jF _ _ _ _ _ h8) ?_
 refine hZ (fun v15=>?_)
 refine rc 1 fun _=>?_
 revert H;refine B1z fun o4 H Hr4=>?_
 refine aO (ι:=List Int × Value) (fun i=>o4=i.1) (fun i=>[(1,fEq (ptr b1)),(5,fEq (ptr b2)),(32,fSl aE a0.AD),(33,fI (a0.AD.length:Int)),(34,fI x4),(7,fEq (ptr b4))]) (fun i=>[aA b2 72 [fEq i.2],aA b4 78 [fSl aS y3.AQ,fSl aV y3.AN,fSl aY y3.AP],aA b1 25 [fI a0.AH,fSl aE a0.AD,fSl aF a0.Code,fI a0.AG],aB i.2 5 (aJ .u8) i.1]) ?_ ?_
 refine Z7 ?_
 refine aC [0,2,3,1] (by decide) ?_
 refine Th (ι:=Int × List Int × Value) (fun i=>rS AA y3 i.1 i.2.1 i.2.2.1=_) (fun i=>[(1,fEq (ptr b1)),(5,fEq (ptr b2)),(32,fSl aE a0.AD),(33,fI (a0.AD.length:Int)),(34,fI x4),(7,fEq (ptr b4)),(63,fSl aV y3.AN),(64,fI (y3.AN.length:Int)),(65,fI i.2.1)]) (fun i=>[aA b2 72 [fEq i.2.2.2],aA b4 78 [fSl aS y3.AQ,fSl aV y3.AN,fSl aY y3.AP],aA b1 25 [fI a0.AH,fSl aE a0.AD,fSl aF a0.Code,fI a0.AG],aB i.2.2.2 5 (aJ .u8) i.2.2.1]) (AA,0,y7,v15) H (fun _ h=>nomatch h) ?_
 clear H;rintro k3 ⟨x15,x16,v18⟩ H;dsimp only at H ⊢;rw [rS]at H
 refine rc 3 fun _=>?_
 refine Z3 ?_
 refine aK ?_
 revert H;refine is (fun c4 H=>?_) fun c4 H=>?_
 refine Z3 ?_
 refine aK ?_
 revert H;refine B2z fun y8 h9 H=>?_
 refine Z2 ?_
 refine Tn (bU rfl aAd rfl) fun b9=>?_
 refine bT (φs':=[fI y8.In,fI y8.AV]) a1I rfl rfl (has rfl) (has rfl) (aH (aD a1I) (aH (aD a1I) bL)) (sz rfl) rfl rfl rfl ?_
 refine Z6 ?_
 refine Tn (cE (t:=tI) (xs:=[y8.In,y8.AV]) rfl (et rfl) (aX.cons rfl (has rfl) (bO (aD a1I)) (aX.cons rfl (has rfl) (bO (aD a1I)) aX.nil)) rfl rfl rfl) fun b10=>?_
 generalize (Value.slice (some ⟨b10,0,none⟩) _ _)=v19
 refine rc 0 fun _=>?_
 refine cP (φ:=fSl tI [y8.In,y8.AV]) (v:=v19) [73] cD fz ?_
 refine cL ?_
 refine aR ?_
 refine aQ ?_
 refine hO (x:=x16) ?_
 revert H;refine bs fun y9 h10 H=>?_
 refine Tc (jF _ _ _ _ _ h10) ?_
 refine hZ (fun v20=>?_)
 refine rc 1 fun _=>?_
 revert H;refine B4z fun z2 h11 H=>?_
 refine Z3 ?_
 refine aC [0,3,4,1] (by decide) ?_
 exact Tm ((k3,z2,y9,v20)) ⟨H,ls⟩
 refine Z6 ?_
 exact Tm ((x16,v18)) (ij H)
 rintro⟨x12,v16⟩ hi;subst o4;replace H:=Hr4;clear Hr4;try dsimp only at H ⊢
 refine rc 3 fun _=>?_
 refine Z4 ?_
 refine Tn (cE (t:=tI) (xs:=[(y3.AP.length:Int)]) rfl (et rfl) (aX.cons rfl (has rfl) (bO (aD a1I)) aX.nil) rfl rfl rfl) fun b11=>?_
 generalize (Value.slice (some ⟨b11,0,none⟩) _ _)=v21
 refine rc 0 fun _=>?_
 refine cP (φ:=fSl tI [(y3.AP.length:Int)]) (v:=v21) [79] cD fz ?_
 refine cL ?_
 refine bD ?_
 refine aP ?_
 refine hO (x:=x12) ?_
 revert H;refine bs fun y10 h12 H=>?_
 refine Tc (jF _ _ _ _ _ h12) ?_
 refine hZ (fun v22=>?_)
 refine rc 1 fun _=>?_
 refine Z8 ?_
 refine aC [0,2,3,1] (by decide) ?_
 refine Th (ι:=Int × List Int × Value) (fun i=>qP AA y3 i.1 i.2.1 i.2.2.1=_) (fun i=>[(1,fEq (ptr b1)),(5,fEq (ptr b2)),(32,fSl aE a0.AD),(33,fI (a0.AD.length:Int)),(34,fI x4),(82,fSl aY y3.AP),(83,fI (y3.AP.length:Int)),(84,fI i.2.1)]) (fun i=>[aA b2 72 [fEq i.2.2.2],aA b4 78 [fSl aS y3.AQ,fSl aV y3.AN,fSl aY y3.AP],aA b1 25 [fI a0.AH,fSl aE a0.AD,fSl aF a0.Code,fI a0.AG],aB i.2.2.2 5 (aJ .u8) i.2.2.1]) (AA,0,y10,v22) H (fun _ h=>nomatch h) ?_
 clear H;rintro k4 ⟨x19,x20,v24⟩ H;dsimp only at H ⊢;rw [qP]at H
 refine rc 3 fun _=>?_
 refine Z3 ?_
 refine aK ?_
 revert H;refine is (fun c5 H=>?_) fun c5 H=>?_
 refine Z3 ?_
 refine aK ?_
 revert H;refine B2z fun y11 h13 H=>?_
 refine Z2 ?_
 refine Tn (bU rfl mK rfl) fun b12=>?_
 refine bT (φs':=[fI y11.At,fSl tI y11.AX,fI y11.AV]) a1I rfl rfl (has rfl) (has rfl) (aH (aD a1I) (aH (cA) (aH (aD a1I) bL))) (sz rfl) rfl rfl rfl ?_
 refine Z9 ?_
 refine Tn (cE (t:=tI) (xs:=[y11.At,y11.AV,(y11.AX.length:Int)]) rfl (et rfl) (aX.cons rfl (has rfl) (bO (aD a1I)) (aX.cons rfl (has rfl) (bO (aD a1I)) (aX.cons rfl (has rfl) (bO (aD a1I)) aX.nil))) rfl rfl rfl) fun b13=>?_
 generalize (Value.slice (some ⟨b13,0,none⟩) _ _)=v25
 refine rc 0 fun _=>?_
 refine cP (φ:=fSl tI [y11.At,y11.AV,(y11.AX.length:Int)]) (v:=v25) [95] cD fz ?_
 refine cL ?_
 refine aR ?_
 refine aQ ?_
 refine hO (x:=x20) ?_
 revert H;refine bs fun y12 h14 H=>?_
 refine Tc (jF _ _ _ _ _ h14) ?_
 refine hZ (fun v26=>?_)
 refine rc 1 fun _=>?_
 refine Z4 ?_
 refine hO (x:=y12) ?_
 revert H;refine bs fun y13 h15 H=>?_
 refine Tc (jF _ _ _ _ _ h15) ?_
 refine hZ (fun v27=>?_)
 refine rc 1 fun _=>?_
 revert H;refine B4z fun z3 h16 H=>?_
 refine Z3 ?_
 refine aC [0,3,4,1] (by decide) ?_
 exact Tm ((k4,z3,y13,v27)) ⟨H,ls⟩
 refine Z7 ?_
 refine aC [0,2,3] (by decide) ?_
 exact Tm ((x20,v24)) (ij H)
 rintro⟨x6,v6⟩ hi;subst o2;replace H:=Hr2;clear Hr2;try dsimp only at H ⊢
 refine rc 2 fun _=>?_
 revert H;refine B1z fun z4 h17 H=>?_
 refine Z3 ?_
 exact Tm ((k1,z4,x6,v6)) ⟨H,ls⟩
 refine Z6 ?_
 exact Tm ((x5,v5)) (ij H)
 rintro⟨x1,v3⟩ hi;subst o1;replace H:=Hr1;clear Hr1;try dsimp only at H ⊢
 refine rc 2 fun _=>?_
 refine Z4 ?_
 refine Tn (cE (t:=tI) (xs:=[(a0.Code.length:Int)]) rfl (et rfl) (aX.cons rfl (has rfl) (bO (aD a1I)) aX.nil) rfl rfl rfl) fun b14=>?_
 generalize (Value.slice (some ⟨b14,0,none⟩) _ _)=v28
 refine rc 0 fun _=>?_
 refine cP (φ:=fSl tI [(a0.Code.length:Int)]) (v:=v28) [105] cD fz ?_
 refine cL ?_
 refine aQ ?_
 refine aP ?_
 refine hO (x:=x1) ?_
 refine bz H fun y14 h18 H=>?_
 refine Tc (jF _ _ _ _ _ h18) ?_
 refine hZ (fun v29=>?_)
 refine rc 1 fun _=>?_
 refine B2 H fun y15 h19 H=>?_
 refine Tc (aCB _ h19) ?_
 refine Tn (bU rfl aEd rfl) fun b15=>?_
 refine bT (φs':=gI.AY ()) a1I rfl rfl (has rfl) (has rfl) (gI.cell ()) (sz rfl) rfl rfl rfl ?_
 refine cP (φ:=bV gI ()) (v:=ptr b15) [] (yO aG.rfl) (fun _ h=>nomatch h) ?_
 refine iY 14 rfl (fun m u h k=>by cases k;exact h) ?_
 refine cL ?_
 revert H;refine B1z fun o5 H Hr5=>?_
 refine aO (ι:=List Int × Value) (fun i=>o5=i.1) (fun i=>[(5,fEq (ptr b2))]) (fun i=>[aA b2 72 [fEq i.2],aA b1 25 [fI a0.AH,fSl aE a0.AD,fSl aF a0.Code,fI a0.AG],aB i.2 5 (aJ .u8) i.1]) ?_ ?_
 refine Z7 ?_
 refine aC [0,2,1] (by decide) ?_
 refine Th (ι:=Int × List Int × Value) (fun i=>qZ AA a0 i.1 i.2.1 i.2.2.1=_) (fun i=>[(5,fEq (ptr b2)),(14,bV gI ()),(109,fSl aF a0.Code),(110,fI (a0.Code.length:Int)),(111,fI i.2.1)]) (fun i=>[aA b2 72 [fEq i.2.2.2],aA b1 25 [fI a0.AH,fSl aE a0.AD,fSl aF a0.Code,fI a0.AG],aB i.2.2.2 5 (aJ .u8) i.2.2.1]) (AA,0,y14,v29) H (fun _ h=>nomatch h) ?_
 clear H;rintro k5 ⟨x24,x25,v32⟩ H;dsimp only at H ⊢;rw [qZ]at H
 refine rc 2 fun _=>?_
 refine Z3 ?_
 refine aK ?_
 revert H;refine is (fun c6 H=>?_) fun c6 H=>?_
 revert H;refine B3z fun o6 H Hr6=>?_
 refine aO (ι:=List Int × Value) (fun i=>o6=i.1) (fun i=>[(5,fEq (ptr b2)),(14,bV gI ()),(109,fSl aF a0.Code),(110,fI (a0.Code.length:Int)),(111,fI x24)]) (fun i=>[aA b2 72 [fEq i.2],aA b1 25 [fI a0.AH,fSl aE a0.AD,fSl aF a0.Code,fI a0.AG],aB i.2 5 (aJ .u8) i.1]) ?_ ?_
 revert H;refine B2z fun y16 h20 H=>?_
 refine Z2 ?_
 refine Tn (bU rfl kV rfl) fun b16=>?_
 refine bT (φs':=[fI y16.Op,fI y16.A,fI y16.B]) a1I rfl rfl (has rfl) (has rfl) (aH (aD a1I) (aH (aD a1I) (aH (aD a1I) bL))) (sz rfl) rfl rfl rfl ?_
 refine Z4 ?_
 refine Tn (cE (t:=tI) (xs:=[y16.Op]) rfl (et rfl) (aX.cons rfl (has rfl) (bO (aD a1I)) aX.nil) rfl rfl rfl) fun b17=>?_
 generalize (Value.slice (some ⟨b17,0,none⟩) _ _)=v34
 refine rc 0 fun _=>?_
 refine cP (φ:=fSl tI [y16.Op]) (v:=v34) [117] cD fz ?_
 refine cL ?_
 refine bD ?_
 refine aQ ?_
 refine hO (x:=x25) ?_
 revert H;refine bs fun y17 h21 H=>?_
 refine Tc (jF _ _ _ _ _ h21) ?_
 refine hZ (fun v35=>?_)
 refine rc 1 fun _=>?_
 revert H;refine I7z (fun c7 H=>?_) fun c7 H=>?_
 revert H;refine I6z (fun c8 H=>?_) fun c8 H=>?_
 revert H;refine B4z fun z5 h22 H=>?_
 revert H;refine B1z fun z6 h23 H=>?_
 refine Z1 ?_
 refine Tn (cE (t:=tI) (xs:=[z6]) rfl (et rfl) (aX.cons rfl (has rfl) (bO (aD a1I)) aX.nil) rfl rfl rfl) fun b18=>?_
 generalize (Value.slice (some ⟨b18,0,none⟩) _ _)=v36
 refine rc 0 fun _=>?_
 refine cP (φ:=fSl tI [z6]) (v:=v36) [140] cD fz ?_
 refine cL ?_
 refine hO (x:=y17) ?_
 revert H;refine bs fun y18 h24 H=>?_
 refine Tc (jF _ _ _ _ _ h24) ?_
 refine hZ (fun v37=>?_)
 refine rc 1 fun _=>?_
 refine Z4 ?_
 refine aC [0,3,1] (by decide) ?_
 exact Tm ((y18,v37)) (ij H)
 revert H;refine jC fun z7 h25 H=>?_
 refine Z1 ?_
 refine Tn (cE (t:=tI) (xs:=[z7]) rfl (et rfl) (aX.cons rfl (has rfl) (bO (aD a1I)) aX.nil) rfl rfl rfl) fun b19=>?_
 generalize (Value.slice (some ⟨b19,0,none⟩) _ _)=v38
 refine rc 0 fun _=>?_
 refine cP (φ:=fSl tI [z7]) (v:=v38) [149] cD fz ?_
 refine cL ?_
 refine hO (x:=y17) ?_
 revert H;refine bs fun y19 h26 H=>?_
 refine Tc (jF _ _ _ _ _ h26) ?_
 refine hZ (fun v39=>?_)
 refine rc 1 fun _=>?_
 refine Z4 ?_
 refine aC [0,3,1] (by decide) ?_
 exact Tm ((y19,v39)) (ij H)
 refine Z12 ?_
 revert H;refine B2z fun y20 h27 H=>?_
 revert H;refine bs fun y21 h28 H=>?_
 apply bQ (ods:=[_,_,_,_,_,_,_]) 7 0 4 bM rfl rfl rfl
 refine ND ?_
 refine M3 ?_
 intros
 refine My (aEs (A:=gI) (xs:=nH) rfl hh hh rfl aBH h27) fun _=>?_
 refine M2 ?_
 intros
 refine Nc (aIr _ _ _ h28) fun _=>?_
 refine Z1 ?_
 refine hO (x:=y17) ?_
 revert H;refine bs fun y22 h29 H=>?_
 refine Tc (jF _ _ _ _ _ h29) ?_
 refine hZ (fun v40=>?_)
 refine rc 1 fun _=>?_
 refine Z4 ?_
 refine aC [0,3,1] (by decide) ?_
 exact Tm ((y22,v40)) (ij H)
 exact fk
 kernel_rfl
 rintro⟨x26,v33⟩ hi;subst o6;replace H:=Hr6;clear Hr6;try dsimp only at H ⊢
 refine rc 2 fun _=>?_
 revert H;refine B1z fun z8 h30 H=>?_
 refine Z3 ?_
 exact Tm ((k5,z8,x26,v33)) ⟨H,ls⟩
 refine Z6 ?_
 exact Tm ((x25,v32)) (ij H)
 rintro⟨x21,v30⟩ hi;subst o5;replace H:=Hr5;clear Hr5;try dsimp only at H ⊢
 refine rc 2 fun _=>?_
 refine Z6 ?_
 refine aQ ?_
 refine cP (φ:=fSl (aJ .u8) x21) (v:=v30) [152,2] cD fz ?_
 refine eX (φs':=[fSl (aJ .u8) x21]) (i:=0) rfl rfl ?_
 refine cL ?_
 cases H
 refine aC [] (by decide) ?_
 exact qN rfl (cM rfl) (cM rfl) rfl
def pF (a0:List Int) (a1:Int):Nat->Int->Option ((Unit) ⊕ (Bool))
| 0,_=>none
| k+1,x2=>
 if x2<(a0.length:Int)then
  (idx a0 x2).bind fun y1=>
  if y1=a1 then
   (some true).bind fun r=>some (Sum.inr r)
  else
   (chk (x2+1)).bind fun z1=>
   pF a0 a1 k z1
 else
  some (Sum.inl ())
def vS (AA:Nat) (a0:List Int) (a1:Int):Option (Bool):=
 (pF a0 a1 AA 0).bind fun o=>match o with
 | Sum.inr r=>some r
 | Sum.inl _=>
 some false
theorem aEG (AA:Nat)  (a0:List Int) (a1:Int) (r:Bool) (H:vS AA a0 a1=some r):FnS Tryz.prog 170 [fSl tI a0,fI a1] [] (aL r) (fun _=>[]):=by
 unfold vS at H
 refine bY Tryz.func170 rfl Tryz.ntmps170 rfl (fun β=>?_)
 revert H;refine B3z fun o1 H Hr1=>?_
 refine aO (ι:=Unit) (fun i=>o1=Sum.inl ()) (fun i=>[]) (fun i=>[]) ?_ ?_
 refine Z4 ?_
 refine Th (ι:=Int) (fun i=>pF a0 a1 i.1 i.2=_) (fun i=>[(0,fSl tI a0),(1,fI a1),(5,fI i.2)]) (fun i=>[]) (AA,0) H (fun _ h=>nomatch h) ?_
 clear H;rintro k1 x2 H;dsimp only at H ⊢;rw [pF]at H
 refine aK ?_
 revert H;refine I6z (fun c1 H=>?_) fun c1 H=>?_
 refine Z3 ?_
 refine aK ?_
 revert H;refine B4z fun y1 h1 H=>?_
 revert H;refine I5z (fun c2 H=>?_) fun c2 H=>?_
 revert H;refine fP fun r1 H e1=>?_
 cases e1;cases Hr1
 cases H
 exact To
 revert H;refine B6z fun z1 h2 H=>?_
 refine Z3 ?_
 exact Tm ((k1,z1)) ⟨H,ls⟩
 refine Z6 ?_
 exact Tm (()) (ij H)
 rintro i hi;subst o1;replace H:=Hr1;clear Hr1;try dsimp only at H ⊢
 refine Z4 ?_
 cases H
 exact To
open Go.SX Go.SW Go.Dt
def rM (a0:AO):Nat->Int->Option ((Unit) ⊕ (Bool))
| 0,_=>none
| k+1,x2=>
 if x2<(a0.AQ.length:Int)then
  (idx a0.AQ x2).bind fun y2=>
  if y2.At<0 then
   (some false).bind fun r=>some (Sum.inr r)
  else
   (idx a0.AQ x2).bind fun y3=>
   if (a0.AN.length:Int)<y3.At then
    (some false).bind fun r=>some (Sum.inr r)
   else
    (idx a0.AQ x2).bind fun y4=>
    if y4.Ae<0 then
     (some false).bind fun r=>some (Sum.inr r)
    else
     (idx a0.AQ x2).bind fun y5=>
     if 3<y5.Ae then
      (some false).bind fun r=>some (Sum.inr r)
     else
      (chk (x2+1)).bind fun z1=>
      rM a0 k z1
 else
  some (Sum.inl ())
def rF (a0:AO):Nat->Int->Option ((Unit) ⊕ (Bool))
| 0,_=>none
| k+1,x4=>
 if x4<(a0.AN.length:Int)then
  (idx a0.AN x4).bind fun y6=>
  if y6.In<0 then
   (some false).bind fun r=>some (Sum.inr r)
  else
   (idx a0.AN x4).bind fun y7=>
   if x4<y7.In then
    (some false).bind fun r=>some (Sum.inr r)
   else
    (chk (x4+1)).bind fun z2=>
    rF a0 k z2
 else
  some (Sum.inl ())
def rR (AA:Nat) (a0:AO) (y8:AZ):Nat->(List Bool)->Int->Option ((List Bool) ⊕ ((List Bool) ⊕ (Bool)))
| 0,_,_=>none
| k+1,x13,x14=>
 if x14<(y8.AX.length:Int)then
  (idx y8.AX x14).bind fun y9=>
  if y9<0 then
   ((some false).bind fun r=>some (Sum.inr r)).bind fun r=>some (Sum.inr r)
  else
   if (a0.AQ.length:Int)<=y9 then
    ((some false).bind fun r=>some (Sum.inr r)).bind fun r=>some (Sum.inr r)
   else
    (slc y8.AX 0 x14).bind fun y10=>
    (vS AA y10 y9).bind fun y11=>
    bif y11 then
     ((some false).bind fun r=>some (Sum.inr r)).bind fun r=>some (Sum.inr r)
    else
     (idx a0.AQ y9).bind fun y12=>
     if y12.At≠y8.At then
      ((some false).bind fun r=>some (Sum.inr r)).bind fun r=>some (Sum.inr r)
     else
      (idx x13 y9).bind fun y13=>
      (chk (x14+1)).bind fun z3=>
      rR AA a0 y8 k (x13.set y9.toNat true) z3
 else
  some (Sum.inl x13)
def qA (AA:Nat) (a0:AO):Nat->(List Bool)->Int->Option ((List Bool) ⊕ (Bool))
| 0,_,_=>none
| k+1,x8,x9=>
 if x9<(a0.AP.length:Int)then
  ((idx a0.AP x9).bind fun y8=>
  if y8.At<0 then
   ((some false).bind fun r=>some (Sum.inr r)).bind fun r=>some (Sum.inr r)
  else
   if (a0.AN.length:Int)<y8.At then
    ((some false).bind fun r=>some (Sum.inr r)).bind fun r=>some (Sum.inr r)
   else
    if (y8.AX.length:Int)<1 then
     ((some false).bind fun r=>some (Sum.inr r)).bind fun r=>some (Sum.inr r)
    else
     if 3<(y8.AX.length:Int)then
      ((some false).bind fun r=>some (Sum.inr r)).bind fun r=>some (Sum.inr r)
     else
      rR AA a0 y8 AA x8 0).bind fun o=>match o with
  | Sum.inr r=>some r
  | Sum.inl x10=>
  (chk (x9+1)).bind fun z4=>
  qA AA a0 k x10 z4
 else
  some (Sum.inl x8)
def oX (x5:List Bool):Nat->Int->Option ((Unit) ⊕ (Bool))
| 0,_=>none
| k+1,x16=>
 if x16<(x5.length:Int)then
  (idx x5 x16).bind fun y14=>
  bif y14 then
   (chk (x16+1)).bind fun z5=>
   oX x5 k z5
  else
   (some false).bind fun r=>some (Sum.inr r)
 else
  some (Sum.inl ())
def wL (AA:Nat) (a0:AO):Option (Bool):=
 if 30<(a0.AQ.length:Int)then
  some false
 else
  if 30<(a0.AN.length:Int)then
   some false
  else
   if 30<(a0.AP.length:Int)then
    some false
   else
    (mk false (a0.AQ.length:Int)).bind fun y1=>
    (rM a0 AA 0).bind fun o=>match o with
    | Sum.inr r=>some r
    | Sum.inl _=>
    (rF a0 AA 0).bind fun o=>match o with
    | Sum.inr r=>some r
    | Sum.inl _=>
    (qA AA a0 AA y1 0).bind fun o=>match o with
    | Sum.inr r=>some r
    | Sum.inl x5=>
    (oX x5 AA 0).bind fun o=>match o with
    | Sum.inr r=>some r
    | Sum.inl _=>
    some true
theorem aGg (AA:Nat)  (a0:AO) (r:Bool) (H:wL AA a0=some r):FnS Tryz.prog 141 [fSt aE a0] [] (aL r) (fun _=>[]):=by
 unfold wL at H
 refine bY Tryz.func141 rfl Tryz.ntmps141 rfl (fun β=>?_)
 refine Z1 ?_
 refine Tn (cG rfl hh bW) fun b1=>?_
 refine Z2 ?_
 refine aK ?_
 refine I6 H (fun c1 H=>?_) fun c1 H=>?_
 refine Z12 ?_
 refine Z5 ?_
 cases H
 refine aC [] (by decide) ?_
 exact To
 refine I6 H (fun c2 H=>?_) fun c2 H=>?_
 refine Z11 ?_
 cases H
 refine aC [] (by decide) ?_
 exact To
 refine I6 H (fun c3 H=>?_) fun c3 H=>?_
 refine Z5 ?_
 cases H
 refine aC [] (by decide) ?_
 exact To
 refine B7 H fun y1 h1 H=>?_
 refine Tn (aAb (t:=fV) (z:=false) rfl hh (et rfl) rfl aAt rfl h1) fun b2=>?_
 generalize (Value.slice (some ⟨b2,0,none⟩) _ _)=v1
 refine rc 0 fun _=>?_
 revert H;refine B2z fun o1 H Hr1=>?_
 refine aO (ι:=Unit) (fun i=>o1=Sum.inl ()) (fun i=>[(1,fEq (ptr b1)),(3,fEq v1)]) (fun i=>[aA b1 78 [fSl aS a0.AQ,fSl aV a0.AN,fSl aY a0.AP],aB v1 4 fV y1]) ?_ ?_
 refine Z4 ?_
 refine aC [1,0] (by decide) ?_
 refine Th (ι:=Int) (fun i=>rM a0 i.1 i.2=_) (fun i=>[(1,fEq (ptr b1)),(3,fEq v1),(4,fI i.2)]) (fun i=>[aA b1 78 [fSl aS a0.AQ,fSl aV a0.AN,fSl aY a0.AP],aB v1 4 fV y1]) (AA,0) H (fun _ h=>nomatch h) ?_
 clear H;rintro k1 x2 H;dsimp only at H ⊢;rw [rM]at H
 refine aK ?_
 revert H;refine I7z (fun c4 H=>?_) fun c4 H=>?_
 refine Z3 ?_
 refine aK ?_
 refine Z1 ?_
 refine aK ?_
 revert H;refine bs fun y2 h2 H=>?_
 revert H;refine is (fun c5 H=>?_) fun c5 H=>?_
 apply bQ (ods:=[_,_,_,_,_,_,_,_,_,_,_,_,_,_,_,_,_,_,_,_,_,_,_,_,_,_,_,_,_,_,_,_,_,_,_,_,_]) 37 0 2 bM rfl rfl rfl
 refine ND ?_
 refine M3 ?_
 intros
 refine My (eF rfl hh hh (el rfl) h2) fun _=>?_
 refine M8 ?_
 intros
 refine M8 ?_
 intros
 refine M8 ?_
 intros
 refine M8 ?_
 intros
 refine M1 ?_
 intros
 revert H;refine B12z fun r1 H e1=>?_
 cases e1;cases Hr1
 cases H
 refine aC [] (by decide) ?_
 exact To
 exact fk
 kernel_rfl
 revert H;refine bs fun y3 h3 H=>?_
 revert H;refine is (fun c6 H=>?_) fun c6 H=>?_
 apply bQ (ods:=[_,_,_,_,_,_,_,_,_,_,_,_,_,_,_,_,_,_,_,_,_,_,_,_,_,_,_,_,_,_,_,_,_,_,_,_,_]) 37 0 2 bM rfl rfl rfl
 refine ND ?_
 refine M3 ?_
 intros
 refine My (eF rfl hh hh (el rfl) h2) fun _=>?_
 refine M7 ?_
 intros
 refine Mg c5 (eF rfl hh hh (el rfl) h3) fun _=>?_
 refine M8 ?_
 intros
 refine M8 ?_
 intros
 refine M8 ?_
 intros
 refine M1 ?_
 intros
 revert H;refine B12z fun r2 H e2=>?_
 cases e2;cases Hr1
 cases H
 refine aC [] (by decide) ?_
 exact To
 exact fk
 kernel_rfl
 revert H;refine bs fun y4 h4 H=>?_
 revert H;refine is (fun c7 H=>?_) fun c7 H=>?_
 apply bQ (ods:=[_,_,_,_,_,_,_,_,_,_,_,_,_,_,_,_,_,_,_,_,_,_,_,_,_,_,_,_,_,_,_,_,_,_,_,_,_]) 37 0 2 bM rfl rfl rfl
 refine ND ?_
 refine M3 ?_
 intros
 refine My (eF rfl hh hh (el rfl) h2) fun _=>?_
 refine M7 ?_
 intros
 refine Mg c5 (eF rfl hh hh (el rfl) h3) fun _=>?_
 refine M8 ?_
 intros
 refine M3 ?_
 intros
 refine Mg c6 (eF rfl hh hh (el rfl) h4) fun _=>?_
 refine M8 ?_
 intros
 refine M5 ?_
 intros
 revert H;refine B12z fun r3 H e3=>?_
 cases e3;cases Hr1
 cases H
 refine aC [] (by decide) ?_
 exact To
 exact fk
 kernel_rfl
 revert H;refine bs fun y5 h5 H=>?_
 apply bQ (ods:=[_,_,_,_,_,_,_,_,_,_,_,_,_,_,_,_,_,_,_,_,_,_,_,_,_,_,_,_,_,_,_,_,_,_,_,_,_]) 37 0 2 bM rfl rfl rfl
 refine ND ?_
 refine M3 ?_
 intros
 refine My (eF rfl hh hh (el rfl) h2) fun _=>?_
 refine M7 ?_
 intros
 refine Mg c5 (eF rfl hh hh (el rfl) h3) fun _=>?_
 refine M8 ?_
 intros
 refine M3 ?_
 intros
 refine Mg c6 (eF rfl hh hh (el rfl) h4) fun _=>?_
 refine M8 ?_
 intros
 refine M5 ?_
 intros
 revert H;refine I2z (fun c8 H=>?_) fun c8 H=>?_
 revert H;refine fP fun r4 H e4=>?_
 cases e4;cases Hr1
 cases H
 refine aC [] (by decide) ?_
 exact To
 revert H;refine B6z fun z1 h6 H=>?_
 refine Z3 ?_
 exact Tm ((k1,z1)) ⟨H,ls⟩
 exact fk
 kernel_rfl
 refine Z6 ?_
 exact Tm (()) (ij H)
 rintro i hi;subst o1;replace H:=Hr1;clear Hr1;try dsimp only at H ⊢
 revert H;refine bs fun o2 H Hr2=>?_
 refine aO (ι:=Unit) (fun i=>o2=Sum.inl ()) (fun i=>[(1,fEq (ptr b1)),(3,fEq v1)]) (fun i=>[aA b1 78 [fSl aS a0.AQ,fSl aV a0.AN,fSl aY a0.AP],aB v1 4 fV y1]) ?_ ?_
 refine Z4 ?_
 refine Th (ι:=Int) (fun i=>rF a0 i.1 i.2=_) (fun i=>[(1,fEq (ptr b1)),(3,fEq v1),(5,fI i.2)]) (fun i=>[aA b1 78 [fSl aS a0.AQ,fSl aV a0.AN,fSl aY a0.AP],aB v1 4 fV y1]) (AA,0) H (fun _ h=>nomatch h) ?_
 clear H;rintro k2 x4 H;dsimp only at H ⊢;rw [rF]at H
 refine aK ?_
 revert H;refine I7z (fun c9 H=>?_) fun c9 H=>?_
 refine Z3 ?_
 refine aK ?_
 revert H;refine B5z fun y6 h7 H=>?_
 refine Yy (eF rfl hh hh (el rfl) h7) ?_
 revert H;refine I4z (fun c10 H=>?_) fun c10 H=>?_
 refine Z12 ?_
 revert H;refine B8z fun r5 H e5=>?_
 cases e5;cases Hr2
 cases H
 refine aC [] (by decide) ?_
 exact To
 revert H;refine B3z fun y7 h8 H=>?_
 revert H;refine I7z (fun c11 H=>?_) fun c11 H=>?_
 revert H;refine fP fun r6 H e6=>?_
 cases e6;cases Hr2
 cases H
 refine aC [] (by decide) ?_
 exact To
 revert H;refine B6z fun z2 h9 H=>?_
 refine Z3 ?_
 exact Tm ((k2,z2)) ⟨H,ls⟩
 refine Z6 ?_
 exact Tm (()) (ij H)
 rintro i hi;subst o2;replace H:=Hr2;clear Hr2;try dsimp only at H ⊢
 revert H;refine bs fun o3 H Hr3=>?_
 refine aO (fun i=>o3=Sum.inl i) (fun i=>[(3,fEq v1)]) (fun i=>[aA b1 78 [fSl aS a0.AQ,fSl aV a0.AN,fSl aY a0.AP],aB v1 4 fV i]) ?_ ?_
 refine Z4 ?_
 refine Th (ι:=List Bool × Int) (fun i=>qA AA a0 i.1 i.2.1 i.2.2=_) (fun i=>[(1,fEq (ptr b1)),(3,fEq v1),(6,fI i.2.2)]) (fun i=>[aA b1 78 [fSl aS a0.AQ,fSl aV a0.AN,fSl aY a0.AP],aB v1 4 fV i.2.1]) (AA,y1,0) H (fun _ h=>nomatch h) ?_
 clear H;rintro k3 ⟨x8,x9⟩ H;dsimp only at H ⊢;rw [qA]at H
 refine aK ?_
 revert H;refine I7z (fun c12 H=>?_) fun c12 H=>?_
 revert H;refine B3z fun o4 H Hr4=>?_
 refine aO (fun i=>o4=Sum.inl i) (fun i=>[(1,fEq (ptr b1)),(3,fEq v1),(6,fI x9)]) (fun i=>[aA b1 78 [fSl aS a0.AQ,fSl aV a0.AN,fSl aY a0.AP],aB v1 4 fV i]) ?_ ?_
 revert H;refine B5z fun y8 h10 H=>?_
 refine Z2 ?_
 refine Tn (bU rfl mK rfl) fun b3=>?_
 refine bT (φs':=[fI y8.At,fSl tI y8.AX,fI y8.AV]) a1I rfl rfl (has rfl) (has rfl) (aH (aD a1I) (aH (cA) (aH (aD a1I) bL))) (sz rfl) rfl rfl rfl ?_
 refine Z1 ?_
 refine aK ?_
 revert H;refine I5z (fun c13 H=>?_) fun c13 H=>?_
 refine Z12 ?_
 refine Z12 ?_
 revert H;refine B3z fun r7 H e7=>?_
 cases e7;cases Hr4
 revert H;refine B3z fun r8 H e8=>?_
 cases e8;cases Hr3
 cases H
 refine aC [] (by decide) ?_
 exact To
 revert H;refine I8z (fun c14 H=>?_) fun c14 H=>?_
 refine Z12 ?_
 revert H;refine B7z fun r9 H e9=>?_
 cases e9;cases Hr4
 revert H;refine B3z fun r10 H e10=>?_
 cases e10;cases Hr3
 cases H
 refine aC [] (by decide) ?_
 exact To
 revert H;refine I6z (fun c15 H=>?_) fun c15 H=>?_
 refine Z12 ?_
 revert H;refine B1z fun r11 H e11=>?_
 cases e11;cases Hr4
 revert H;refine B3z fun r12 H e12=>?_
 cases e12;cases Hr3
 cases H
 refine aC [] (by decide) ?_
 exact To
 revert H;refine I6z (fun c16 H=>?_) fun c16 H=>?_
 revert H;refine B7z fun r13 H e13=>?_
 cases e13;cases Hr4
 revert H;refine B3z fun r14 H e14=>?_
 cases e14;cases Hr3
 cases H
 refine aC [] (by decide) ?_
 exact To
 refine Z7 ?_
 refine Th (ι:=List Bool × Int) (fun i=>rR AA a0 y8 i.1 i.2.1 i.2.2=_) (fun i=>[(1,fEq (ptr b1)),(3,fEq v1),(6,fI x9),(7,fEq (ptr b3)),(8,fI i.2.2)]) (fun i=>[aA b3 84 [fI y8.At,fSl tI y8.AX,fI y8.AV],aA b1 78 [fSl aS a0.AQ,fSl aV a0.AN,fSl aY a0.AP],aB v1 4 fV i.2.1]) (AA,x8,0) H (fun _ h=>nomatch h) ?_
 clear H;rintro k4 ⟨x13,x14⟩ H;dsimp only at H ⊢;rw [rR]at H
 refine aK ?_
 revert H;refine I7z (fun c17 H=>?_) fun c17 H=>?_
 refine Z3 ?_
 refine aK ?_
 revert H;refine B5z fun y9 h11 H=>?_
 refine Z4 ?_
 refine aK ?_
 refine aK ?_
 revert H;refine is (fun c18 H=>?_) fun c18 H=>?_
 apply bQ (ods:=[_,_,_,_,_,_,_,_,_,_,_,_,_,_,_,_,_,_,_,_,_,_,_,_,_,_,_,_]) 28 0 3 bM rfl rfl rfl
 refine ND ?_
 refine M8 ?_
 intros
 refine M8 ?_
 intros
 refine M8 ?_
 intros
 refine M4 ?_
 intros
 refine Z12 ?_
 revert H;refine B1z fun r15 H e15=>?_
 cases e15;cases Hr4
 revert H;refine B3z fun r16 H e16=>?_
 cases e16;cases Hr3
 cases H
 refine aC [] (by decide) ?_
 exact To
 exact fk
 kernel_rfl
 revert H;refine is (fun c19 H=>?_) fun c19 H=>?_
 apply bQ (ods:=[_,_,_,_,_,_,_,_,_,_,_,_,_,_,_,_,_,_,_,_,_,_,_,_,_,_,_,_]) 28 0 3 bM rfl rfl rfl
 refine ND ?_
 refine M8 ?_
 intros
 refine M8 ?_
 intros
 refine M8 ?_
 intros
 refine M4 ?_
 intros
 refine Z12 ?_
 revert H;refine B1z fun r17 H e17=>?_
 cases e17;cases Hr4
 revert H;refine B3z fun r18 H e18=>?_
 cases e18;cases Hr3
 cases H
 refine aC [] (by decide) ?_
 exact To
 exact fk
 kernel_rfl
 revert H;refine bs fun y10 h12 H=>?_
 revert H;refine bs fun y11 h13 H=>?_
 revert H;refine cs (fun c20 H=>?_) fun c20 H=>?_
 apply bQ (ods:=[_,_,_,_,_,_,_,_,_,_,_,_,_,_,_,_,_,_,_,_,_,_,_,_,_,_,_,_]) 28 0 3 bM rfl rfl rfl
 refine ND ?_
 refine M8 ?_
 intros
 refine M5 ?_
 intros
 refine Mg c19 (vN (t:=tI) rfl hh xP (vP hh) (el rfl) h12) fun _=>?_
 refine M1 ?_
 intros
 refine Nc (aEG _ _ _ _ h13) fun _=>?_
 refine M8 ?_
 intros
 refine M4 ?_
 intros
 refine Z12 ?_
 revert H;refine B1z fun r19 H e19=>?_
 cases e19;cases Hr4
 revert H;refine B3z fun r20 H e20=>?_
 cases e20;cases Hr3
 cases H
 refine aC [] (by decide) ?_
 exact To
 exact fk
 kernel_rfl
 revert H;refine bs fun y12 h14 H=>?_
 apply bQ (ods:=[_,_,_,_,_,_,_,_,_,_,_,_,_,_,_,_,_,_,_,_,_,_,_,_,_,_,_,_]) 28 0 3 bM rfl rfl rfl
 refine ND ?_
 refine M8 ?_
 intros
 refine M5 ?_
 intros
 refine Mg c19 (vN (t:=tI) rfl hh xP (vP hh) (el rfl) h12) fun _=>?_
 refine M1 ?_
 intros
 refine Nc (aEG _ _ _ _ h13) fun _=>?_
 refine M8 ?_
 intros
 refine M4 ?_
 intros
 revert H;refine I2z (fun c21 H=>?_) fun c21 H=>?_
 revert H;refine jC fun r21 H e21=>?_
 cases e21;cases Hr4
 revert H;refine B3z fun r22 H e22=>?_
 cases e22;cases Hr3
 cases H
 refine aC [] (by decide) ?_
 exact To
 revert H;refine B6z fun y13 h15 H=>?_
 refine Z1 ?_
 refine aQ ?_
 refine aAJ (z':=true) a1I rfl rfl rfl (has rfl) (has rfl) (aD a1I) (sz rfl) (dU h15) rfl rfl ?_
 revert H;refine B5z fun z3 h16 H=>?_
 refine Z3 ?_
 refine aC [1,2,0] (by decide) ?_
 exact Tm ((k4,x13.set y9.toNat true,z3)) ⟨H,ls⟩
 exact fk
 kernel_rfl
 refine Z7 ?_
 refine aC [1,2] (by decide) ?_
 exact Tm (x13) (ij H)
 rintro x10 hi;subst o4;replace H:=Hr4;clear Hr4;try dsimp only at H ⊢
 revert H;refine B2z fun z4 h17 H=>?_
 refine Z3 ?_
 exact Tm ((k3,x10,z4)) ⟨H,ls⟩
 refine Z6 ?_
 exact Tm (x8) (ij H)
 rintro x5 hi;subst o3;replace H:=Hr3;clear Hr3;try dsimp only at H ⊢
 revert H;refine bs fun o5 H Hr5=>?_
 refine aO (ι:=Unit) (fun i=>o5=Sum.inl ()) (fun i=>[]) (fun i=>[aA b1 78 [fSl aS a0.AQ,fSl aV a0.AN,fSl aY a0.AP]]) ?_ ?_
 refine Z4 ?_
 refine Th (ι:=Int) (fun i=>oX x5 i.1 i.2=_) (fun i=>[(3,fEq v1),(10,fI i.2)]) (fun i=>[aA b1 78 [fSl aS a0.AQ,fSl aV a0.AN,fSl aY a0.AP],aB v1 4 fV x5]) (AA,0) H (fun _ h=>nomatch h) ?_
 clear H;rintro k5 x16 H;dsimp only at H ⊢;rw [oX]at H
 refine aK ?_
 revert H;refine I6z (fun c22 H=>?_) fun c22 H=>?_
 refine Z3 ?_
 refine aK ?_
 revert H;refine B4z fun y14 h18 H=>?_
 refine Z1 ?_
 refine Yo 1 rfl (kC rfl rfl hh (sc rfl) (dU h18) rfl) ?_
 refine Z2 ?_
 revert H;refine cs (fun c23 H=>?_) fun c23 H=>?_
 revert H;refine B6z fun z5 h19 H=>?_
 refine Z3 ?_
 exact Tm ((k5,z5)) ⟨H,ls⟩
 revert H;refine fP fun r23 H e23=>?_
 cases e23;cases Hr5
 cases H
 refine aC [] (by decide) ?_
 exact To
 refine Z6 ?_
 refine aC [0] (by decide) ?_
 exact Tm (()) (ij H)
 rintro i hi;subst o5;replace H:=Hr5;clear Hr5;try dsimp only at H ⊢
 refine Z4 ?_
 cases H
 refine aC [] (by decide) ?_
 exact To
open Go.SX Go.SW Go.Dt
def kU (a0:Int):Option (Int):=
 (if a0=1 then
  some (decide (a0=1))
 else
  if a0=2 then
   some (decide (a0=2))
  else
   if a0=9 then
    some (decide (a0=9))
   else
    if a0=10 then
     some (decide (a0=10))
    else
     if a0=11 then
      some (decide (a0=11))
     else
      some (decide (a0=12))).bind fun x1=>
 bif x1 then
  some 1
 else
  (if a0=8 then
   some (decide (a0=8))
  else
   if a0=13 then
    some (decide (a0=13))
   else
    some (decide (a0=15))).bind fun x2=>
  bif x2 then
   some 2
  else
   (if a0=3 then
    some (decide (a0=3))
   else
    if a0=4 then
     some (decide (a0=4))
    else
     if a0=5 then
      some (decide (a0=5))
     else
      if a0=6 then
       some (decide (a0=6))
      else
       if a0=7 then
        some (decide (a0=7))
       else
        if a0=14 then
         some (decide (a0=14))
        else
         some (decide (a0=16))).bind fun x3=>
   bif x3 then
    some 0
   else
    some (-1)
theorem aAu  (a0:Int) (r:Int) (H:kU a0=some r):FnS Tryz.prog 40 [fI a0] [] (fI r) (fun _=>[]):=by
 unfold kU at H
 refine bY Tryz.func40 rfl Tryz.ntmps40 rfl (fun β=>?_)
 refine Z3 ?_
 refine aK ?_
 revert H;refine B4z fun o1 H Hr1=>?_
 refine aO (fun i=>o1=i) (fun i=>[(3,fI a0),(4,aL i)]) (fun i=>[]) ?_ ?_
 revert H;refine I4z (fun c1 H=>?_) fun c1 H=>?_
 refine Z3 ?_
 exact Tm (decide (a0=1)) (ij H)
 revert H;refine I5z (fun c2 H=>?_) fun c2 H=>?_
 refine Z3 ?_
 exact Tm (decide (a0=2)) (ij H)
 revert H;refine I5z (fun c3 H=>?_) fun c3 H=>?_
 refine Z3 ?_
 exact Tm (decide (a0=9)) (ij H)
 revert H;refine I5z (fun c4 H=>?_) fun c4 H=>?_
 refine Z3 ?_
 exact Tm (decide (a0=10)) (ij H)
 revert H;refine I5z (fun c5 H=>?_) fun c5 H=>?_
 refine Z3 ?_
 exact Tm (decide (a0=11)) (ij H)
 refine Z5 ?_
 exact Tm (decide (a0=12)) (ij H)
 rintro x1 hi;subst o1;replace H:=Hr1;clear Hr1;try dsimp only at H ⊢
 refine cz H (fun c6 H=>?_) fun c6 H=>?_
 refine Z7 ?_
 cases H
 exact To
 revert H;refine B1z fun o2 H Hr2=>?_
 refine aO (fun i=>o2=i) (fun i=>[(3,fI a0),(11,aL i)]) (fun i=>[]) ?_ ?_
 revert H;refine I4z (fun c7 H=>?_) fun c7 H=>?_
 refine Z3 ?_
 exact Tm (decide (a0=8)) (ij H)
 revert H;refine I5z (fun c8 H=>?_) fun c8 H=>?_
 refine Z3 ?_
 exact Tm (decide (a0=13)) (ij H)
 refine Z5 ?_
 exact Tm (decide (a0=15)) (ij H)
 rintro x2 hi;subst o2;replace H:=Hr2;clear Hr2;try dsimp only at H ⊢
 refine cz H (fun c9 H=>?_) fun c9 H=>?_
 refine Z7 ?_
 cases H
 exact To
 revert H;refine B1z fun o3 H Hr3=>?_
 refine aO (fun i=>o3=i) (fun i=>[(15,aL i)]) (fun i=>[]) ?_ ?_
 revert H;refine I4z (fun c10 H=>?_) fun c10 H=>?_
 refine Z3 ?_
 exact Tm (decide (a0=3)) (ij H)
 revert H;refine I5z (fun c11 H=>?_) fun c11 H=>?_
 refine Z3 ?_
 exact Tm (decide (a0=4)) (ij H)
 revert H;refine I5z (fun c12 H=>?_) fun c12 H=>?_
 refine Z3 ?_
 exact Tm (decide (a0=5)) (ij H)
 revert H;refine I5z (fun c13 H=>?_) fun c13 H=>?_
 refine Z3 ?_
 exact Tm (decide (a0=6)) (ij H)
 revert H;refine I5z (fun c14 H=>?_) fun c14 H=>?_
 refine Z3 ?_
 exact Tm (decide (a0=7)) (ij H)
 revert H;refine I5z (fun c15 H=>?_) fun c15 H=>?_
 refine Z3 ?_
 exact Tm (decide (a0=14)) (ij H)
 refine Z5 ?_
 exact Tm (decide (a0=16)) (ij H)
 rintro x3 hi;subst o3;replace H:=Hr3;clear Hr3;try dsimp only at H ⊢
 refine cz H (fun c16 H=>?_) fun c16 H=>?_
 refine Z7 ?_
 cases H
 exact To
 refine Z8 ?_
 cases H
 exact To
def tK (a0:AB) (y1:AL):Nat->Int->Option ((Unit) ⊕ ((Unit) ⊕ (Bool)))
| 0,_=>none
| k+1,x5=>
 if x5<y1.A then
  (idx a0.Code x5).bind fun y3=>
  if y3.Op=16 then
   ((some false).bind fun r=>some (Sum.inr r)).bind fun r=>some (Sum.inr r)
  else
   (chk (x5+1)).bind fun z1=>
   tK a0 y1 k z1
 else
  some (Sum.inl ())
def uM (AA:Nat) (a0:AB) (a1:Int):Option (Bool):=
 (idx a0.Code a1).bind fun y1=>
 (kU y1.Op).bind fun y2=>
 (if y2<0 then
  (some false).bind fun r=>some (Sum.inr r)
 else
  if y2<1 then
   if y1.A≠0 then
    (some false).bind fun r=>some (Sum.inr r)
   else
    if y2<2 then
     if y1.B≠0 then
      (some false).bind fun r=>some (Sum.inr r)
     else
      some (Sum.inl ())
    else
     some (Sum.inl ())
  else
   if y2<2 then
    if y1.B≠0 then
     (some false).bind fun r=>some (Sum.inr r)
    else
     some (Sum.inl ())
   else
    some (Sum.inl ())).bind fun o=>match o with
 | Sum.inr r=>some r
 | Sum.inl _=>
 (if y1.Op=1 then
  (if (-1000000000)<=y1.A then
   some (decide (y1.A<=1000000000))
  else
   some false).bind fun x1=>
  (some x1).bind fun r=>some (Sum.inr r)
 else
  if y1.Op=8 then
   (if 0<=y1.A then
    if 0<=y1.B then
     some (decide (y1.B<=3))
    else
     some false
   else
    some false).bind fun x2=>
   (some x2).bind fun r=>some (Sum.inr r)
  else
   (if y1.Op=9 then
    some (decide (y1.Op=9))
   else
    some (decide (y1.Op=10))).bind fun x3=>
   bif x3 then
    if y1.A<=a1 then
     (some false).bind fun r=>some (Sum.inr r)
    else
     if (a0.Code.length:Int)<=y1.A then
      (some false).bind fun r=>some (Sum.inr r)
     else
      (tK a0 y1 AA a1).bind fun o=>match o with
      | Sum.inr r=>some r
      | Sum.inl _=>
      (some true).bind fun r=>some (Sum.inr r)
   else
    if y1.Op=11 then
     (if 0<=y1.A then
      some (decide (y1.A<(a0.AD.length:Int)))
     else
      some false).bind fun x6=>
     (some x6).bind fun r=>some (Sum.inr r)
    else
     some (Sum.inl ())).bind fun o=>match o with
 | Sum.inr r=>some r
 | Sum.inl _=>
 (if 0<=y1.A then
  some (decide (0<=y1.B))
 else
  some false).bind fun x7=>
 some x7
theorem aHs (AA:Nat)  (a0:AB) (a1:Int) (r:Bool) (H:uM AA a0 a1=some r):FnS Tryz.prog 142 [fSt dX a0,fI a1] [] (aL r) (fun _=>[]):=by
 unfold uM at H
 refine bY Tryz.func142 rfl Tryz.ntmps142 rfl (fun β=>?_)
 refine Z1 ?_
 refine Tn (cG rfl hh bW) fun b1=>?_
 refine B6 H fun y1 h1 H=>?_
 refine Z2 ?_
 refine Tn (bU rfl kV rfl) fun b2=>?_
 refine bT (φs':=[fI y1.Op,fI y1.A,fI y1.B]) a1I rfl rfl (has rfl) (has rfl) (aH (aD a1I) (aH (aD a1I) (aH (aD a1I) bL))) (sz rfl) rfl rfl rfl ?_
 refine B4 H fun y2 h2 H=>?_
 refine Tc (aAu _ _ h2) ?_
 revert H;refine B2z fun o1 H Hr1=>?_
 refine aO (ι:=Unit) (fun i=>o1=Sum.inl ()) (fun i=>[(1,fI a1),(2,fEq (ptr b1)),(5,fEq (ptr b2))]) (fun i=>[aA b2 54 [fI y1.Op,fI y1.A,fI y1.B],aA b1 25 [fI a0.AH,fSl aE a0.AD,fSl aF a0.Code,fI a0.AG]]) ?_ ?_
 revert H;refine I4z (fun c1 H=>?_) fun c1 H=>?_
 refine Z3 ?_
 refine bF (⟨_,_,_,_,rfl,rfl,rfl,nu⟩) rfl rfl ?_
 refine bF (⟨_,_,_,_,rfl,rfl,rfl,nu⟩) rfl rfl ?_
 refine bF (⟨_,_,_,_,rfl,rfl,rfl,nu⟩) rfl rfl ?_
 refine Z6 ?_
 refine bF (⟨_,_,_,_,rfl,rfl,rfl,nu⟩) rfl rfl ?_
 refine bF (⟨_,_,_,_,rfl,rfl,rfl,nu⟩) rfl rfl ?_
 refine bF (⟨_,_,_,_,rfl,rfl,rfl,nu⟩) rfl rfl ?_
 revert H;refine B8z fun r1 H e1=>?_
 cases e1;cases Hr1
 cases H
 refine aC [] (by decide) ?_
 exact To
 revert H;refine I3z (fun c2 H=>?_) fun c2 H=>?_
 revert H;refine I6z (fun c3 H=>?_) fun c3 H=>?_
 refine Z3 ?_
 refine bF (⟨_,_,_,_,rfl,rfl,rfl,nu⟩) rfl rfl ?_
 refine bF (⟨_,_,_,_,rfl,rfl,rfl,nu⟩) rfl rfl ?_
 refine bF (⟨_,_,_,_,rfl,rfl,rfl,nu⟩) rfl rfl ?_
 revert H;refine B8z fun r2 H e2=>?_
 cases e2;cases Hr1
 cases H
 refine aC [] (by decide) ?_
 exact To
 revert H;refine I3z (fun c4 H=>?_) fun c4 H=>?_
 revert H;refine I6z (fun c5 H=>?_) fun c5 H=>?_
 revert H;refine B5z fun r3 H e3=>?_
 cases e3;cases Hr1
 cases H
 refine aC [] (by decide) ?_
 exact To
 refine Z3 ?_
 exact Tm (()) (ij H)
 refine Z9 ?_
 exact Tm (()) (ij H)
 revert H;refine I9z (fun c6 H=>?_) fun c6 H=>?_
 revert H;refine I6z (fun c7 H=>?_) fun c7 H=>?_
 revert H;refine B5z fun r4 H e4=>?_
 cases e4;cases Hr1
 cases H
 refine aC [] (by decide) ?_
 exact To
 refine Z3 ?_
 exact Tm (()) (ij H)
 refine Z9 ?_
 exact Tm (()) (ij H)
 rintro i hi;subst o1;replace H:=Hr1;clear Hr1;try dsimp only at H ⊢
 revert H;refine bs fun o2 H Hr2=>?_
 refine aO (ι:=Unit) (fun i=>o2=Sum.inl ()) (fun i=>[(5,fEq (ptr b2))]) (fun i=>[aA b2 54 [fI y1.Op,fI y1.A,fI y1.B],aA b1 25 [fI a0.AH,fSl aE a0.AD,fSl aF a0.Code,fI a0.AG]]) ?_ ?_
 revert H;refine I9z (fun c8 H=>?_) fun c8 H=>?_
 revert H;refine B1z fun o3 H Hr3=>?_
 refine aO (fun i=>o3=i) (fun i=>[(4,aL i)]) (fun i=>[aA b2 54 [fI y1.Op,fI y1.A,fI y1.B],aA b1 25 [fI a0.AH,fSl aE a0.AD,fSl aF a0.Code,fI a0.AG]]) ?_ ?_
 revert H;refine I5z (fun c9 H=>?_) fun c9 H=>?_
 refine Z6 ?_
 exact Tm (decide (y1.A<=1000000000)) (ij H)
 refine Z6 ?_
 exact Tm (false) (ij H)
 rintro x1 hi;subst o3;replace H:=Hr3;clear Hr3;try dsimp only at H ⊢
 revert H;refine B3z fun r5 H e5=>?_
 cases e5;cases Hr2
 cases H
 refine aC [] (by decide) ?_
 exact To
 revert H;refine I5z (fun c10 H=>?_) fun c10 H=>?_
 revert H;refine B1z fun o4 H Hr4=>?_
 refine aO (fun i=>o4=i) (fun i=>[(4,aL i)]) (fun i=>[aA b2 54 [fI y1.Op,fI y1.A,fI y1.B],aA b1 25 [fI a0.AH,fSl aE a0.AD,fSl aF a0.Code,fI a0.AG]]) ?_ ?_
 revert H;refine I5z (fun c11 H=>?_) fun c11 H=>?_
 revert H;refine I5z (fun c12 H=>?_) fun c12 H=>?_
 refine Z6 ?_
 exact Tm (decide (y1.B<=3)) (ij H)
 refine Z6 ?_
 exact Tm (false) (ij H)
 refine Z11 ?_
 exact Tm (false) (ij H)
 rintro x2 hi;subst o4;replace H:=Hr4;clear Hr4;try dsimp only at H ⊢
 revert H;refine B3z fun r6 H e6=>?_
 cases e6;cases Hr2
 cases H
 refine aC [] (by decide) ?_
 exact To
 revert H;refine B1z fun o5 H Hr5=>?_
 refine aO (fun i=>o5=i) (fun i=>[(1,fI a1),(2,fEq (ptr b1)),(5,fEq (ptr b2)),(37,fI y1.Op),(63,aL i)]) (fun i=>[aA b2 54 [fI y1.Op,fI y1.A,fI y1.B],aA b1 25 [fI a0.AH,fSl aE a0.AD,fSl aF a0.Code,fI a0.AG]]) ?_ ?_
 revert H;refine I4z (fun c13 H=>?_) fun c13 H=>?_
 refine Z3 ?_
 exact Tm (decide (y1.Op=9)) (ij H)
 refine Z5 ?_
 exact Tm (decide (y1.Op=10)) (ij H)
 rintro x3 hi;subst o5;replace H:=Hr5;clear Hr5;try dsimp only at H ⊢
 revert H;refine cs (fun c14 H=>?_) fun c14 H=>?_
 refine Z1 ?_
 refine aK ?_
 revert H;refine I6z (fun c15 H=>?_) fun c15 H=>?_
 refine Z12 ?_
 revert H;refine B3z fun r7 H e7=>?_
 cases e7;cases Hr2
 cases H
 refine aC [] (by decide) ?_
 exact To
 revert H;refine I8z (fun c16 H=>?_) fun c16 H=>?_
 revert H;refine B7z fun r8 H e8=>?_
 cases e8;cases Hr2
 cases H
 refine aC [] (by decide) ?_
 exact To
 revert H;refine B3z fun o6 H Hr6=>?_
 refine aO (ι:=Unit) (fun i=>o6=Sum.inl ()) (fun i=>[]) (fun i=>[aA b2 54 [fI y1.Op,fI y1.A,fI y1.B],aA b1 25 [fI a0.AH,fSl aE a0.AD,fSl aF a0.Code,fI a0.AG]]) ?_ ?_
 refine Z5 ?_
 refine Th (ι:=Int) (fun i=>tK a0 y1 i.1 i.2=_) (fun i=>[(2,fEq (ptr b1)),(5,fEq (ptr b2)),(7,fI i.2)]) (fun i=>[aA b2 54 [fI y1.Op,fI y1.A,fI y1.B],aA b1 25 [fI a0.AH,fSl aE a0.AD,fSl aF a0.Code,fI a0.AG]]) (AA,a1) H (fun _ h=>nomatch h) ?_
 clear H;rintro k1 x5 H;dsimp only at H ⊢;rw [tK]at H
 refine aK ?_
 revert H;refine I6z (fun c17 H=>?_) fun c17 H=>?_
 refine Z3 ?_
 refine aK ?_
 revert H;refine B5z fun y3 h3 H=>?_
 revert H;refine I5z (fun c18 H=>?_) fun c18 H=>?_
 revert H;refine fP fun r9 H e9=>?_
 cases e9;cases Hr6
 revert H;refine B2z fun r10 H e10=>?_
 cases e10;cases Hr2
 cases H
 refine aC [] (by decide) ?_
 exact To
 revert H;refine B6z fun z1 h4 H=>?_
 refine Z3 ?_
 exact Tm ((k1,z1)) ⟨H,ls⟩
 refine Z6 ?_
 exact Tm (()) (ij H)
 rintro i hi;subst o6;replace H:=Hr6;clear Hr6;try dsimp only at H ⊢
 revert H;refine B6z fun r11 H e11=>?_
 cases e11;cases Hr2
 cases H
 refine aC [] (by decide) ?_
 exact To
 revert H;refine I5z (fun c19 H=>?_) fun c19 H=>?_
 revert H;refine B1z fun o7 H Hr7=>?_
 refine aO (fun i=>o7=i) (fun i=>[(4,aL i)]) (fun i=>[aA b2 54 [fI y1.Op,fI y1.A,fI y1.B],aA b1 25 [fI a0.AH,fSl aE a0.AD,fSl aF a0.Code,fI a0.AG]]) ?_ ?_
 revert H;refine I5z (fun c20 H=>?_) fun c20 H=>?_
 refine Z9 ?_
 exact Tm (decide (y1.A<(a0.AD.length:Int))) (ij H)
 refine Z9 ?_
 exact Tm (false) (ij H)
 rintro x6 hi;subst o7;replace H:=Hr7;clear Hr7;try dsimp only at H ⊢
 revert H;refine B3z fun r12 H e12=>?_
 cases e12;cases Hr2
 cases H
 refine aC [] (by decide) ?_
 exact To
 refine Z4 ?_
 exact Tm (()) (ij H)
 rintro i hi;subst o2;replace H:=Hr2;clear Hr2;try dsimp only at H ⊢
 revert H;refine bs fun o8 H Hr8=>?_
 refine aO (fun i=>o8=i) (fun i=>[(4,aL i)]) (fun i=>[aA b2 54 [fI y1.Op,fI y1.A,fI y1.B],aA b1 25 [fI a0.AH,fSl aE a0.AD,fSl aF a0.Code,fI a0.AG]]) ?_ ?_
 revert H;refine I5z (fun c21 H=>?_) fun c21 H=>?_
 refine Z6 ?_
 exact Tm (decide (0<=y1.B)) (ij H)
 refine Z6 ?_
 exact Tm (false) (ij H)
 rintro x7 hi;subst o8;replace H:=Hr8;clear Hr8;try dsimp only at H ⊢
 refine Z1 ?_
 cases H
 refine aC [] (by decide) ?_
 exact To
def nU (a0:Int):Option (Bool):=
 (if a0=13 then
  some true
 else
  some (decide (a0=15))).bind fun x1=>
 some x1
theorem aBa  (a0:Int) (r:Bool) (H:nU a0=some r):FnS Tryz.prog 146 [fI a0] [] (aL r) (fun _=>[]):=by
 unfold nU at H
 refine bY Tryz.func146 rfl Tryz.ntmps146 rfl (fun β=>?_)
 revert H;refine B3z fun o1 H Hr1=>?_
 refine aO (fun i=>o1=i) (fun i=>[(2,aL i)]) (fun i=>[]) ?_ ?_
 revert H;refine I4z (fun c1 H=>?_) fun c1 H=>?_
 refine Z5 ?_
 exact Tm (true) (ij H)
 refine Z5 ?_
 exact Tm (decide (a0=15)) (ij H)
 rintro x1 hi;subst o1;replace H:=Hr1;clear Hr1;try dsimp only at H ⊢
 refine Z1 ?_
 cases H
 exact To
open Go.SX Go.SW Go.Dt
def pT (a0:AB) (x5:Int):Nat->(List Int)->Int->Option (List Int)
| 0,_,_=>none
| k+1,x10,x11=>
 (idx a0.AD x5).bind fun y1=>
 if x11<(y1.AP.length:Int)then
  (idx a0.AD x5).bind fun y2=>
  (idx y2.AP x11).bind fun y3=>
  (cY (x10++[y3.AV])).bind fun z1=>
  (chk (x11+1)).bind fun z2=>
  pT a0 x5 k z1 z2
 else
  some x10
def qI (a0:AB) (x5:Int):Nat->(List Int)->Int->Option (List Int)
| 0,_,_=>none
| k+1,x14,x15=>
 (idx a0.AD x5).bind fun y4=>
 if x15<(y4.AN.length:Int)then
  (idx a0.AD x5).bind fun y5=>
  (idx y5.AN x15).bind fun y6=>
  (cY (x14++[y6.AV])).bind fun z3=>
  (chk (x15+1)).bind fun z4=>
  qI a0 x5 k z3 z4
 else
  some x14
def rA (AA:Nat) (a0:AB):Nat->(List Int)->Int->Option (List Int)
| 0,_,_=>none
| k+1,x4,x5=>
 if x5<(a0.AD.length:Int)then
  ((pT a0 x5 AA x4 0).bind fun x7=>
  qI a0 x5 AA x7 0).bind fun x6=>
  (chk (x5+1)).bind fun z5=>
  rA AA a0 k x6 z5
 else
  some x4
def pO (a0:AB):Nat->(List Int)->Int->Option (List Int)
| 0,_,_=>none
| k+1,x19,x20=>
 if x20<(a0.Code.length:Int)then
  ((idx a0.Code x20).bind fun y7=>
  (nU y7.Op).bind fun y8=>
  bif y8 then
   (idx a0.Code x20).bind fun y9=>
   (cY (x19++[y9.B])).bind fun z6=>
   some z6
  else
   some x19).bind fun x21=>
  (chk (x20+1)).bind fun z7=>
  pO a0 k x21 z7
 else
  some x19
def wE (AA:Nat) (a0:AB):Option (List Int):=
 (rA AA a0 AA [a0.AG] 0).bind fun x1=>
 (pO a0 AA x1 0).bind fun x16=>
 some x16
theorem aHz (AA:Nat)  (a0:AB) (r:List Int) (H:wE AA a0=some r):FnS Tryz.prog 171 [fSt dX a0] [] (fSl tI r) (fun _=>[]):=by
 unfold wE at H
 refine bY Tryz.func171 rfl Tryz.ntmps171 rfl (fun β=>?_)
 refine Z1 ?_
 refine Tn (cG rfl hh bW) fun b1=>?_
 refine Z5 ?_
 refine Tn (cE (t:=tI) (xs:=[a0.AG]) rfl (et rfl) (aX.cons rfl (has rfl) (bO (aD a1I)) aX.nil) rfl rfl rfl) fun b2=>?_
 generalize (Value.slice (some ⟨b2,0,none⟩) _ _)=v1
 refine rc 0 fun _=>?_
 revert H;refine B2z fun o1 H Hr1=>?_
 refine aO (ι:=List Int × Value) (fun i=>o1=i.1) (fun i=>[(1,fEq (ptr b1)),(3,fEq i.2)]) (fun i=>[aA b1 25 [fI a0.AH,fSl aE a0.AD,fSl aF a0.Code,fI a0.AG],aB i.2 3 tI i.1]) ?_ ?_
 refine Z4 ?_
 refine aC [1,0] (by decide) ?_
 refine Th (ι:=List Int × Int × Value) (fun i=>rA AA a0 i.1 i.2.1 i.2.2.1=_) (fun i=>[(1,fEq (ptr b1)),(3,fEq i.2.2.2),(4,fI i.2.2.1)]) (fun i=>[aA b1 25 [fI a0.AH,fSl aE a0.AD,fSl aF a0.Code,fI a0.AG],aB i.2.2.2 3 tI i.2.1]) (AA,[a0.AG],0,v1) H (fun _ h=>nomatch h) ?_
 clear H;rintro k1 ⟨x4,x5,v4⟩ H;dsimp only at H ⊢;rw [rA]at H
 refine rc 1 fun _=>?_
 refine aK ?_
 revert H;refine I7z (fun c1 H=>?_) fun c1 H=>?_
 revert H;refine B3z fun o2 H Hr2=>?_
 refine aO (ι:=List Int × Value) (fun i=>o2=i.1) (fun i=>[(1,fEq (ptr b1)),(3,fEq i.2),(4,fI x5)]) (fun i=>[aA b1 25 [fI a0.AH,fSl aE a0.AD,fSl aF a0.Code,fI a0.AG],aB i.2 3 tI i.1]) ?_ ?_
 revert H;refine B1z fun o3 H Hr3=>?_
 refine aO (ι:=List Int × Value) (fun i=>o3=i.1) (fun i=>[(1,fEq (ptr b1)),(3,fEq i.2),(4,fI x5)]) (fun i=>[aA b1 25 [fI a0.AH,fSl aE a0.AD,fSl aF a0.Code,fI a0.AG],aB i.2 3 tI i.1]) ?_ ?_
 refine Z4 ?_
 refine Th (ι:=List Int × Int × Value) (fun i=>pT a0 x5 i.1 i.2.1 i.2.2.1=_) (fun i=>[(1,fEq (ptr b1)),(3,fEq i.2.2.2),(4,fI x5),(5,fI i.2.2.1)]) (fun i=>[aA b1 25 [fI a0.AH,fSl aE a0.AD,fSl aF a0.Code,fI a0.AG],aB i.2.2.2 3 tI i.2.1]) (AA,x4,0,v4) H (fun _ h=>nomatch h) ?_
 clear H;rintro k2 ⟨x10,x11,v8⟩ H;dsimp only at H ⊢;rw [pT]at H
 refine rc 1 fun _=>?_
 refine aK ?_
 revert H;refine B5z fun y1 h1 H=>?_
 refine Yy (eF rfl hh hh (el rfl) h1) ?_
 revert H;refine I5z (fun c2 H=>?_) fun c2 H=>?_
 refine Z3 ?_
 refine aK ?_
 revert H;refine B6z fun y2 h2 H=>?_
 revert H;refine B4z fun y3 h3 H=>?_
 refine Z3 ?_
 refine Tn (cE (t:=tI) (xs:=[y3.AV]) rfl (et rfl) (aX.cons rfl (has rfl) (bO (aD a1I)) aX.nil) rfl rfl rfl) fun b3=>?_
 generalize (Value.slice (some ⟨b3,0,none⟩) _ _)=v9
 refine rc 0 fun _=>?_
 revert H;refine bs fun z1 h4 H=>?_
 refine aQ ?_
 refine aP ?_
 refine gJ a1I rfl rfl rfl (has rfl) (has rfl) (et rfl) rfl h4 (fun v10=>?_)
 refine rc 0 fun _=>?_
 revert H;refine B6z fun z2 h5 H=>?_
 refine Z3 ?_
 refine aC [1,0] (by decide) ?_
 exact Tm ((k2,z1,z2,v10)) ⟨H,ls⟩
 refine Z6 ?_
 exact Tm ((x10,v8)) (ij H)
 rintro⟨x7,v6⟩ hi;subst o3;replace H:=Hr3;clear Hr3;try dsimp only at H ⊢
 refine rc 1 fun _=>?_
 refine Z4 ?_
 refine Th (ι:=List Int × Int × Value) (fun i=>qI a0 x5 i.1 i.2.1 i.2.2.1=_) (fun i=>[(1,fEq (ptr b1)),(3,fEq i.2.2.2),(4,fI x5),(6,fI i.2.2.1)]) (fun i=>[aA b1 25 [fI a0.AH,fSl aE a0.AD,fSl aF a0.Code,fI a0.AG],aB i.2.2.2 3 tI i.2.1]) (AA,x7,0,v6) H (fun _ h=>nomatch h) ?_
 clear H;rintro k3 ⟨x14,x15,v12⟩ H;dsimp only at H ⊢;rw [qI]at H
 refine rc 1 fun _=>?_
 refine aK ?_
 revert H;refine B5z fun y4 h6 H=>?_
 refine Yy (eF rfl hh hh (el rfl) h6) ?_
 revert H;refine I5z (fun c3 H=>?_) fun c3 H=>?_
 refine Z3 ?_
 refine aK ?_
 revert H;refine B6z fun y5 h7 H=>?_
 revert H;refine B4z fun y6 h8 H=>?_
 refine Z3 ?_
 refine Tn (cE (t:=tI) (xs:=[y6.AV]) rfl (et rfl) (aX.cons rfl (has rfl) (bO (aD a1I)) aX.nil) rfl rfl rfl) fun b4=>?_
 generalize (Value.slice (some ⟨b4,0,none⟩) _ _)=v13
 refine rc 0 fun _=>?_
 revert H;refine bs fun z3 h9 H=>?_
 refine aQ ?_
 refine aP ?_
 refine gJ a1I rfl rfl rfl (has rfl) (has rfl) (et rfl) rfl h9 (fun v14=>?_)
 refine rc 0 fun _=>?_
 revert H;refine B6z fun z4 h10 H=>?_
 refine Z3 ?_
 refine aC [1,0] (by decide) ?_
 exact Tm ((k3,z3,z4,v14)) ⟨H,ls⟩
 refine Z7 ?_
 exact Tm ((x14,v12)) (ij H)
 rintro⟨x6,v5⟩ hi;subst o2;replace H:=Hr2;clear Hr2;try dsimp only at H ⊢
 refine rc 1 fun _=>?_
 revert H;refine B2z fun z5 h11 H=>?_
 refine Z3 ?_
 exact Tm ((k1,x6,z5,v5)) ⟨H,ls⟩
 refine Z6 ?_
 exact Tm ((x4,v4)) (ij H)
 rintro⟨x1,v2⟩ hi;subst o1;replace H:=Hr1;clear Hr1;try dsimp only at H ⊢
 refine rc 1 fun _=>?_
 revert H;refine bs fun o4 H Hr4=>?_
 refine aO (ι:=List Int × Value) (fun i=>o4=i.1) (fun i=>[(3,fEq i.2)]) (fun i=>[aA b1 25 [fI a0.AH,fSl aE a0.AD,fSl aF a0.Code,fI a0.AG],aB i.2 3 tI i.1]) ?_ ?_
 refine Z4 ?_
 refine Th (ι:=List Int × Int × Value) (fun i=>pO a0 i.1 i.2.1 i.2.2.1=_) (fun i=>[(1,fEq (ptr b1)),(3,fEq i.2.2.2),(7,fI i.2.2.1)]) (fun i=>[aA b1 25 [fI a0.AH,fSl aE a0.AD,fSl aF a0.Code,fI a0.AG],aB i.2.2.2 3 tI i.2.1]) (AA,x1,0,v2) H (fun _ h=>nomatch h) ?_
 clear H;rintro k4 ⟨x19,x20,v17⟩ H;dsimp only at H ⊢;rw [pO]at H
 refine rc 1 fun _=>?_
 refine aK ?_
 revert H;refine I7z (fun c4 H=>?_) fun c4 H=>?_
 revert H;refine B3z fun o5 H Hr5=>?_
 refine aO (ι:=List Int × Value) (fun i=>o5=i.1) (fun i=>[(1,fEq (ptr b1)),(7,fI x20),(3,fEq i.2)]) (fun i=>[aA b1 25 [fI a0.AH,fSl aE a0.AD,fSl aF a0.Code,fI a0.AG],aB i.2 3 tI i.1]) ?_ ?_
 revert H;refine B5z fun y7 h12 H=>?_
 refine Yy (eF rfl hh hh (el rfl) h12) ?_
 revert H;refine B2z fun y8 h13 H=>?_
 refine Tc (aBa _ _ h13) ?_
 refine Z1 ?_
 revert H;refine cs (fun c5 H=>?_) fun c5 H=>?_
 revert H;refine B6z fun y9 h14 H=>?_
 refine Z3 ?_
 refine Tn (cE (t:=tI) (xs:=[y9.B]) rfl (et rfl) (aX.cons rfl (has rfl) (bO (aD a1I)) aX.nil) rfl rfl rfl) fun b5=>?_
 generalize (Value.slice (some ⟨b5,0,none⟩) _ _)=v19
 refine rc 0 fun _=>?_
 revert H;refine bs fun z6 h15 H=>?_
 refine aQ ?_
 refine aP ?_
 refine gJ a1I rfl rfl rfl (has rfl) (has rfl) (et rfl) rfl h15 (fun v20=>?_)
 refine rc 0 fun _=>?_
 refine Z4 ?_
 refine aC [1,0] (by decide) ?_
 exact Tm ((z6,v20)) (ij H)
 refine Z4 ?_
 exact Tm ((x19,v17)) (ij H)
 rintro⟨x21,v18⟩ hi;subst o5;replace H:=Hr5;clear Hr5;try dsimp only at H ⊢
 refine rc 1 fun _=>?_
 revert H;refine B2z fun z7 h16 H=>?_
 refine Z3 ?_
 exact Tm ((k4,x21,z7,v18)) ⟨H,ls⟩
 refine Z6 ?_
 exact Tm ((x19,v17)) (ij H)
 rintro⟨x16,v15⟩ hi;subst o4;replace H:=Hr4;clear Hr4;try dsimp only at H ⊢
 refine rc 1 fun _=>?_
 refine Z5 ?_
 refine aP ?_
 refine cP (φ:=fSl tI x16) (v:=v15) [3,89,2] cD fz ?_
 refine cL ?_
 cases H
 refine aC [] (by decide) ?_
 exact To
def nD (a0:AB) (y1:List Int):Nat->(List Bool)->Int->Option ((Unit) ⊕ (Bool))
| 0,_,_=>none
| k+1,x3,x4=>
 if x4<(y1.length:Int)then
  (idx y1 x4).bind fun y3=>
  (if y3<0 then
   ((some false).bind fun r=>some (Sum.inr r)).bind fun r=>some (Sum.inr r)
  else
   if (a0.Code.length:Int)<=y3 then
    ((some false).bind fun r=>some (Sum.inr r)).bind fun r=>some (Sum.inr r)
   else
    (idx x3 y3).bind fun y4=>
    bif y4 then
     ((some false).bind fun r=>some (Sum.inr r)).bind fun r=>some (Sum.inr r)
    else
     if 0<y3 then
      (chk (y3 - 1)).bind fun z1=>
      (idx a0.Code z1).bind fun y5=>
      if y5.Op≠16 then
       ((some false).bind fun r=>some (Sum.inr r)).bind fun r=>some (Sum.inr r)
      else
       some (Sum.inl ())
     else
      some (Sum.inl ())).bind fun o=>match o with
  | Sum.inr r=>some r
  | Sum.inl _=>
  (idx x3 y3).bind fun y6=>
  (chk (x4+1)).bind fun z2=>
  nD a0 y1 k (x3.set y3.toNat true) z2
 else
  some (Sum.inl ())
def pX (a0:AB):Nat->Int->Int->Option (Int)
| 0,_,_=>none
| k+1,x8,x9=>
 if x9<(a0.Code.length:Int)then
  ((idx a0.Code x9).bind fun y7=>
  if y7.Op=16 then
   (chk (x8+1)).bind fun z3=>
   some z3
  else
   some x8).bind fun x10=>
  (chk (x9+1)).bind fun z4=>
  pX a0 k x10 z4
 else
  some x8
def xG (AA:Nat) (a0:AB):Option (Bool):=
 (wE AA (⟨a0.AH,a0.AD,a0.Code,a0.AG⟩:AB)).bind fun y1=>
 (mk false (a0.Code.length:Int)).bind fun y2=>
 (nD a0 y1 AA y2 0).bind fun o=>match o with
 | Sum.inr r=>some r
 | Sum.inl _=>
 (pX a0 AA 0 0).bind fun x5=>
 (if x5=(y1.length:Int)then
  (chk ((a0.Code.length:Int) - 1)).bind fun z5=>
  (idx a0.Code z5).bind fun y8=>
  some (decide (y8.Op=16))
 else
  some false).bind fun x11=>
 some x11
theorem aF7 (AA:Nat)  (a0:AB) (r:Bool) (H:xG AA a0=some r):FnS Tryz.prog 143 [fSt dX a0] [] (aL r) (fun _=>[]):=by
 unfold xG at H
 refine bY Tryz.func143 rfl Tryz.ntmps143 rfl (fun β=>?_)
 refine Z1 ?_
 refine Tn (cG rfl hh bW) fun b1=>?_
 refine B4 H fun y1 h1 H=>?_
 refine Tc (aHz _ _ _ h1) ?_
 refine B6 H fun y2 h2 H=>?_
 refine Tn (aAb (t:=fV) (z:=false) rfl hh (et rfl) rfl aAt rfl h2) fun b2=>?_
 generalize (Value.slice (some ⟨b2,0,none⟩) _ _)=v1
 refine rc 0 fun _=>?_
 revert H;refine B2z fun o1 H Hr1=>?_
 refine aO (ι:=Unit) (fun i=>o1=Sum.inl ()) (fun i=>[(1,fEq (ptr b1)),(3,fSl tI y1)]) (fun i=>[aA b1 25 [fI a0.AH,fSl aE a0.AD,fSl aF a0.Code,fI a0.AG]]) ?_ ?_
 refine Z4 ?_
 refine aC [1,0] (by decide) ?_
 refine Th (ι:=List Bool × Int) (fun i=>nD a0 y1 i.1 i.2.1 i.2.2=_) (fun i=>[(1,fEq (ptr b1)),(3,fSl tI y1),(4,fEq v1),(5,fI i.2.2)]) (fun i=>[aA b1 25 [fI a0.AH,fSl aE a0.AD,fSl aF a0.Code,fI a0.AG],aB v1 4 fV i.2.1]) (AA,y2,0) H (fun _ h=>nomatch h) ?_
 clear H;rintro k1 ⟨x3,x4⟩ H;dsimp only at H ⊢;rw [nD]at H
 refine aK ?_
 revert H;refine I6z (fun c1 H=>?_) fun c1 H=>?_
 refine Z3 ?_
 refine aK ?_
 revert H;refine B4z fun y3 h3 H=>?_
 revert H;refine B4z fun o2 H Hr2=>?_
 refine aO (ι:=Unit) (fun i=>o2=Sum.inl ()) (fun i=>[(1,fEq (ptr b1)),(3,fSl tI y1),(4,fEq v1),(5,fI x4),(6,fI y3)]) (fun i=>[aA b1 25 [fI a0.AH,fSl aE a0.AD,fSl aF a0.Code,fI a0.AG],aB v1 4 fV x3]) ?_ ?_
 revert H;refine I4z (fun c2 H=>?_) fun c2 H=>?_
 refine Z12 ?_
 refine Z4 ?_
 refine bF (⟨_,_,_,_,rfl,rfl,rfl,nu⟩) rfl rfl ?_
 refine bF (⟨_,_,_,_,rfl,rfl,rfl,nu⟩) rfl rfl ?_
 refine bF (⟨_,_,_,_,rfl,rfl,rfl,nu⟩) rfl rfl ?_
 refine bF (⟨_,_,_,_,rfl,rfl,rfl,nu⟩) rfl rfl ?_
 refine bF (⟨_,_,_,_,rfl,rfl,rfl,nu⟩) rfl rfl ?_
 refine bF (⟨_,_,_,_,rfl,rfl,rfl,nu⟩) rfl rfl ?_
 refine bF (⟨_,_,_,_,rfl,rfl,rfl,nu⟩) rfl rfl ?_
 refine bF (⟨_,_,_,_,rfl,rfl,rfl,nu⟩) rfl rfl ?_
 revert H;refine B8z fun r1 H e1=>?_
 cases e1;cases Hr2
 revert H;refine B5z fun r2 H e2=>?_
 cases e2;cases Hr1
 cases H
 refine aC [] (by decide) ?_
 exact To
 revert H;refine I7z (fun c3 H=>?_) fun c3 H=>?_
 refine Z9 ?_
 refine bF (⟨_,_,_,_,rfl,rfl,rfl,nu⟩) rfl rfl ?_
 refine bF (⟨_,_,_,_,rfl,rfl,rfl,nu⟩) rfl rfl ?_
 refine bF (⟨_,_,_,_,rfl,rfl,rfl,nu⟩) rfl rfl ?_
 refine bF (⟨_,_,_,_,rfl,rfl,rfl,nu⟩) rfl rfl ?_
 refine bF (⟨_,_,_,_,rfl,rfl,rfl,nu⟩) rfl rfl ?_
 refine bF (⟨_,_,_,_,rfl,rfl,rfl,nu⟩) rfl rfl ?_
 refine bF (⟨_,_,_,_,rfl,rfl,rfl,nu⟩) rfl rfl ?_
 refine bF (⟨_,_,_,_,rfl,rfl,rfl,nu⟩) rfl rfl ?_
 revert H;refine B8z fun r3 H e3=>?_
 cases e3;cases Hr2
 revert H;refine B5z fun r4 H e4=>?_
 cases e4;cases Hr1
 cases H
 refine aC [] (by decide) ?_
 exact To
 revert H;refine B2z fun y4 h4 H=>?_
 refine Yh 1 rfl c3 (rX rfl hh hh (el rfl) h4) ?_
 refine Yh 1 rfl c3 (kC rfl rfl hh (sc rfl) (dU h4) rfl) ?_
 refine Z2 ?_
 revert H;refine cs (fun c4 H=>?_) fun c4 H=>?_
 refine Z3 ?_
 refine bF (⟨_,_,_,_,rfl,rfl,rfl,nu⟩) rfl rfl ?_
 refine bF (⟨_,_,_,_,rfl,rfl,rfl,nu⟩) rfl rfl ?_
 refine bF (⟨_,_,_,_,rfl,rfl,rfl,nu⟩) rfl rfl ?_
 refine bF (⟨_,_,_,_,rfl,rfl,rfl,nu⟩) rfl rfl ?_
 refine bF (⟨_,_,_,_,rfl,rfl,rfl,nu⟩) rfl rfl ?_
 refine bF (⟨_,_,_,_,rfl,rfl,rfl,nu⟩) rfl rfl ?_
 refine bF (⟨_,_,_,_,rfl,rfl,rfl,nu⟩) rfl rfl ?_
 refine bF (⟨_,_,_,_,rfl,rfl,rfl,nu⟩) rfl rfl ?_
 revert H;refine B8z fun r5 H e5=>?_
 cases e5;cases Hr2
 revert H;refine B5z fun r6 H e6=>?_
 cases e6;cases Hr1
 cases H
 refine aC [] (by decide) ?_
 exact To
 revert H;refine I3z (fun c5 H=>?_) fun c5 H=>?_
 revert H;refine B3z fun z1 h5 H=>?_
 revert H;refine B1z fun y5 h6 H=>?_
 revert H;refine I7z (fun c6 H=>?_) fun c6 H=>?_
 revert H;refine B5z fun r7 H e7=>?_
 cases e7;cases Hr2
 revert H;refine B5z fun r8 H e8=>?_
 cases e8;cases Hr1
 cases H
 refine aC [] (by decide) ?_
 exact To
 refine Z3 ?_
 exact Tm (()) (ij H)
 refine Z12 ?_
 refine Z2 ?_
 exact Tm (()) (ij H)
 rintro i hi;subst o2;replace H:=Hr2;clear Hr2;try dsimp only at H ⊢
 revert H;refine B3z fun y6 h7 H=>?_
 refine Z1 ?_
 refine aP ?_
 refine aAJ (z':=true) a1I rfl rfl rfl (has rfl) (has rfl) (aD a1I) (sz rfl) (dU h7) rfl rfl ?_
 revert H;refine B5z fun z2 h8 H=>?_
 refine Z3 ?_
 refine aC [1,0] (by decide) ?_
 exact Tm ((k1,x3.set y3.toNat true,z2)) ⟨H,ls⟩
 refine Z6 ?_
 refine aC [0] (by decide) ?_
 exact Tm (()) (ij H)
 rintro i hi;subst o1;replace H:=Hr1;clear Hr1;try dsimp only at H ⊢
 revert H;refine B3z fun o3 H Hr3=>?_
 refine aO (fun i=>o3=i) (fun i=>[(1,fEq (ptr b1)),(3,fSl tI y1),(7,fI i)]) (fun i=>[aA b1 25 [fI a0.AH,fSl aE a0.AD,fSl aF a0.Code,fI a0.AG]]) ?_ ?_
 refine Z4 ?_
 refine Th (ι:=Int × Int) (fun i=>pX a0 i.1 i.2.1 i.2.2=_) (fun i=>[(1,fEq (ptr b1)),(3,fSl tI y1),(7,fI i.2.1),(8,fI i.2.2)]) (fun i=>[aA b1 25 [fI a0.AH,fSl aE a0.AD,fSl aF a0.Code,fI a0.AG]]) (AA,0,0) H (fun _ h=>nomatch h) ?_
 clear H;rintro k2 ⟨x8,x9⟩ H;dsimp only at H ⊢;rw [pX]at H
 refine aK ?_
 revert H;refine I7z (fun c7 H=>?_) fun c7 H=>?_
 revert H;refine B3z fun o4 H Hr4=>?_
 refine aO (fun i=>o4=i) (fun i=>[(1,fEq (ptr b1)),(3,fSl tI y1),(7,fI i),(8,fI x9)]) (fun i=>[aA b1 25 [fI a0.AH,fSl aE a0.AD,fSl aF a0.Code,fI a0.AG]]) ?_ ?_
 revert H;refine B5z fun y7 h9 H=>?_
 revert H;refine I5z (fun c8 H=>?_) fun c8 H=>?_
 revert H;refine B3z fun z3 h10 H=>?_
 refine Z5 ?_
 exact Tm (z3) (ij H)
 refine Z4 ?_
 exact Tm (x8) (ij H)
 rintro x10 hi;subst o4;replace H:=Hr4;clear Hr4;try dsimp only at H ⊢
 revert H;refine B2z fun z4 h11 H=>?_
 refine Z3 ?_
 exact Tm ((k2,x10,z4)) ⟨H,ls⟩
 refine Z6 ?_
 exact Tm (x8) (ij H)
 rintro x5 hi;subst o3;replace H:=Hr3;clear Hr3;try dsimp only at H ⊢
 revert H;refine bs fun o5 H Hr5=>?_
 refine aO (fun i=>o5=i) (fun i=>[(2,aL i)]) (fun i=>[aA b1 25 [fI a0.AH,fSl aE a0.AD,fSl aF a0.Code,fI a0.AG]]) ?_ ?_
 revert H;refine I6z (fun c9 H=>?_) fun c9 H=>?_
 revert H;refine B5z fun z5 h12 H=>?_
 revert H;refine B1z fun y8 h13 H=>?_
 refine Z7 ?_
 exact Tm (decide (y8.Op=16)) (ij H)
 refine Z12 ?_
 refine Z1 ?_
 exact Tm (false) (ij H)
 rintro x11 hi;subst o5;replace H:=Hr5;clear Hr5;try dsimp only at H ⊢
 refine Z1 ?_
 cases H
 refine aC [] (by decide) ?_
 exact To
def lD (a0:AB):Nat->(List Bool)->Int->Int->Option ((List Bool × Int) ⊕ (Bool))
| 0,_,_,_=>none
| k+1,x6,x7,x8=>
 if x8<(a0.Code.length:Int)then
  ((idx a0.Code x8).bind fun y2=>
  if y2.Op=11 then
   (idx a0.Code x8).bind fun y3=>
   (idx x6 y3.A).bind fun y4=>
   bif y4 then
    ((some false).bind fun r=>some (Sum.inr r)).bind fun r=>some (Sum.inr r)
   else
    (idx a0.Code x8).bind fun y5=>
    (idx x6 y5.A).bind fun y6=>
    (chk (x7+1)).bind fun z1=>
    some (Sum.inl (x6.set y5.A.toNat true,z1))
  else
   some (Sum.inl (x6,x7))).bind fun o=>match o with
  | Sum.inr r=>some r
  | Sum.inl (x9,x10)=>
  (chk (x8+1)).bind fun z2=>
  lD a0 k x9 x10 z2
 else
  some (Sum.inl (x6,x7))
def wI (AA:Nat) (a0:AB):Option (Bool):=
 (mk false (a0.AD.length:Int)).bind fun y1=>
 (lD a0 AA y1 0 0).bind fun o=>match o with
 | Sum.inr r=>some r
 | Sum.inl (x1,x2)=>
 some (decide (x2=(x1.length:Int)))
theorem aIp (AA:Nat)  (a0:AB) (r:Bool) (H:wI AA a0=some r):FnS Tryz.prog 144 [fSt dX a0] [] (aL r) (fun _=>[]):=by
 unfold wI at H
 refine bY Tryz.func144 rfl Tryz.ntmps144 rfl (fun β=>?_)
 refine Z1 ?_
 refine Tn (cG rfl hh bW) fun b1=>?_
 refine B6 H fun y1 h1 H=>?_
 refine Tn (aAb (t:=fV) (z:=false) rfl hh (et rfl) rfl aAt rfl h1) fun b2=>?_
 generalize (Value.slice (some ⟨b2,0,none⟩) _ _)=v1
 refine rc 0 fun _=>?_
 revert H;refine B5z fun o1 H Hr1=>?_
 refine aO (fun i=>o1=Sum.inl i) (fun i=>[(3,fEq v1),(4,fI i.2)]) (fun i=>[aA b1 25 [fI a0.AH,fSl aE a0.AD,fSl aF a0.Code,fI a0.AG],aB v1 4 fV i.1]) ?_ ?_
 refine Z4 ?_
 refine aC [1,0] (by decide) ?_
 refine Th (ι:=List Bool × Int × Int) (fun i=>lD a0 i.1 i.2.1 i.2.2.1 i.2.2.2=_) (fun i=>[(1,fEq (ptr b1)),(3,fEq v1),(4,fI i.2.2.1),(5,fI i.2.2.2)]) (fun i=>[aA b1 25 [fI a0.AH,fSl aE a0.AD,fSl aF a0.Code,fI a0.AG],aB v1 4 fV i.2.1]) (AA,y1,0,0) H (fun _ h=>nomatch h) ?_
 clear H;rintro k1 ⟨x6,x7,x8⟩ H;dsimp only at H ⊢;rw [lD]at H
 refine aK ?_
 revert H;refine I7z (fun c1 H=>?_) fun c1 H=>?_
 revert H;refine B3z fun o2 H Hr2=>?_
 refine aO (fun i=>o2=Sum.inl i) (fun i=>[(1,fEq (ptr b1)),(3,fEq v1),(4,fI i.2),(5,fI x8)]) (fun i=>[aA b1 25 [fI a0.AH,fSl aE a0.AD,fSl aF a0.Code,fI a0.AG],aB v1 4 fV i.1]) ?_ ?_
 revert H;refine B5z fun y2 h2 H=>?_
 refine Yy (eF rfl hh hh (el rfl) h2) ?_
 revert H;refine I4z (fun c2 H=>?_) fun c2 H=>?_
 refine Z1 ?_
 refine aK ?_
 revert H;refine B5z fun y3 h3 H=>?_
 refine Yy (eF rfl hh hh (el rfl) h3) ?_
 revert H;refine B2z fun y4 h4 H=>?_
 refine Z1 ?_
 refine Yo 1 rfl (kC rfl rfl hh (sc rfl) (dU h4) rfl) ?_
 refine Z1 ?_
 revert H;refine cs (fun c3 H=>?_) fun c3 H=>?_
 revert H;refine B7z fun r1 H e1=>?_
 cases e1;cases Hr2
 revert H;refine B3z fun r2 H e2=>?_
 cases e2;cases Hr1
 cases H
 refine aC [] (by decide) ?_
 exact To
 revert H;refine B8z fun y5 h5 H=>?_
 revert H;refine B3z fun y6 h6 H=>?_
 refine Z1 ?_
 refine aP ?_
 refine aAJ (z':=true) a1I rfl rfl rfl (has rfl) (has rfl) (aD a1I) (sz rfl) (dU h6) rfl rfl ?_
 revert H;refine B3z fun z1 h7 H=>?_
 refine Z5 ?_
 refine aC [1,0] (by decide) ?_
 exact Tm ((x6.set y5.A.toNat true,z1)) (ij H)
 refine Z4 ?_
 exact Tm ((x6,x7)) (ij H)
 rintro⟨x9,x10⟩ hi;subst o2;replace H:=Hr2;clear Hr2;try dsimp only at H ⊢
 revert H;refine B2z fun z2 h8 H=>?_
 refine Z3 ?_
 exact Tm ((k1,x9,x10,z2)) ⟨H,ls⟩
 refine Z6 ?_
 exact Tm ((x6,x7)) (ij H)
 rintro⟨x1,x2⟩ hi;subst o1;replace H:=Hr1;clear Hr1;try dsimp only at H ⊢
 refine Z8 ?_
 cases H
 refine aC [] (by decide) ?_
 exact To
open Go.SX Go.SW Go.Dt
def qV (AA:Nat) (a0:AB):Nat->Int->Option ((Unit) ⊕ (Bool))
| 0,_=>none
| k+1,x2=>
 if x2<(a0.AD.length:Int)then
  (idx a0.AD x2).bind fun y1=>
  (wL AA y1).bind fun y2=>
  bif y2 then
   (chk (x2+1)).bind fun z1=>
   qV AA a0 k z1
  else
   (some false).bind fun r=>some (Sum.inr r)
 else
  some (Sum.inl ())
def oZ (AA:Nat) (a0:AB):Nat->Int->Option ((Unit) ⊕ (Bool))
| 0,_=>none
| k+1,x4=>
 if x4<(a0.Code.length:Int)then
  (uM AA (⟨a0.AH,a0.AD,a0.Code,a0.AG⟩:AB) x4).bind fun y3=>
  bif y3 then
   (chk (x4+1)).bind fun z2=>
   oZ AA a0 k z2
  else
   (some false).bind fun r=>some (Sum.inr r)
 else
  some (Sum.inl ())
def wF (AA:Nat) (a0:AB):Option (Bool):=
 if a0.AH<0 then
  some false
 else
  if 12<a0.AH then
   some false
  else
   if 12<(a0.AD.length:Int)then
    some false
   else
    if (a0.Code.length:Int)<1 then
     some false
    else
     if 12000<(a0.Code.length:Int)then
      some false
     else
      (qV AA a0 AA 0).bind fun o=>match o with
      | Sum.inr r=>some r
      | Sum.inl _=>
      (oZ AA a0 AA 0).bind fun o=>match o with
      | Sum.inr r=>some r
      | Sum.inl _=>
      ((xG AA (⟨a0.AH,a0.AD,a0.Code,a0.AG⟩:AB)).bind fun y4=>
      bif y4 then
       (wI AA (⟨a0.AH,a0.AD,a0.Code,a0.AG⟩:AB)).bind fun y5=>
       some y5
      else
       some false).bind fun x5=>
      some x5
theorem aGH (AA:Nat)  (a0:AB) (r:Bool) (H:wF AA a0=some r):FnS Tryz.prog 112 [fSt dX a0] [] (aL r) (fun _=>[]):=by
 unfold wF at H
 refine bY Tryz.func112 rfl Tryz.ntmps112 rfl (fun β=>?_)
 refine Z1 ?_
 refine Tn (cG rfl hh bW) fun b1=>?_
 refine Z2 ?_
 refine aK ?_
 refine I5 H (fun c1 H=>?_) fun c1 H=>?_
 refine Z12 ?_
 refine Z12 ?_
 refine Z4 ?_
 cases H
 refine aC [] (by decide) ?_
 exact To
 refine I5 H (fun c2 H=>?_) fun c2 H=>?_
 refine Z12 ?_
 refine Z11 ?_
 cases H
 refine aC [] (by decide) ?_
 exact To
 refine I6 H (fun c3 H=>?_) fun c3 H=>?_
 refine Z12 ?_
 refine Z5 ?_
 cases H
 refine aC [] (by decide) ?_
 exact To
 refine I6 H (fun c4 H=>?_) fun c4 H=>?_
 refine Z11 ?_
 cases H
 refine aC [] (by decide) ?_
 exact To
 refine I6 H (fun c5 H=>?_) fun c5 H=>?_
 refine Z5 ?_
 cases H
 refine aC [] (by decide) ?_
 exact To
 revert H;refine B3z fun o1 H Hr1=>?_
 refine aO (ι:=Unit) (fun i=>o1=Sum.inl ()) (fun i=>[(1,fEq (ptr b1))]) (fun i=>[aA b1 25 [fI a0.AH,fSl aE a0.AD,fSl aF a0.Code,fI a0.AG]]) ?_ ?_
 refine Z4 ?_
 refine Th (ι:=Int) (fun i=>qV AA a0 i.1 i.2=_) (fun i=>[(1,fEq (ptr b1)),(3,fI i.2)]) (fun i=>[aA b1 25 [fI a0.AH,fSl aE a0.AD,fSl aF a0.Code,fI a0.AG]]) (AA,0) H (fun _ h=>nomatch h) ?_
 clear H;rintro k1 x2 H;dsimp only at H ⊢;rw [qV]at H
 refine aK ?_
 revert H;refine I7z (fun c6 H=>?_) fun c6 H=>?_
 refine Z3 ?_
 refine aK ?_
 revert H;refine B5z fun y1 h1 H=>?_
 revert H;refine B2z fun y2 h2 H=>?_
 refine Tc (aGg _ _ _ h2) ?_
 refine Z2 ?_
 revert H;refine cs (fun c7 H=>?_) fun c7 H=>?_
 revert H;refine B6z fun z1 h3 H=>?_
 refine Z3 ?_
 exact Tm ((k1,z1)) ⟨H,ls⟩
 revert H;refine fP fun r1 H e1=>?_
 cases e1;cases Hr1
 cases H
 refine aC [] (by decide) ?_
 exact To
 refine Z6 ?_
 exact Tm (()) (ij H)
 rintro i hi;subst o1;replace H:=Hr1;clear Hr1;try dsimp only at H ⊢
 revert H;refine bs fun o2 H Hr2=>?_
 refine aO (ι:=Unit) (fun i=>o2=Sum.inl ()) (fun i=>[(1,fEq (ptr b1))]) (fun i=>[aA b1 25 [fI a0.AH,fSl aE a0.AD,fSl aF a0.Code,fI a0.AG]]) ?_ ?_
 refine Z4 ?_
 refine Th (ι:=Int) (fun i=>oZ AA a0 i.1 i.2=_) (fun i=>[(1,fEq (ptr b1)),(4,fI i.2)]) (fun i=>[aA b1 25 [fI a0.AH,fSl aE a0.AD,fSl aF a0.Code,fI a0.AG]]) (AA,0) H (fun _ h=>nomatch h) ?_
 clear H;rintro k2 x4 H;dsimp only at H ⊢;rw [oZ]at H
 refine aK ?_
 revert H;refine I7z (fun c8 H=>?_) fun c8 H=>?_
 refine Z3 ?_
 refine aK ?_
 revert H;refine B4z fun y3 h4 H=>?_
 refine Tc (aHs _ _ _ _ h4) ?_
 refine Z2 ?_
 revert H;refine cs (fun c9 H=>?_) fun c9 H=>?_
 revert H;refine B6z fun z2 h5 H=>?_
 refine Z3 ?_
 exact Tm ((k2,z2)) ⟨H,ls⟩
 revert H;refine fP fun r2 H e2=>?_
 cases e2;cases Hr2
 cases H
 refine aC [] (by decide) ?_
 exact To
 refine Z6 ?_
 exact Tm (()) (ij H)
 rintro i hi;subst o2;replace H:=Hr2;clear Hr2;try dsimp only at H ⊢
 revert H;refine bs fun o3 H Hr3=>?_
 refine aO (fun i=>o3=i) (fun i=>[(2,aL i)]) (fun i=>[aA b1 25 [fI a0.AH,fSl aE a0.AD,fSl aF a0.Code,fI a0.AG]]) ?_ ?_
 revert H;refine B2z fun y4 h6 H=>?_
 refine Tc (aF7 _ _ _ h6) ?_
 refine Z1 ?_
 revert H;refine cs (fun c10 H=>?_) fun c10 H=>?_
 revert H;refine B1z fun y5 h7 H=>?_
 refine Tc (aIp _ _ _ h7) ?_
 refine Z3 ?_
 exact Tm (y5) (ij H)
 refine Z5 ?_
 exact Tm (false) (ij H)
 rintro x5 hi;subst o3;replace H:=Hr3;clear Hr3;try dsimp only at H ⊢
 refine Z1 ?_
 cases H
 refine aC [] (by decide) ?_
 exact To
def fM (a0:Ref09_flow) (a1:Int) (a2:Int) (a3:Int):Option (Ref09_flow):=
 (idx a0.AK a1).bind fun y1=>
 if y1.AM<0 then
  (idx a0.AK a1).bind fun y2=>
  (cY (a0.wait++[a1])).bind fun z1=>
  some (⟨a0.AK.set a1.toNat (⟨a2,a3⟩:AJ),z1,a0.wrong⟩:Ref09_flow)
 else
  bif a0.wrong then
   some (⟨a0.AK,a0.wait,true⟩:Ref09_flow)
  else
   (idx a0.AK a1).bind fun y3=>
   some (⟨a0.AK,a0.wait,!(decide (y3.AM=a2) && decide (y3.AS=a3))⟩:Ref09_flow)
theorem iK (p0:Nat) (a0:Ref09_flow) (a1:Int) (a2:Int) (a3:Int) (r:Ref09_flow) (H:fM a0 a1 a2 a3=some r):FnS Tryz.prog 113 [fEq (.pointer (some ⟨p0,0,none⟩)),fI a1,fI a2,fI a3] [lU p0 a0] (dI []) (fun _=>[lU p0 r]):=by
 unfold fM at H
 refine bY Tryz.func113 rfl Tryz.ntmps113 rfl (fun β=>?_)
 refine fE (fun v1 v2=>?_)
 refine rc 1 fun _=>?_
 refine rc 2 fun _=>?_
 refine aK ?_
 refine B6 H fun y1 h1 H=>?_
 refine Yo 1 rfl (rX rfl hh hh (el rfl) h1) ?_
 refine Yy (aAy 0 rfl hh (fa rfl) rfl) ?_
 refine Yo 1 rfl (kC rfl rfl hh (sc rfl) (dU h1) rfl) ?_
 refine I2 H (fun c1 H=>?_) fun c1 H=>?_
 refine Z9 ?_
 refine Yy (dJ (ψs:=[fI a2,fI a3]) rfl nW rfl (bE.cons (has rfl) (bO (aD a1I)) (bE.cons (has rfl) (bO (aD a1I)) bE.nil)) rfl) ?_
 refine bz H fun y2 h2 H=>?_
 refine Yo 1 rfl (rX rfl hh hh (el rfl) h2) ?_
 refine aP ?_
 refine aHT (z:=(⟨a2,a3⟩:AJ)) a1I rfl rfl rfl (has rfl) (has rfl) (sz rfl) (a0C.1 (dU h2)).1 ?_
 refine Z8 ?_
 refine Tn (cE (t:=tI) (xs:=[a1]) rfl (et rfl) (aX.cons rfl (has rfl) (bO (aD a1I)) aX.nil) rfl rfl rfl) fun b1=>?_
 generalize (Value.slice (some ⟨b1,0,none⟩) _ _)=v3
 refine rc 0 fun _=>?_
 refine bz H fun z1 h3 H=>?_
 refine bD ?_
 refine aP ?_
 refine gJ a1I rfl rfl rfl (has rfl) (has rfl) (et rfl) rfl h3 (fun v4=>?_)
 refine rc 0 fun hc_v4=>?_
 refine Z2 ?_
 refine aQ ?_
 refine bJ (φs':=[fEq v1,fEq v4,aL a0.wrong]) a1I rfl rfl (has rfl) (has rfl) (aD hc_v4) (sz rfl) rfl rfl ?_
 refine Z2 ?_
 refine aP ?_
 refine aQ ?_
 refine aQ ?_
 refine cH ?_
 cases H
 exact cV (.inl rfl) rfl rfl
 refine Z10 ?_
 refine cz H (fun c2 H=>?_) fun c2 H=>?_
 refine Z12 ?_
 refine Z2 ?_
 refine bJ (φs':=[fEq v1,fEq v2,aL true]) a1I rfl rfl (has rfl) (has rfl) (aD a1I) (sz rfl) rfl rfl ?_
 refine Z1 ?_
 refine cH ?_
 cases H
 exact cV (.inr rfl) rfl rfl
 refine B5 H fun y3 h4 H=>?_
 refine Z1 ?_
 refine Yh 1 rfl c2 (o_loadRS rfl rfl hh (ag rfl) (dU h4)) ?_
 refine Z2 ?_
 refine Yg c2 (dJ (ψs:=[fI a2,fI a3]) rfl nW rfl (bE.cons (has rfl) (bO (aD a1I)) (bE.cons (has rfl) (bO (aD a1I)) bE.nil)) rfl) ?_
 refine Yg c2 (aBu (t:=aZ) (u:=y3) (v:=(⟨a2,a3⟩:AJ)) rfl hh hh rfl rfl aFZ) ?_
 refine Z3 ?_
 refine bJ (φs':=[fEq v1,fEq v2,aL (!(decide (y3.AM=a2) && decide (y3.AS=a3)))]) a1I rfl rfl (has rfl) (has rfl) (aD a1I) (sz rfl) rfl rfl ?_
 refine Z1 ?_
 refine cH ?_
 cases H
 exact cV (.inr rfl) rfl rfl
def uH (a0:Int):Option (Bool):=
 (if 3<=a0 then
  some (decide (a0<=7))
 else
  some false).bind fun x1=>
 some x1
theorem aHW  (a0:Int) (r:Bool) (H:uH a0=some r):FnS Tryz.prog 145 [fI a0] [] (aL r) (fun _=>[]):=by
 unfold uH at H
 refine bY Tryz.func145 rfl Tryz.ntmps145 rfl (fun β=>?_)
 revert H;refine B3z fun o1 H Hr1=>?_
 refine aO (fun i=>o1=i) (fun i=>[(2,aL i)]) (fun i=>[]) ?_ ?_
 revert H;refine I4z (fun c1 H=>?_) fun c1 H=>?_
 refine Z5 ?_
 exact Tm (decide (a0<=7)) (ij H)
 refine Z5 ?_
 exact Tm (false) (ij H)
 rintro x1 hi;subst o1;replace H:=Hr1;clear Hr1;try dsimp only at H ⊢
 refine Z1 ?_
 cases H
 exact To
def oU (a1:AO) (z2:Int):Nat->Int->(List AJ)->(List Int)->Bool->Option (List AJ × List Int × Bool)
| 0,_,_,_,_=>none
| k+1,x8,x9,x10,x11=>
 if x8<(a1.AN.length:Int)then
  (idx a1.AN x8).bind fun y1=>
  (fM (⟨x9,x10,x11⟩:Ref09_flow) y1.AV 0 z2).bind fun y2=>
  (chk (x8+1)).bind fun z3=>
  oU a1 z2 k z3 y2.AK y2.wait y2.wrong
 else
  some (x9,x10,x11)
def qF (a1:AO) (x16:Int):Nat->Int->Int->Option (Int)
| 0,_,_=>none
| k+1,x26,x27=>
 (idx a1.AP x16).bind fun y3=>
 if x27<(y3.AX.length:Int)then
  (idx a1.AP x16).bind fun y4=>
  (idx y4.AX x27).bind fun y5=>
  (idx a1.AQ y5).bind fun y6=>
  (chk (x26+y6.Ae)).bind fun z4=>
  (chk (x27+1)).bind fun z5=>
  qF a1 x16 k z4 z5
 else
  some x26
def qY (AA:Nat) (a1:AO) (z2:Int):Nat->Int->(List AJ)->(List Int)->Bool->Option (Ref09_flow)
| 0,_,_,_,_=>none
| k+1,x16,x17,x18,x19=>
 if x16<(a1.AP.length:Int)then
  ((qF a1 x16 AA z2 0).bind fun x23=>
  (idx a1.AP x16).bind fun y7=>
  (fM (⟨x17,x18,x19⟩:Ref09_flow) y7.AV 0 x23).bind fun y8=>
  some (y8.AK,y8.wait,y8.wrong)).bind fun (x20,x21,x22)=>
  (chk (x16+1)).bind fun z6=>
  qY AA a1 z2 k z6 x20 x21 x22
 else
  some (⟨x17,x18,x19⟩:Ref09_flow)
def xF (AA:Nat) (a0:Ref09_flow) (a1:AO) (a2:Int):Option (Ref09_flow):=
 (chk (a2+(a1.AQ.length:Int))).bind fun z1=>
 (chk (z1+(a1.AN.length:Int))).bind fun z2=>
 (oU a1 z2 AA 0 a0.AK a0.wait a0.wrong).bind fun (x1,x2,x3)=>
 qY AA a1 z2 AA 0 x1 x2 x3
theorem aHt (AA:Nat) (p0:Nat) (a0:Ref09_flow) (a1:AO) (a2:Int) (r:Ref09_flow) (H:xF AA a0 a1 a2=some r):FnS Tryz.prog 147 [fEq (.pointer (some ⟨p0,0,none⟩)),fSt aE a1,fI a2] [lU p0 a0] (dI []) (fun _=>[lU p0 r]):=by
 unfold xF at H
 refine bY Tryz.func147 rfl Tryz.ntmps147 rfl (fun β=>?_)
 refine fE (fun v1 v2=>?_)
 refine rc 1 fun _=>?_
 refine rc 2 fun _=>?_
 refine Z1 ?_
 refine Tn (cG rfl hh bW) fun b1=>?_
 refine B6 H fun z1 h1 H=>?_
 refine B4 H fun z2 h2 H=>?_
 revert H;refine B3z fun o1 H Hr1=>?_
 refine aO (ι:=List AJ × List Int × Bool × Value × Value) (fun i=>o1=(i.1,i.2.1,i.2.2.1)) (fun i=>[(0,fEq (ptr p0)),(2,fI z2),(4,fEq (ptr b1))]) (fun i=>[aA b1 78 [fSl aS a1.AQ,fSl aV a1.AN,fSl aY a1.AP],aA p0 214 [fEq i.2.2.2.1,fEq i.2.2.2.2,aL i.2.2.1],aB i.2.2.2.1 59 aZ i.1,aB i.2.2.2.2 3 tI i.2.1]) ?_ ?_
 refine Z4 ?_
 refine Th (ι:=Int × List AJ × List Int × Bool × Value × Value) (fun i=>oU a1 z2 i.1 i.2.1 i.2.2.1 i.2.2.2.1 i.2.2.2.2.1=_) (fun i=>[(0,fEq (ptr p0)),(2,fI z2),(4,fEq (ptr b1)),(6,fI i.2.1)]) (fun i=>[aA b1 78 [fSl aS a1.AQ,fSl aV a1.AN,fSl aY a1.AP],aA p0 214 [fEq i.2.2.2.2.2.1,fEq i.2.2.2.2.2.2,aL i.2.2.2.2.1],aB i.2.2.2.2.2.1 59 aZ i.2.2.1,aB i.2.2.2.2.2.2 3 tI i.2.2.2.1]) (AA,0,a0.AK,a0.wait,a0.wrong,v1,v2) H (fun _ h=>nomatch h) ?_
 clear H;rintro k1 ⟨x8,x9,x10,x11,v7,v8⟩ H;dsimp only at H ⊢;rw [oU]at H
 refine rc 2 fun _=>?_
 refine rc 3 fun _=>?_
 refine aK ?_
 revert H;refine I7z (fun c1 H=>?_) fun c1 H=>?_
 refine Z3 ?_
 refine aK ?_
 revert H;refine B6z fun y1 h3 H=>?_
 refine Z4 ?_
 refine bD ?_
 refine bD ?_
 refine bD ?_
 refine cH ?_
 revert H;refine bs fun y2 h4 H=>?_
 refine Tc (iK _ _ _ _ _ _ h4) ?_
 refine fE (fun v9 v10=>?_)
 refine rc 1 fun _=>?_
 refine rc 2 fun _=>?_
 revert H;refine B5z fun z3 h5 H=>?_
 refine Z3 ?_
 refine aC [3,0,1,2] (by decide) ?_
 exact Tm ((k1,z3,y2.AK,y2.wait,y2.wrong,v9,v10)) ⟨H,ls⟩
 refine Z6 ?_
 exact Tm ((x9,x10,x11,v7,v8)) (ij H)
 rintro⟨x1,x2,x3,v3,v4⟩ hi;subst o1;replace H:=Hr1;clear Hr1;try dsimp only at H ⊢
 refine rc 2 fun _=>?_
 refine rc 3 fun _=>?_
 refine Z4 ?_
 refine Th (ι:=Int × List AJ × List Int × Bool × Value × Value) (fun i=>qY AA a1 z2 i.1 i.2.1 i.2.2.1 i.2.2.2.1 i.2.2.2.2.1=_) (fun i=>[(0,fEq (ptr p0)),(2,fI z2),(4,fEq (ptr b1)),(7,fI i.2.1)]) (fun i=>[aA b1 78 [fSl aS a1.AQ,fSl aV a1.AN,fSl aY a1.AP],aA p0 214 [fEq i.2.2.2.2.2.1,fEq i.2.2.2.2.2.2,aL i.2.2.2.2.1],aB i.2.2.2.2.2.1 59 aZ i.2.2.1,aB i.2.2.2.2.2.2 3 tI i.2.2.2.1]) (AA,0,x1,x2,x3,v3,v4) H (fun _ h=>nomatch h) ?_
 clear H;rintro k2 ⟨x16,x17,x18,x19,v13,v14⟩ H;dsimp only at H ⊢;rw [qY]at H
 refine rc 2 fun _=>?_
 refine rc 3 fun _=>?_
 refine aK ?_
 refine I7 H (fun c2 H=>?_) fun c2 H=>?_
 revert H;refine B3z fun o2 H Hr2=>?_
 refine aO (ι:=List AJ × List Int × Bool × Value × Value) (fun i=>o2=(i.1,i.2.1,i.2.2.1)) (fun i=>[(0,fEq (ptr p0)),(2,fI z2),(4,fEq (ptr b1)),(7,fI x16)]) (fun i=>[aA p0 214 [fEq i.2.2.2.1,fEq i.2.2.2.2,aL i.2.2.1],aA b1 78 [fSl aS a1.AQ,fSl aV a1.AN,fSl aY a1.AP],aB i.2.2.2.1 59 aZ i.1,aB i.2.2.2.2 3 tI i.2.1]) ?_ ?_
 revert H;refine B5z fun o3 H Hr3=>?_
 refine aO (fun i=>o3=i) (fun i=>[(0,fEq (ptr p0)),(2,fI z2),(4,fEq (ptr b1)),(7,fI x16),(8,fI i)]) (fun i=>[aA b1 78 [fSl aS a1.AQ,fSl aV a1.AN,fSl aY a1.AP],aA p0 214 [fEq v13,fEq v14,aL x19],aB v13 59 aZ x17,aB v14 3 tI x18]) ?_ ?_
 refine Z4 ?_
 refine Th (ι:=Int × Int) (fun i=>qF a1 x16 i.1 i.2.1 i.2.2=_) (fun i=>[(0,fEq (ptr p0)),(2,fI z2),(4,fEq (ptr b1)),(7,fI x16),(8,fI i.2.1),(9,fI i.2.2)]) (fun i=>[aA b1 78 [fSl aS a1.AQ,fSl aV a1.AN,fSl aY a1.AP],aA p0 214 [fEq v13,fEq v14,aL x19],aB v13 59 aZ x17,aB v14 3 tI x18]) (AA,z2,0) H (fun _ h=>nomatch h) ?_
 clear H;rintro k3 ⟨x26,x27⟩ H;dsimp only at H ⊢;rw [qF]at H
 refine aK ?_
 revert H;refine B5z fun y3 h6 H=>?_
 refine Yy (eF rfl hh hh (el rfl) h6) ?_
 revert H;refine I5z (fun c3 H=>?_) fun c3 H=>?_
 refine Z3 ?_
 refine aK ?_
 revert H;refine B1z fun y4 h7 H=>?_
 revert H;refine bs fun y5 h8 H=>?_
 revert H;refine bs fun y6 h9 H=>?_
 revert H;refine bs fun z4 h10 H=>?_
 apply bQ (ods:=[_,_,_,_,_,_,_,_,_,_,_,_,_,_,_,_,_]) 17 0 4 bM rfl rfl rfl
 refine ND ?_
 refine M8 ?_
 intros
 refine M8 ?_
 intros
 refine M1 ?_
 intros
 revert H;refine B6z fun z5 h11 H=>?_
 refine Z3 ?_
 exact Tm ((k3,z4,z5)) ⟨H,ls⟩
 exact fk
 kernel_rfl
 refine Z6 ?_
 exact Tm (x26) (ij H)
 rintro x23 hi;subst o3;replace H:=Hr3;clear Hr3;try dsimp only at H ⊢
 revert H;refine B5z fun y7 h12 H=>?_
 refine Z4 ?_
 refine bD ?_
 refine bD ?_
 refine bD ?_
 refine cH ?_
 revert H;refine bs fun y8 h13 H=>?_
 refine Tc (iK _ _ _ _ _ _ h13) ?_
 refine fE (fun v17 v18=>?_)
 refine rc 1 fun _=>?_
 refine rc 2 fun _=>?_
 refine Z3 ?_
 refine aC [0,3,1,2] (by decide) ?_
 exact Tm ((y8.AK,y8.wait,y8.wrong,v17,v18)) (ij H)
 rintro⟨x20,x21,x22,v15,v16⟩ hi;subst o2;replace H:=Hr2;clear Hr2;try dsimp only at H ⊢
 refine rc 2 fun _=>?_
 refine rc 3 fun _=>?_
 refine B2 H fun z6 h14 H=>?_
 refine Z3 ?_
 refine aC [1,0,2,3] (by decide) ?_
 exact Tm ((k2,z6,x20,x21,x22,v15,v16)) ⟨H,ls⟩
 refine Z5 ?_
 refine bD ?_
 refine bD ?_
 refine bD ?_
 refine cH ?_
 cases H
 refine aC [0] (by decide) ?_
 exact cV (.inr rfl) rfl rfl
open Go.SX Go.SW Go.Dt
def nL (AA:Nat) (a0:Ref09_flow) (a1:AB) (a2:Int):Option (Ref09_flow):=
 (idx a0.AK a2).bind fun y1=>
 (idx a0.AK a2).bind fun y2=>
 (idx a1.Code a2).bind fun y3=>
 ((uH y3.Op).bind fun y4=>
 bif y4 then
  some 2
 else
  if y3.Op=9 then
   some 1
  else
   if y3.Op=8 then
    some y3.B
   else
    some 0).bind fun x1=>
 ((nU y3.Op).bind fun y5=>
 bif y5 then
  some true
 else
  if y3.Op=14 then
   some true
  else
   if y3.Op=11 then
    some true
   else
    some (decide (y3.Op=16))).bind fun x2=>
 ((nU y3.Op).bind fun y6=>
 bif y6 then
  some true
 else
  if y3.Op=2 then
   some true
  else
   some (decide (y3.Op=8))).bind fun x3=>
 (if y1.AM<x1 then
  (some (⟨a0.AK,a0.wait,true⟩:Ref09_flow)).bind fun r=>some (Sum.inr r)
 else
  bif x2 then
   if 0<y1.AM then
    (some (⟨a0.AK,a0.wait,true⟩:Ref09_flow)).bind fun r=>some (Sum.inr r)
   else
    bif x3 then
     if y2.AS<=y3.A then
      (some (⟨a0.AK,a0.wait,true⟩:Ref09_flow)).bind fun r=>some (Sum.inr r)
     else
      if y3.Op=12 then
       if y2.AS<y3.A then
        (some (⟨a0.AK,a0.wait,true⟩:Ref09_flow)).bind fun r=>some (Sum.inr r)
       else
        some (Sum.inl ())
      else
       some (Sum.inl ())
    else
     if y3.Op=12 then
      if y2.AS<y3.A then
       (some (⟨a0.AK,a0.wait,true⟩:Ref09_flow)).bind fun r=>some (Sum.inr r)
      else
       some (Sum.inl ())
     else
      some (Sum.inl ())
  else
   bif x3 then
    if y2.AS<=y3.A then
     (some (⟨a0.AK,a0.wait,true⟩:Ref09_flow)).bind fun r=>some (Sum.inr r)
    else
     if y3.Op=12 then
      if y2.AS<y3.A then
       (some (⟨a0.AK,a0.wait,true⟩:Ref09_flow)).bind fun r=>some (Sum.inr r)
      else
       some (Sum.inl ())
     else
      some (Sum.inl ())
   else
    if y3.Op=12 then
     if y2.AS<y3.A then
      (some (⟨a0.AK,a0.wait,true⟩:Ref09_flow)).bind fun r=>some (Sum.inr r)
     else
      some (Sum.inl ())
    else
     some (Sum.inl ())).bind fun o=>match o with
 | Sum.inr r=>some r
 | Sum.inl _=>
 (if y3.Op=1 then
  some (decide (y3.Op=1))
 else
  some (decide (y3.Op=2))).bind fun x4=>
 bif x4 then
  (chk (a2+1)).bind fun z1=>
  (chk (y1.AM+1)).bind fun z2=>
  (fM (⟨a0.AK,a0.wait,a0.wrong⟩:Ref09_flow) z1 z2 y2.AS).bind fun y7=>
  some (⟨y7.AK,y7.wait,y7.wrong⟩:Ref09_flow)
 else
  if y3.Op=8 then
   (chk (a2+1)).bind fun z3=>
   (chk (y1.AM - y3.B)).bind fun z4=>
   (fM (⟨a0.AK,a0.wait,a0.wrong⟩:Ref09_flow) z3 z4 y2.AS).bind fun y8=>
   some (⟨y8.AK,y8.wait,y8.wrong⟩:Ref09_flow)
  else
   if y3.Op=9 then
    (chk (a2+1)).bind fun z5=>
    (chk (y1.AM - 1)).bind fun z6=>
    (fM (⟨a0.AK,a0.wait,a0.wrong⟩:Ref09_flow) z5 z6 y2.AS).bind fun y9=>
    (chk (y1.AM - 1)).bind fun z7=>
    (fM (⟨y9.AK,y9.wait,y9.wrong⟩:Ref09_flow) y3.A z7 y2.AS).bind fun y10=>
    some (⟨y10.AK,y10.wait,y10.wrong⟩:Ref09_flow)
   else
    if y3.Op=10 then
     (fM (⟨a0.AK,a0.wait,a0.wrong⟩:Ref09_flow) y3.A y1.AM y2.AS).bind fun y11=>
     some (⟨y11.AK,y11.wait,y11.wrong⟩:Ref09_flow)
    else
     if y3.Op=11 then
      (idx a1.AD y3.A).bind fun y12=>
      (xF AA (⟨a0.AK,a0.wait,a0.wrong⟩:Ref09_flow) y12 y2.AS).bind fun y13=>
      (chk (a2+1)).bind fun z8=>
      (idx a1.AD y3.A).bind fun y14=>
      (chk (y2.AS+(y14.AQ.length:Int))).bind fun z9=>
      (idx a1.AD y3.A).bind fun y15=>
      (chk (z9+(y15.AN.length:Int))).bind fun z10=>
      (fM (⟨y13.AK,y13.wait,y13.wrong⟩:Ref09_flow) z8 y1.AM z10).bind fun y16=>
      some (⟨y16.AK,y16.wait,y16.wrong⟩:Ref09_flow)
     else
      if y3.Op=12 then
       (chk (a2+1)).bind fun z11=>
       (fM (⟨a0.AK,a0.wait,a0.wrong⟩:Ref09_flow) z11 y1.AM y3.A).bind fun y17=>
       some (⟨y17.AK,y17.wait,y17.wrong⟩:Ref09_flow)
      else
       (if y3.Op=13 then
        some (decide (y3.Op=13))
       else
        some (decide (y3.Op=15))).bind fun x5=>
       bif x5 then
        (fM (⟨a0.AK,a0.wait,a0.wrong⟩:Ref09_flow) y3.B 0 y2.AS).bind fun y18=>
        (chk (a2+1)).bind fun z12=>
        (fM (⟨y18.AK,y18.wait,y18.wrong⟩:Ref09_flow) z12 y1.AM y2.AS).bind fun y19=>
        some (⟨y19.AK,y19.wait,y19.wrong⟩:Ref09_flow)
       else
        if y3.Op=14 then
         (chk (a2+1)).bind fun z13=>
         (fM (⟨a0.AK,a0.wait,a0.wrong⟩:Ref09_flow) z13 y1.AM y2.AS).bind fun y20=>
         some (⟨y20.AK,y20.wait,y20.wrong⟩:Ref09_flow)
        else
         if y3.Op=16 then
          some (⟨a0.AK,a0.wait,a0.wrong⟩:Ref09_flow)
         else
          (chk (a2+1)).bind fun z14=>
          (chk (y1.AM - 1)).bind fun z15=>
          (fM (⟨a0.AK,a0.wait,a0.wrong⟩:Ref09_flow) z14 z15 y2.AS).bind fun y21=>
          some (⟨y21.AK,y21.wait,y21.wrong⟩:Ref09_flow)
theorem aGu (AA:Nat) (p0:Nat) (a0:Ref09_flow) (a1:AB) (a2:Int) (r:Ref09_flow) (H:nL AA a0 a1 a2=some r):FnS Tryz.prog 114 [fEq (.pointer (some ⟨p0,0,none⟩)),fSt dX a1,fI a2] [lU p0 a0] (dI []) (fun _=>[lU p0 r]):=by
 unfold nL at H
 refine bY Tryz.func114 rfl Tryz.ntmps114 rfl (fun β=>?_)
 refine fE (fun v1 v2=>?_)
 refine rc 1 fun _=>?_
 refine rc 2 fun _=>?_
 refine Z1 ?_
 refine Tn (cG rfl hh bW) fun b1=>?_
 refine Z1 ?_
 refine aK ?_
 refine bz H fun y1 h1 H=>?_
 refine bz H fun y2 h2 H=>?_
 apply bQ (ods:=[_,_,_,_,_,_,_,_,_,_,_,_,_,_,_,_,_,_]) 18 0 4 bM rfl rfl rfl
 refine ND ?_
 refine M5 ?_
 intros
 refine Mo 2 rfl (rX rfl hh hh (el rfl) h1) fun _=>?_
 refine My (aAy 0 rfl hh (fa rfl) rfl) fun _=>?_
 refine Mo 2 rfl (kC rfl rfl hh (sc rfl) (dU h1) rfl) fun _=>?_
 refine M6 ?_
 intros
 refine My (aAy 1 rfl hh (fa rfl) rfl) fun _=>?_
 refine Mo 2 rfl (kC rfl rfl hh (sc rfl) (dU h2) rfl) fun _=>?_
 refine M2 ?_
 intros
 refine B6 H fun y3 h3 H=>?_
 refine Z2 ?_
 refine Tn (bU rfl kV rfl) fun b2=>?_
 refine bT (φs':=[fI y3.Op,fI y3.A,fI y3.B]) a1I rfl rfl (has rfl) (has rfl) (aH (aD a1I) (aH (aD a1I) (aH (aD a1I) bL))) (sz rfl) rfl rfl rfl ?_
 revert H;refine B4z fun o1 H Hr1=>?_
 refine aO (fun i=>o1=i) (fun i=>[(0,fEq (ptr p0)),(2,fI a2),(4,fEq (ptr b1)),(6,fI y1.AM),(7,fI y2.AS),(8,fEq (ptr b2)),(9,fI i)]) (fun i=>[aA b2 54 [fI y3.Op,fI y3.A,fI y3.B],aA b1 25 [fI a1.AH,fSl aE a1.AD,fSl aF a1.Code,fI a1.AG],aA p0 214 [fEq v1,fEq v2,aL a0.wrong],aB v1 59 aZ a0.AK,aB v2 3 tI a0.wait]) ?_ ?_
 revert H;refine B4z fun y4 h4 H=>?_
 refine Tc (aHW _ _ h4) ?_
 refine Z2 ?_
 revert H;refine cs (fun c1 H=>?_) fun c1 H=>?_
 refine Z6 ?_
 exact Tm (2) (ij H)
 revert H;refine I7z (fun c2 H=>?_) fun c2 H=>?_
 refine Z6 ?_
 exact Tm (1) (ij H)
 revert H;refine I7z (fun c3 H=>?_) fun c3 H=>?_
 refine Z8 ?_
 exact Tm (y3.B) (ij H)
 refine Z4 ?_
 exact Tm (0) (ij H)
 rintro x1 hi;subst o1;replace H:=Hr1;clear Hr1;try dsimp only at H ⊢
 revert H;refine bs fun o2 H Hr2=>?_
 refine aO (fun i=>o2=i) (fun i=>[(0,fEq (ptr p0)),(2,fI a2),(4,fEq (ptr b1)),(6,fI y1.AM),(7,fI y2.AS),(8,fEq (ptr b2)),(9,fI x1),(10,aL i)]) (fun i=>[aA b2 54 [fI y3.Op,fI y3.A,fI y3.B],aA b1 25 [fI a1.AH,fSl aE a1.AD,fSl aF a1.Code,fI a1.AG],aA p0 214 [fEq v1,fEq v2,aL a0.wrong],aB v1 59 aZ a0.AK,aB v2 3 tI a0.wait]) ?_ ?_
 revert H;refine B3z fun y5 h5 H=>?_
 refine Tc (aBa _ _ h5) ?_
 refine Z1 ?_
 revert H;refine cs (fun c4 H=>?_) fun c4 H=>?_
 refine Z12 ?_
 refine Z4 ?_
 exact Tm (true) (ij H)
 revert H;refine I5z (fun c5 H=>?_) fun c5 H=>?_
 refine Z11 ?_
 exact Tm (true) (ij H)
 revert H;refine I5z (fun c6 H=>?_) fun c6 H=>?_
 refine Z6 ?_
 exact Tm (true) (ij H)
 refine Z6 ?_
 exact Tm (decide (y3.Op=16)) (ij H)
 rintro x2 hi;subst o2;replace H:=Hr2;clear Hr2;try dsimp only at H ⊢
 revert H;refine bs fun o3 H Hr3=>?_
 refine aO (fun i=>o3=i) (fun i=>[(0,fEq (ptr p0)),(2,fI a2),(4,fEq (ptr b1)),(6,fI y1.AM),(7,fI y2.AS),(8,fEq (ptr b2)),(9,fI x1),(10,aL x2),(11,aL i)]) (fun i=>[aA b2 54 [fI y3.Op,fI y3.A,fI y3.B],aA b1 25 [fI a1.AH,fSl aE a1.AD,fSl aF a1.Code,fI a1.AG],aA p0 214 [fEq v1,fEq v2,aL a0.wrong],aB v1 59 aZ a0.AK,aB v2 3 tI a0.wait]) ?_ ?_
 revert H;refine B3z fun y6 h6 H=>?_
 refine Tc (aBa _ _ h6) ?_
 refine Z1 ?_
 revert H;refine cs (fun c7 H=>?_) fun c7 H=>?_
 refine Z11 ?_
 exact Tm (true) (ij H)
 revert H;refine I5z (fun c8 H=>?_) fun c8 H=>?_
 refine Z6 ?_
 exact Tm (true) (ij H)
 refine Z6 ?_
 exact Tm (decide (y3.Op=8)) (ij H)
 rintro x3 hi;subst o3;replace H:=Hr3;clear Hr3;try dsimp only at H ⊢
 revert H;refine bs fun o4 H Hr4=>?_
 refine aO (ι:=Unit) (fun i=>o4=Sum.inl ()) (fun i=>[(0,fEq (ptr p0)),(2,fI a2),(4,fEq (ptr b1)),(6,fI y1.AM),(7,fI y2.AS),(8,fEq (ptr b2))]) (fun i=>[aA b2 54 [fI y3.Op,fI y3.A,fI y3.B],aA b1 25 [fI a1.AH,fSl aE a1.AD,fSl aF a1.Code,fI a1.AG],aA p0 214 [fEq v1,fEq v2,aL a0.wrong],aB v1 59 aZ a0.AK,aB v2 3 tI a0.wait]) ?_ ?_
 revert H;refine I5z (fun c9 H=>?_) fun c9 H=>?_
 refine Z2 ?_
 refine bF (⟨_,_,_,_,rfl,rfl,rfl,nu⟩) rfl rfl ?_
 refine bF (⟨_,_,_,_,rfl,rfl,rfl,nu⟩) rfl rfl ?_
 refine Z5 ?_
 refine bF (⟨_,_,_,_,rfl,rfl,rfl,nu⟩) rfl rfl ?_
 refine bF (⟨_,_,_,_,rfl,rfl,rfl,nu⟩) rfl rfl ?_
 refine bF (⟨_,_,_,_,rfl,rfl,rfl,nu⟩) rfl rfl ?_
 refine bF (⟨_,_,_,_,rfl,rfl,rfl,nu⟩) rfl rfl ?_
 refine Z7 ?_
 refine bF (⟨_,_,_,_,rfl,rfl,rfl,nu⟩) rfl rfl ?_
 refine bF (⟨_,_,_,_,rfl,rfl,rfl,nu⟩) rfl rfl ?_
 refine bF (⟨_,_,_,_,rfl,rfl,rfl,nu⟩) rfl rfl ?_
 refine bF (⟨_,_,_,_,rfl,rfl,rfl,nu⟩) rfl rfl ?_
 refine Z8 ?_
 refine aQ ?_
 refine bJ (φs':=[fEq v1,fEq v2,aL true]) a1I rfl rfl (has rfl) (has rfl) (aD a1I) (sz rfl) rfl rfl ?_
 revert H;refine B2z fun r1 H e1=>?_
 cases e1;cases Hr4
 refine aR ?_
 refine aR ?_
 refine aQ ?_
 refine cH ?_
 cases H
 refine aC [0] (by decide) ?_
 exact cV (.inl rfl) rfl rfl
 refine Z2 ?_
 revert H;refine cs (fun c10 H=>?_) fun c10 H=>?_
 revert H;refine I5z (fun c11 H=>?_) fun c11 H=>?_
 refine Z2 ?_
 refine bF (⟨_,_,_,_,rfl,rfl,rfl,nu⟩) rfl rfl ?_
 refine bF (⟨_,_,_,_,rfl,rfl,rfl,nu⟩) rfl rfl ?_
 refine bF (⟨_,_,_,_,rfl,rfl,rfl,nu⟩) rfl rfl ?_
 refine bF (⟨_,_,_,_,rfl,rfl,rfl,nu⟩) rfl rfl ?_
 refine Z7 ?_
 refine bF (⟨_,_,_,_,rfl,rfl,rfl,nu⟩) rfl rfl ?_
 refine bF (⟨_,_,_,_,rfl,rfl,rfl,nu⟩) rfl rfl ?_
 refine bF (⟨_,_,_,_,rfl,rfl,rfl,nu⟩) rfl rfl ?_
 refine bF (⟨_,_,_,_,rfl,rfl,rfl,nu⟩) rfl rfl ?_
 refine Z8 ?_
 refine aQ ?_
 refine bJ (φs':=[fEq v1,fEq v2,aL true]) a1I rfl rfl (has rfl) (has rfl) (aD a1I) (sz rfl) rfl rfl ?_
 revert H;refine B2z fun r2 H e2=>?_
 cases e2;cases Hr4
 refine aR ?_
 refine aR ?_
 refine aQ ?_
 refine cH ?_
 cases H
 refine aC [0] (by decide) ?_
 exact cV (.inl rfl) rfl rfl
 refine Z2 ?_
 revert H;refine cs (fun c12 H=>?_) fun c12 H=>?_
 revert H;refine I7z (fun c13 H=>?_) fun c13 H=>?_
 refine Z4 ?_
 refine bF (⟨_,_,_,_,rfl,rfl,rfl,nu⟩) rfl rfl ?_
 refine bF (⟨_,_,_,_,rfl,rfl,rfl,nu⟩) rfl rfl ?_
 refine bF (⟨_,_,_,_,rfl,rfl,rfl,nu⟩) rfl rfl ?_
 refine bF (⟨_,_,_,_,rfl,rfl,rfl,nu⟩) rfl rfl ?_
 refine Z8 ?_
 refine aQ ?_
 refine bJ (φs':=[fEq v1,fEq v2,aL true]) a1I rfl rfl (has rfl) (has rfl) (aD a1I) (sz rfl) rfl rfl ?_
 revert H;refine B2z fun r3 H e3=>?_
 cases e3;cases Hr4
 refine aR ?_
 refine aR ?_
 refine aQ ?_
 refine cH ?_
 cases H
 refine aC [0] (by decide) ?_
 exact cV (.inl rfl) rfl rfl
 revert H;refine I4z (fun c14 H=>?_) fun c14 H=>?_
 revert H;refine I7z (fun c15 H=>?_) fun c15 H=>?_
 refine Z5 ?_
 refine aQ ?_
 refine bJ (φs':=[fEq v1,fEq v2,aL true]) a1I rfl rfl (has rfl) (has rfl) (aD a1I) (sz rfl) rfl rfl ?_
 revert H;refine B2z fun r4 H e4=>?_
 cases e4;cases Hr4
 refine aR ?_
 refine aR ?_
 refine aQ ?_
 refine cH ?_
 cases H
 refine aC [0] (by decide) ?_
 exact cV (.inl rfl) rfl rfl
 refine Z3 ?_
 exact Tm (()) (ij H)
 refine Z10 ?_
 exact Tm (()) (ij H)
 revert H;refine I11z (fun c16 H=>?_) fun c16 H=>?_
 revert H;refine I7z (fun c17 H=>?_) fun c17 H=>?_
 refine Z5 ?_
 refine aQ ?_
 refine bJ (φs':=[fEq v1,fEq v2,aL true]) a1I rfl rfl (has rfl) (has rfl) (aD a1I) (sz rfl) rfl rfl ?_
 revert H;refine B2z fun r5 H e5=>?_
 cases e5;cases Hr4
 refine aR ?_
 refine aR ?_
 refine aQ ?_
 refine cH ?_
 cases H
 refine aC [0] (by decide) ?_
 exact cV (.inl rfl) rfl rfl
 refine Z3 ?_
 exact Tm (()) (ij H)
 refine Z10 ?_
 exact Tm (()) (ij H)
 refine Z7 ?_
 revert H;refine cs (fun c18 H=>?_) fun c18 H=>?_
 revert H;refine I7z (fun c19 H=>?_) fun c19 H=>?_
 refine Z4 ?_
 refine bF (⟨_,_,_,_,rfl,rfl,rfl,nu⟩) rfl rfl ?_
 refine bF (⟨_,_,_,_,rfl,rfl,rfl,nu⟩) rfl rfl ?_
 refine bF (⟨_,_,_,_,rfl,rfl,rfl,nu⟩) rfl rfl ?_
 refine bF (⟨_,_,_,_,rfl,rfl,rfl,nu⟩) rfl rfl ?_
 refine Z8 ?_
 refine aQ ?_
 refine bJ (φs':=[fEq v1,fEq v2,aL true]) a1I rfl rfl (has rfl) (has rfl) (aD a1I) (sz rfl) rfl rfl ?_
 revert H;refine B2z fun r6 H e6=>?_
 cases e6;cases Hr4
 refine aR ?_
 refine aR ?_
 refine aQ ?_
 refine cH ?_
 cases H
 refine aC [0] (by decide) ?_
 exact cV (.inl rfl) rfl rfl
 revert H;refine I4z (fun c20 H=>?_) fun c20 H=>?_
 revert H;refine I7z (fun c21 H=>?_) fun c21 H=>?_
 refine Z5 ?_
 refine aQ ?_
 refine bJ (φs':=[fEq v1,fEq v2,aL true]) a1I rfl rfl (has rfl) (has rfl) (aD a1I) (sz rfl) rfl rfl ?_
 revert H;refine B2z fun r7 H e7=>?_
 cases e7;cases Hr4
 refine aR ?_
 refine aR ?_
 refine aQ ?_
 refine cH ?_
 cases H
 refine aC [0] (by decide) ?_
 exact cV (.inl rfl) rfl rfl
 refine Z3 ?_
 exact Tm (()) (ij H)
 refine Z10 ?_
 exact Tm (()) (ij H)
 revert H;refine I11z (fun c22 H=>?_) fun c22 H=>?_
 revert H;refine I7z (fun c23 H=>?_) fun c23 H=>?_
 refine Z5 ?_
 refine aQ ?_
 refine bJ (φs':=[fEq v1,fEq v2,aL true]) a1I rfl rfl (has rfl) (has rfl) (aD a1I) (sz rfl) rfl rfl ?_
 revert H;refine B2z fun r8 H e8=>?_
 cases e8;cases Hr4
 refine aR ?_
 refine aR ?_
 refine aQ ?_
 refine cH ?_
 cases H
 refine aC [0] (by decide) ?_
 exact cV (.inl rfl) rfl rfl
 refine Z3 ?_
 exact Tm (()) (ij H)
 refine Z10 ?_
 exact Tm (()) (ij H)
 rintro i hi;subst o4;replace H:=Hr4;clear Hr4;try dsimp only at H ⊢
 revert H;refine B5z fun o5 H Hr5=>?_
 refine aO (fun i=>o5=i) (fun i=>[(0,fEq (ptr p0)),(2,fI a2),(4,fEq (ptr b1)),(6,fI y1.AM),(7,fI y2.AS),(8,fEq (ptr b2)),(112,fI y3.Op),(120,aL i)]) (fun i=>[aA b2 54 [fI y3.Op,fI y3.A,fI y3.B],aA b1 25 [fI a1.AH,fSl aE a1.AD,fSl aF a1.Code,fI a1.AG],aA p0 214 [fEq v1,fEq v2,aL a0.wrong],aB v1 59 aZ a0.AK,aB v2 3 tI a0.wait]) ?_ ?_
 revert H;refine I4z (fun c24 H=>?_) fun c24 H=>?_
 refine Z3 ?_
 exact Tm (decide (y3.Op=1)) (ij H)
 refine Z5 ?_
 exact Tm (decide (y3.Op=2)) (ij H)
 rintro x4 hi;subst o5;replace H:=Hr5;clear Hr5;try dsimp only at H ⊢
 refine cz H (fun c25 H=>?_) fun c25 H=>?_
 refine B4 H fun z1 h7 H=>?_
 refine Yy (mE rfl hh hh h7) ?_
 refine B1 H fun z2 h8 H=>?_
 refine Z2 ?_
 refine aR ?_
 refine aR ?_
 refine aR ?_
 refine cH ?_
 refine bz H fun y7 h9 H=>?_
 refine Tc (iK _ _ _ _ _ _ h9) ?_
 refine fE (fun v3 v4=>?_)
 refine rc 1 fun _=>?_
 refine rc 2 fun _=>?_
 refine Z2 ?_
 refine cH ?_
 cases H
 refine aC [0] (by decide) ?_
 exact cV (.inr rfl) rfl rfl
 refine I5 H (fun c26 H=>?_) fun c26 H=>?_
 refine B4 H fun z3 h10 H=>?_
 refine Yy (mE rfl hh hh h10) ?_
 refine B3 H fun z4 h11 H=>?_
 refine Z2 ?_
 refine aR ?_
 refine aR ?_
 refine aR ?_
 refine cH ?_
 refine bz H fun y8 h12 H=>?_
 refine Tc (iK _ _ _ _ _ _ h12) ?_
 refine fE (fun v5 v6=>?_)
 refine rc 1 fun _=>?_
 refine rc 2 fun _=>?_
 refine Z2 ?_
 refine cH ?_
 cases H
 refine aC [0] (by decide) ?_
 exact cV (.inr rfl) rfl rfl
 refine I5 H (fun c27 H=>?_) fun c27 H=>?_
 refine B4 H fun z5 h13 H=>?_
 refine Yy (mE rfl hh hh h13) ?_
 refine B1 H fun z6 h14 H=>?_
 refine Yy (xJ rfl hh hh h14) ?_
 refine Z1 ?_
 refine aR ?_
 refine aR ?_
 refine aR ?_
 refine cH ?_
 refine bz H fun y9 h15 H=>?_
 refine Tc (iK _ _ _ _ _ _ h15) ?_
 refine fE (fun v7 v8=>?_)
 refine rc 1 fun _=>?_
 refine rc 2 fun _=>?_
 refine B6 H fun z7 h16 H=>?_
 refine Yy (xJ rfl hh hh h16) ?_
 refine Z1 ?_
 refine cH ?_
 refine bz H fun y10 h17 H=>?_
 refine Tc (iK _ _ _ _ _ _ h17) ?_
 refine fE (fun v9 v10=>?_)
 refine rc 1 fun _=>?_
 refine rc 2 fun _=>?_
 refine Z2 ?_
 refine cH ?_
 cases H
 refine aC [0] (by decide) ?_
 exact cV (.inr rfl) rfl rfl
 refine I5 H (fun c28 H=>?_) fun c28 H=>?_
 refine Z7 ?_
 refine aR ?_
 refine aR ?_
 refine aR ?_
 refine cH ?_
 refine bz H fun y11 h18 H=>?_
 refine Tc (iK _ _ _ _ _ _ h18) ?_
 refine fE (fun v11 v12=>?_)
 refine rc 1 fun _=>?_
 refine rc 2 fun _=>?_
 refine Z2 ?_
 refine cH ?_
 cases H
 refine aC [0] (by decide) ?_
 exact cV (.inr rfl) rfl rfl
 refine I5 H (fun c29 H=>?_) fun c29 H=>?_
 refine B7 H fun y12 h19 H=>?_
 refine Yy (eF rfl hh hh (el rfl) h19) ?_
 refine Z2 ?_
 refine aR ?_
 refine aR ?_
 refine aR ?_
 refine cH ?_
 refine bz H fun y13 h20 H=>?_
 refine Tc (aHt _ _ _ _ _ _ h20) ?_
 refine fE (fun v13 v14=>?_)
 refine rc 1 fun _=>?_
 refine rc 2 fun _=>?_
 refine B1 H fun z8 h21 H=>?_
 refine bz H fun y14 h22 H=>?_
 refine bz H fun z9 h23 H=>?_
 refine bz H fun y15 h24 H=>?_
 refine bz H fun z10 h25 H=>?_
 apply bQ (ods:=[_,_,_,_,_,_,_,_,_,_,_,_,_,_,_,_,_,_,_,_,_,_,_]) 23 0 5 bM rfl rfl rfl
 refine ND ?_
 refine M2 ?_
 intros
 refine My (mE rfl hh hh h21) fun _=>?_
 refine M6 ?_
 intros
 refine My (eF rfl hh hh (el rfl) h22) fun _=>?_
 refine M8 ?_
 intros
 refine M5 ?_
 intros
 refine Z1 ?_
 refine cH ?_
 refine bz H fun y16 h26 H=>?_
 refine Tc (iK _ _ _ _ _ _ h26) ?_
 refine fE (fun v15 v16=>?_)
 refine rc 1 fun _=>?_
 refine rc 2 fun _=>?_
 refine Z2 ?_
 refine cH ?_
 cases H
 refine aC [0] (by decide) ?_
 exact cV (.inr rfl) rfl rfl
 exact fk
 kernel_rfl
 refine I5 H (fun c30 H=>?_) fun c30 H=>?_
 refine B4 H fun z11 h27 H=>?_
 refine Yy (mE rfl hh hh h27) ?_
 refine Z3 ?_
 refine aR ?_
 refine aR ?_
 refine aR ?_
 refine cH ?_
 refine bz H fun y17 h28 H=>?_
 refine Tc (iK _ _ _ _ _ _ h28) ?_
 refine fE (fun v17 v18=>?_)
 refine rc 1 fun _=>?_
 refine rc 2 fun _=>?_
 refine Z2 ?_
 refine cH ?_
 cases H
 refine aC [0] (by decide) ?_
 exact cV (.inr rfl) rfl rfl
 revert H;refine B1z fun o6 H Hr6=>?_
 refine aO (fun i=>o6=i) (fun i=>[(0,fEq (ptr p0)),(2,fI a2),(6,fI y1.AM),(7,fI y2.AS),(8,fEq (ptr b2)),(112,fI y3.Op),(209,aL i)]) (fun i=>[aA b2 54 [fI y3.Op,fI y3.A,fI y3.B],aA b1 25 [fI a1.AH,fSl aE a1.AD,fSl aF a1.Code,fI a1.AG],aA p0 214 [fEq v1,fEq v2,aL a0.wrong],aB v1 59 aZ a0.AK,aB v2 3 tI a0.wait]) ?_ ?_
 revert H;refine I4z (fun c31 H=>?_) fun c31 H=>?_
 refine Z3 ?_
 exact Tm (decide (y3.Op=13)) (ij H)
 refine Z5 ?_
 exact Tm (decide (y3.Op=15)) (ij H)
 rintro x5 hi;subst o6;replace H:=Hr6;clear Hr6;try dsimp only at H ⊢
 refine cz H (fun c32 H=>?_) fun c32 H=>?_
 refine Z6 ?_
 refine aR ?_
 refine aR ?_
 refine aR ?_
 refine cH ?_
 refine bz H fun y18 h29 H=>?_
 refine Tc (iK _ _ _ _ _ _ h29) ?_
 refine fE (fun v19 v20=>?_)
 refine rc 1 fun _=>?_
 refine rc 2 fun _=>?_
 refine B4 H fun z12 h30 H=>?_
 refine Yy (mE rfl hh hh h30) ?_
 refine Z2 ?_
 refine cH ?_
 refine bz H fun y19 h31 H=>?_
 refine Tc (iK _ _ _ _ _ _ h31) ?_
 refine fE (fun v21 v22=>?_)
 refine rc 1 fun _=>?_
 refine rc 2 fun _=>?_
 refine Z2 ?_
 refine cH ?_
 cases H
 refine aC [0] (by decide) ?_
 exact cV (.inr rfl) rfl rfl
 refine I5 H (fun c33 H=>?_) fun c33 H=>?_
 refine B4 H fun z13 h32 H=>?_
 refine Yy (mE rfl hh hh h32) ?_
 refine Z2 ?_
 refine aR ?_
 refine aR ?_
 refine aR ?_
 refine cH ?_
 refine bz H fun y20 h33 H=>?_
 refine Tc (iK _ _ _ _ _ _ h33) ?_
 refine fE (fun v23 v24=>?_)
 refine rc 1 fun _=>?_
 refine rc 2 fun _=>?_
 refine Z2 ?_
 refine cH ?_
 cases H
 refine aC [0] (by decide) ?_
 exact cV (.inr rfl) rfl rfl
 refine I5 H (fun c34 H=>?_) fun c34 H=>?_
 refine Z3 ?_
 refine aR ?_
 refine aR ?_
 refine aR ?_
 refine cH ?_
 cases H
 refine aC [0] (by decide) ?_
 exact cV (.inr rfl) rfl rfl
 refine B4 H fun z14 h34 H=>?_
 refine B2 H fun z15 h35 H=>?_
 refine Z2 ?_
 refine aR ?_
 refine aR ?_
 refine aR ?_
 refine cH ?_
 refine bz H fun y21 h36 H=>?_
 refine Tc (iK _ _ _ _ _ _ h36) ?_
 refine fE (fun v25 v26=>?_)
 refine rc 1 fun _=>?_
 refine rc 2 fun _=>?_
 refine Z2 ?_
 refine cH ?_
 cases H
 refine aC [0] (by decide) ?_
 exact cV (.inr rfl) rfl rfl
 exact fk
 kernel_rfl
end Go.Proofs.YtpbeacokfapklaaGreatDoor
