/- Parts of the proof: lemmas, and the steps through the program. -/
import Derived.Test.YtjahnkcjbglnoaaGreatDoorCo3
set_option linter.unusedVariables false
set_option linter.unusedSimpArgs false
set_option maxRecDepth 100000
set_option maxHeartbeats 2000000
namespace Go.Proofs.YtjahnkcjbglnoaaGreatDoor
open Go.SX Go.SW Go.Dt
attribute [local irreducible] Code.wpIn wpListIn Exit.then Exit.inBlock
def iY (fuel:Nat) (a2:Int) (y5:ScopeNode):Nat → Int → Bool → Option (Bool)
| 0,_,_=>none
| k+1,x4,x5=>
 if x4<(y5.Args.length:Int)then
  (bif x5 then
   some true
  else
   (idx y5.Args x4).bind fun y7=>
   (wO fuel y7 a2).bind fun y8=>
   some (!y8)).bind fun x6=>
  (chk (x4+1)).bind fun z2=>
  iY fuel a2 y5 k z2 x6
 else
  some x5
def iU (rec_r03_look_node:Ref03_look → Int → Int → Option (Ref03_look)) (y5:ScopeNode) (x7:Int):Nat → Int → (List ByteArray) → (List ScopeNode) → (List ScopeDef) → Int → (List Int) → (List Int) → (List Int) → Bool → Option (Ref03_look)
| 0,_,_,_,_,_,_,_,_,_=>none
| k+1,x26,x27,x28,x29,x30,x31,x32,x33,x34=>
 if x26<(y5.Kids.length:Int)then
  bif x34 then
   some (⟨(⟨x27,x28,x29,x30⟩:ScopeProg),x31,x32,x33,x34⟩:Ref03_look)
  else
   (idx y5.Kids x26).bind fun y16=>
   (rec_r03_look_node (⟨(⟨x27,x28,x29,x30⟩:ScopeProg),x31,x32,x33,x34⟩:Ref03_look) y16 x7).bind fun y17=>
   (chk (x26+1)).bind fun z5=>
   iU rec_r03_look_node y5 x7 k z5 y17.p.Free y17.p.Nodes y17.p.Defs y17.p.Main y17.sizes y17.owner y17.users y17.bad
 else
  some (⟨(⟨x27,x28,x29,x30⟩:ScopeProg),x31,x32,x33,x34⟩:Ref03_look)
def kO (fuel:Nat) (rec_r03_look_node:Ref03_look → Int → Int → Option (Ref03_look)) (a1:ScopeDef) (a2:Int):Nat → Int → (List ByteArray) → (List ScopeNode) → (List ScopeDef) → Int → (List Int) → (List Int) → (List Int) → Bool → Option (List ByteArray × List ScopeNode × List ScopeDef × Int × List Int × List Int × List Int × Bool)
| 0,_,_,_,_,_,_,_,_,_=>none
| k+1,x18,x19,x20,x21,x22,x23,x24,x25,x26=>
 if x18<(a1.Rules.length:Int)then
  bif x26 then
   some (x19,x20,x21,x22,x23,x24,x25,x26)
  else
   (idx a1.Rules x18).bind fun y1=>
   (idx a1.Rules x18).bind fun y2=>
   (wG fuel (⟨a1.Chans,a1.Spots,a1.Rules⟩:ScopeDef) y2).bind fun y3=>
   (chk (a2+y3)).bind fun z1=>
   (rec_r03_look_node (⟨(⟨x19,x20,x21,x22⟩:ScopeProg),x23,x24,x25,x26⟩:Ref03_look) y1.Node z1).bind fun y4=>
   (chk (x18+1)).bind fun z2=>
   kO fuel rec_r03_look_node a1 a2 k z2 y4.p.Free y4.p.Nodes y4.p.Defs y4.p.Main y4.sizes y4.owner y4.users y4.bad
 else
  some (x19,x20,x21,x22,x23,x24,x25,x26)
def kL (rec_r03_look_node:Ref03_look → Int → Int → Option (Ref03_look)) (a1:ScopeDef) (a2:Int):Nat → Int → (List ByteArray) → (List ScopeNode) → (List ScopeDef) → Int → (List Int) → (List Int) → (List Int) → Bool → Option (Ref03_look)
| 0,_,_,_,_,_,_,_,_,_=>none
| k+1,x36,x37,x38,x39,x40,x41,x42,x43,x44=>
 if x36<(a1.Spots.length:Int)then
  bif x44 then
   some (⟨(⟨x37,x38,x39,x40⟩:ScopeProg),x41,x42,x43,x44⟩:Ref03_look)
  else
   (idx a1.Spots x36).bind fun y5=>
   (rec_r03_look_node (⟨(⟨x37,x38,x39,x40⟩:ScopeProg),x41,x42,x43,x44⟩:Ref03_look) y5.Node a2).bind fun y6=>
   (chk (x36+1)).bind fun z3=>
   kL rec_r03_look_node a1 a2 k z3 y6.p.Free y6.p.Nodes y6.p.Defs y6.p.Main y6.sizes y6.owner y6.users y6.bad
 else
  some (⟨(⟨x37,x38,x39,x40⟩:ScopeProg),x41,x42,x43,x44⟩:Ref03_look)
mutual
def eS:Nat → Ref03_look → Int → Int → Option (Ref03_look)
| 0,_,_,_=>none
| fuel+1,a0,a1,a2=>
 if a1<0 then
  some (⟨(⟨a0.p.Free,a0.p.Nodes,a0.p.Defs,a0.p.Main⟩:ScopeProg),a0.sizes,a0.owner,a0.users,true⟩:Ref03_look)
 else
  if (a0.p.Nodes.length:Int) ≤ a1 then
   some (⟨(⟨a0.p.Free,a0.p.Nodes,a0.p.Defs,a0.p.Main⟩:ScopeProg),a0.sizes,a0.owner,a0.users,true⟩:Ref03_look)
  else
   (idx a0.owner a1).bind fun y1=>
   if 0<y1 then
    some (⟨(⟨a0.p.Free,a0.p.Nodes,a0.p.Defs,a0.p.Main⟩:ScopeProg),a0.sizes,a0.owner,a0.users,true⟩:Ref03_look)
   else
    (idx a0.owner a1).bind fun y2=>
    (chk (y2+1)).bind fun z1=>
    (idx a0.owner a1).bind fun y3=>
    (idx a0.sizes a1).bind fun y4=>
    (idx a0.p.Nodes a1).bind fun y5=>
    (tY y5.Op).bind fun y6=>
    (bif !y6.2.2 then
     (some (⟨(⟨a0.p.Free,a0.p.Nodes,a0.p.Defs,a0.p.Main⟩:ScopeProg),a0.sizes.set a1.toNat a2,a0.owner.set a1.toNat z1,a0.users,true⟩:Ref03_look)).bind fun r=>some (Sum.inr r)
    else
     if (y5.Kids.length:Int)≠y6.2.1 then
      (some (⟨(⟨a0.p.Free,a0.p.Nodes,a0.p.Defs,a0.p.Main⟩:ScopeProg),a0.sizes.set a1.toNat a2,a0.owner.set a1.toNat z1,a0.users,true⟩:Ref03_look)).bind fun r=>some (Sum.inr r)
     else
      if y6.1<0 then
       if 3<(y5.Args.length:Int)then
        (some (⟨(⟨a0.p.Free,a0.p.Nodes,a0.p.Defs,a0.p.Main⟩:ScopeProg),a0.sizes.set a1.toNat a2,a0.owner.set a1.toNat z1,a0.users,true⟩:Ref03_look)).bind fun r=>some (Sum.inr r)
       else
        if 0 ≤ y6.1 then
         if (y5.Args.length:Int)≠y6.1 then
          (some (⟨(⟨a0.p.Free,a0.p.Nodes,a0.p.Defs,a0.p.Main⟩:ScopeProg),a0.sizes.set a1.toNat a2,a0.owner.set a1.toNat z1,a0.users,true⟩:Ref03_look)).bind fun r=>some (Sum.inr r)
         else
          some (Sum.inl ())
        else
         some (Sum.inl ())
      else
       if 0 ≤ y6.1 then
        if (y5.Args.length:Int)≠y6.1 then
         (some (⟨(⟨a0.p.Free,a0.p.Nodes,a0.p.Defs,a0.p.Main⟩:ScopeProg),a0.sizes.set a1.toNat a2,a0.owner.set a1.toNat z1,a0.users,true⟩:Ref03_look)).bind fun r=>some (Sum.inr r)
        else
         some (Sum.inl ())
       else
        some (Sum.inl ())).bind fun o=>match o with
    | Sum.inr r=>some r
    | Sum.inl _=>
    (iY fuel a2 y5 fuel 0 a0.bad).bind fun x1=>
    ((if y5.Op=2 then
     some (decide (y5.Op=2))
    else
     if y5.Op=6 then
      some (decide (y5.Op=6))
     else
      some (decide (y5.Op=8))).bind fun x16=>
    bif x16 then
     bif x1 then
      some (Sum.inl (a2,a0.p.Free,a0.p.Nodes,a0.p.Defs,a0.p.Main,a0.sizes.set a1.toNat a2,a0.owner.set a1.toNat z1,a0.users,true))
     else
      if y5.N<0 then
       some (Sum.inl (a2,a0.p.Free,a0.p.Nodes,a0.p.Defs,a0.p.Main,a0.sizes.set a1.toNat a2,a0.owner.set a1.toNat z1,a0.users,true))
      else
       some (Sum.inl (a2,a0.p.Free,a0.p.Nodes,a0.p.Defs,a0.p.Main,a0.sizes.set a1.toNat a2,a0.owner.set a1.toNat z1,a0.users,decide (a2 ≤ y5.N)))
    else
     if y5.Op=4 then
      if y5.N<0 then
       (some (⟨(⟨a0.p.Free,a0.p.Nodes,a0.p.Defs,a0.p.Main⟩:ScopeProg),a0.sizes.set a1.toNat a2,a0.owner.set a1.toNat z1,a0.users,true⟩:Ref03_look)).bind fun r=>some (Sum.inr r)
      else
       if (a0.p.Defs.length:Int) ≤ y5.N then
        (some (⟨(⟨a0.p.Free,a0.p.Nodes,a0.p.Defs,a0.p.Main⟩:ScopeProg),a0.sizes.set a1.toNat a2,a0.owner.set a1.toNat z1,a0.users,true⟩:Ref03_look)).bind fun r=>some (Sum.inr r)
       else
        (idx a0.users y5.N).bind fun y9=>
        if 0<y9 then
         (some (⟨(⟨a0.p.Free,a0.p.Nodes,a0.p.Defs,a0.p.Main⟩:ScopeProg),a0.sizes.set a1.toNat a2,a0.owner.set a1.toNat z1,a0.users,true⟩:Ref03_look)).bind fun r=>some (Sum.inr r)
        else
         (idx a0.users y5.N).bind fun y10=>
         (chk (y10+1)).bind fun z3=>
         (idx a0.users y5.N).bind fun y11=>
         (idx a0.p.Defs y5.N).bind fun y12=>
         (uD y12).bind fun y13=>
         (chk (a2+y13)).bind fun z4=>
         (idx a0.p.Defs y5.N).bind fun y14=>
         ((mV fuel) (⟨(⟨a0.p.Free,a0.p.Nodes,a0.p.Defs,a0.p.Main⟩:ScopeProg),a0.sizes.set a1.toNat a2,a0.owner.set a1.toNat z1,a0.users.set y5.N.toNat z3,x1⟩:Ref03_look) y14 z4).bind fun y15=>
         some (Sum.inl (z4,y15.p.Free,y15.p.Nodes,y15.p.Defs,y15.p.Main,y15.sizes,y15.owner,y15.users,y15.bad))
     else
      bif x1 then
       some (Sum.inl (a2,a0.p.Free,a0.p.Nodes,a0.p.Defs,a0.p.Main,a0.sizes.set a1.toNat a2,a0.owner.set a1.toNat z1,a0.users,true))
      else
       some (Sum.inl (a2,a0.p.Free,a0.p.Nodes,a0.p.Defs,a0.p.Main,a0.sizes.set a1.toNat a2,a0.owner.set a1.toNat z1,a0.users,decide (y5.N≠0)))).bind fun o=>match o with
    | Sum.inr r=>some r
    | Sum.inl (x7,x8,x9,x10,x11,x12,x13,x14,x15)=>
    iU (eS fuel) y5 x7 fuel 0 x8 x9 x10 x11 x12 x13 x14 x15
def mV:Nat → Ref03_look → ScopeDef → Int → Option (Ref03_look)
| 0,_,_,_=>none
| fuel+1,a0,a1,a2=>
 (kO fuel (eS fuel) a1 a2 fuel 0 a0.p.Free a0.p.Nodes a0.p.Defs a0.p.Main a0.sizes a0.owner a0.users a0.bad).bind fun (x1,x2,x3,x4,x5,x6,x7,x8)=>
 kL (eS fuel) a1 a2 fuel 0 x1 x2 x3 x4 x5 x6 x7 x8
end
theorem aIr:∀ (fuel:Nat),(∀ (p0:Nat) (a0:Ref03_look) (a1:Int) (a2:Int) (r:Ref03_look) (H:eS fuel a0 a1 a2=some r),FnS Tryz.prog 104 [fEq (.pointer (some ⟨p0,0,none⟩)),fI a1,fI a2] [pL p0 a0] (dG []) (fun _=>[pL p0 r])) ∧ (∀ (p0:Nat) (a0:Ref03_look) (a1:ScopeDef) (a2:Int) (r:Ref03_look) (H:mV fuel a0 a1 a2=some r),FnS Tryz.prog 137 [fEq (.pointer (some ⟨p0,0,none⟩)),fSt aB a1,fI a2] [pL p0 a0] (dG []) (fun _=>[pL p0 r])):=by
 intro fuel
 induction fuel with
 | zero=>exact⟨fun p0 a0 a1 a2 r H=>(by rw [eS]at H;cases H),fun p0 a0 a1 a2 r H=>(by rw [mV]at H;cases H)⟩
 | succ fuel ih=>
 obtain⟨ih_r03_look_node,ih_r03_look_def⟩:=@ih
 refine⟨?_,?_⟩
 intro p0 a0 a1 a2 r H
 rw [eS]at H
 refine bS Tryz.func104 rfl Tryz.ntmps104 rfl (fun β=>?_)
 refine sK (fun v1 v2 v3=>?_)
 refine aF 1 rfl (fun hc_v1=>?_)
 refine aF 2 rfl (fun hc_v2=>?_)
 refine aF 3 rfl (fun hc_v3=>?_)
 refine aI ?_
 refine Z4 ?_
 revert H;refine is (fun c1 H=>?_) fun c1 H=>?_
 refine Yt c1 ?_
 refine Yt c1 ?_
 refine Yt c1 ?_
 refine Yt c1 ?_
 refine Yt c1 ?_
 refine Yt c1 ?_
 refine Yt c1 ?_
 refine Yt c1 ?_
 refine Yy (dD rfl hh c1 hh) ?_
 refine Z12 ?_
 refine Z4 ?_
 refine cR (φs':=[fSl aE a0.p.Free,fSl aG a0.p.Nodes,fSl aB a0.p.Defs,fI a0.p.Main,fEq v1,fEq v2,fEq v3,aJ true]) trivial rfl rfl (has rfl) (has rfl) (aD trivial) (sz rfl) rfl rfl ?_
 refine Z2 ?_
 refine fQ (x:=(⟨(⟨a0.p.Free,a0.p.Nodes,a0.p.Defs,a0.p.Main⟩:ScopeProg),a0.sizes,a0.owner,a0.users,true⟩:Ref03_look)) ?_
 cases H
 exact dC (.inl rfl) rfl rfl
 refine Yg c1 (cG rfl hh) ?_
 refine Yg c1 (cG rfl hh) ?_
 refine Yg c1 (jP rfl (has rfl) (fun m v h=>⟨_,h⟩)) ?_
 refine Yg c1 (cA 0 rfl hh (fa rfl) rfl) ?_
 refine Yg c1 (cA 1 rfl hh (fa rfl) rfl) ?_
 refine Yh 0 rfl c1 (bK rfl hh (sc rfl) rfl Ent.rfl) ?_
 refine Yg c1 (fS rfl hh (us rfl)) ?_
 refine Yg c1 (qX rfl hh hh) ?_
 refine Yy (cH rfl hh c1 hh) ?_
 refine Z1 ?_
 revert H;refine is (fun c2 H=>?_) fun c2 H=>?_
 refine Yt c2 ?_
 refine Yt c2 ?_
 refine Yt c2 ?_
 refine Yt c2 ?_
 refine Yt c2 ?_
 refine Yt c2 ?_
 refine Yt c2 ?_
 refine Yt c2 ?_
 refine Yy (dD rfl hh c2 hh) ?_
 refine Z6 ?_
 refine cR (φs':=[fSl aE a0.p.Free,fSl aG a0.p.Nodes,fSl aB a0.p.Defs,fI a0.p.Main,fEq v1,fEq v2,fEq v3,aJ true]) trivial rfl rfl (has rfl) (has rfl) (aD trivial) (sz rfl) rfl rfl ?_
 refine Z2 ?_
 refine fQ (x:=(⟨(⟨a0.p.Free,a0.p.Nodes,a0.p.Defs,a0.p.Main⟩:ScopeProg),a0.sizes,a0.owner,a0.users,true⟩:Ref03_look)) ?_
 cases H
 exact dC (.inl rfl) rfl rfl
 refine Yg c2 (cG rfl hh) ?_
 refine Yg c2 (jP rfl (has rfl) (fun m v h=>⟨_,h⟩)) ?_
 refine Yg c2 (cA 5 rfl hh (fa rfl) rfl) ?_
 refine Yh 0 rfl c2 (bK rfl hh (sc rfl) rfl Ent.rfl) ?_
 refine Yg c2 (cG rfl hh) ?_
 revert H;refine bs fun y1 h1 H=>?_
 refine Yh 2 rfl c2 (jG rfl hh hh (el rfl) h1) ?_
 refine Yh 2 rfl c2 (fZ rfl rfl hh (sc rfl) (cB h1) rfl) ?_
 refine Yg c2 (gP rfl hh hh) ?_
 refine Yy (cH rfl hh c2 hh) ?_
 refine Z1 ?_
 revert H;refine is (fun c3 H=>?_) fun c3 H=>?_
 refine dO hh c3 ?_
 refine Z4 ?_
 refine cR (φs':=[fSl aE a0.p.Free,fSl aG a0.p.Nodes,fSl aB a0.p.Defs,fI a0.p.Main,fEq v1,fEq v2,fEq v3,aJ true]) trivial rfl rfl (has rfl) (has rfl) (aD trivial) (sz rfl) rfl rfl ?_
 refine Z2 ?_
 refine fQ (x:=(⟨(⟨a0.p.Free,a0.p.Nodes,a0.p.Defs,a0.p.Main⟩:ScopeProg),a0.sizes,a0.owner,a0.users,true⟩:Ref03_look)) ?_
 cases H
 exact dC (.inl rfl) rfl rfl
 refine dJ hh c3 ?_
 refine Z8 ?_
 revert H;refine bs fun y2 h2 H=>?_
 refine Yo 2 rfl (jG rfl hh hh (el rfl) h2) ?_
 refine Yo 2 rfl (fZ rfl rfl hh (sc rfl) (cB h2) rfl) ?_
 revert H;refine bs fun z1 h3 H=>?_
 refine Yy (fN rfl hh hh h3) ?_
 revert H;refine bs fun y3 h4 H=>?_
 refine Yo 2 rfl (jG rfl hh hh (el rfl) h4) ?_
 refine aM ?_
 refine oT (z':=z1) trivial rfl rfl rfl (has rfl) (has rfl) (aD trivial) (sz rfl) (cB h4) rfl rfl ?_
 refine Z8 ?_
 revert H;refine bs fun y4 h5 H=>?_
 refine Yo 2 rfl (jG rfl hh hh (el rfl) h5) ?_
 refine aM ?_
 refine oT (z':=a2) trivial rfl rfl rfl (has rfl) (has rfl) (aD trivial) (sz rfl) (cB h5) rfl rfl ?_
 refine Z8 ?_
 revert H;refine bs fun y5 h6 H=>?_
 refine Yy (dF rfl hh hh (el rfl) h6) ?_
 refine Z1 ?_
 refine lA trivial rfl rfl (cV rfl tE rfl) (fun b1=>?_)
 refine dR (φs':=[fI y5.Op,fI y5.N,fSl cF y5.Args,fSl tI y5.Kids]) trivial rfl rfl (has rfl) (has rfl) (aK (aD trivial) (aK (aD trivial) (aK (bU) (aK (bU) bY)))) (sz rfl) rfl rfl rfl ?_
 refine Z4 ?_
 revert H;refine bs fun y6 h7 H=>?_
 refine jT trivial rfl rfl rfl hh (aL.cons hh aL.nil) rfl (cb rfl) (aHD y5.Op y6 h7) rfl ?_
 refine Z8 ?_
 revert H;refine bs fun o1 H Hr1=>?_
 refine aO (ι:=Unit) (fun i=>o1=Sum.inl ()) (fun i=>[(0,fEq (ptr p0)),(2,fI a2),(6,fEq (ptr b1))]) (fun i=>[aA b1 140 [fI y5.Op,fI y5.N,fSl cF y5.Args,fSl tI y5.Kids],aA p0 135 [fSl aE a0.p.Free,fSl aG a0.p.Nodes,fSl aB a0.p.Defs,fI a0.p.Main,fEq v1,fEq v2,fEq v3,aJ a0.bad],aC v1 3 tI (a0.sizes.set a1.toNat a2),aC v2 3 tI (a0.owner.set a1.toNat z1),aC v3 3 tI a0.users]) ?_ ?_
 refine Z4 ?_
 revert H;refine cs (fun c4 H=>?_) fun c4 H=>?_
 refine Yt c4 ?_
 refine Yt c4 ?_
 refine Yt c4 ?_
 refine Yt c4 ?_
 refine Yt c4 ?_
 refine Yy (dD rfl hh c4 hh) ?_
 refine Z4 ?_
 refine cY (⟨_,_,_,_,rfl,rfl,rfl,nu⟩) rfl rfl ?_
 refine cY (⟨_,_,_,_,rfl,rfl,rfl,nu⟩) rfl rfl ?_
 refine cY (⟨_,_,_,_,rfl,rfl,rfl,nu⟩) rfl rfl ?_
 refine cY (⟨_,_,_,_,rfl,rfl,rfl,nu⟩) rfl rfl ?_
 refine Z6 ?_
 refine cY (⟨_,_,_,_,rfl,rfl,rfl,nu⟩) rfl rfl ?_
 refine cY (⟨_,_,_,_,rfl,rfl,rfl,nu⟩) rfl rfl ?_
 refine cY (⟨_,_,_,_,rfl,rfl,rfl,nu⟩) rfl rfl ?_
 refine cY (⟨_,_,_,_,rfl,rfl,rfl,nu⟩) rfl rfl ?_
 refine cY (⟨_,_,_,_,rfl,rfl,rfl,nu⟩) rfl rfl ?_
 refine Z8 ?_
 refine bO ?_
 refine cR (φs':=[fSl aE a0.p.Free,fSl aG a0.p.Nodes,fSl aB a0.p.Defs,fI a0.p.Main,fEq v1,fEq v2,fEq v3,aJ true]) trivial rfl rfl (has rfl) (has rfl) (aD trivial) (sz rfl) rfl rfl ?_
 refine Z2 ?_
 revert H;refine bs fun r1 H e1=>?_
 have e1:=Option.some.inj e1;subst e1;have Hr1:=Option.some.inj Hr1;subst Hr1
 refine bB ?_
 refine bB ?_
 refine bB ?_
 refine bO ?_
 refine fQ (x:=(⟨(⟨a0.p.Free,a0.p.Nodes,a0.p.Defs,a0.p.Main⟩:ScopeProg),a0.sizes.set a1.toNat a2,a0.owner.set a1.toNat z1,a0.users,true⟩:Ref03_look)) ?_
 cases H
 refine aH [0] (by decide) ?_
 exact dC (.inl rfl) rfl rfl
 refine Yg c4 (cA 3 rfl hh (fa rfl) rfl) ?_
 refine Yh 0 rfl c4 (bK rfl hh (sc rfl) rfl Ent.rfl) ?_
 refine Yg c4 (fS rfl hh (us rfl)) ?_
 refine Yg c4 (cG rfl hh) ?_
 refine Yg c4 (tU rfl hh hh) ?_
 refine Yy (cH rfl hh c4 hh) ?_
 refine Z1 ?_
 revert H;refine is (fun c5 H=>?_) fun c5 H=>?_
 refine Yt c5 ?_
 refine Yt c5 ?_
 refine Yt c5 ?_
 refine cY (⟨_,_,_,_,rfl,rfl,rfl,nu⟩) rfl rfl ?_
 refine cY (⟨_,_,_,_,rfl,rfl,rfl,nu⟩) rfl rfl ?_
 refine cY (⟨_,_,_,_,rfl,rfl,rfl,nu⟩) rfl rfl ?_
 refine cY (⟨_,_,_,_,rfl,rfl,rfl,nu⟩) rfl rfl ?_
 refine Yt c5 ?_
 refine Yy (dD rfl hh c5 hh) ?_
 refine Z4 ?_
 refine cY (⟨_,_,_,_,rfl,rfl,rfl,nu⟩) rfl rfl ?_
 refine cY (⟨_,_,_,_,rfl,rfl,rfl,nu⟩) rfl rfl ?_
 refine cY (⟨_,_,_,_,rfl,rfl,rfl,nu⟩) rfl rfl ?_
 refine cY (⟨_,_,_,_,rfl,rfl,rfl,nu⟩) rfl rfl ?_
 refine cY (⟨_,_,_,_,rfl,rfl,rfl,nu⟩) rfl rfl ?_
 refine Z8 ?_
 refine bO ?_
 refine cR (φs':=[fSl aE a0.p.Free,fSl aG a0.p.Nodes,fSl aB a0.p.Defs,fI a0.p.Main,fEq v1,fEq v2,fEq v3,aJ true]) trivial rfl rfl (has rfl) (has rfl) (aD trivial) (sz rfl) rfl rfl ?_
 refine Z2 ?_
 revert H;refine bs fun r2 H e2=>?_
 have e2:=Option.some.inj e2;subst e2;have Hr1:=Option.some.inj Hr1;subst Hr1
 refine bB ?_
 refine bB ?_
 refine bB ?_
 refine bO ?_
 refine fQ (x:=(⟨(⟨a0.p.Free,a0.p.Nodes,a0.p.Defs,a0.p.Main⟩:ScopeProg),a0.sizes.set a1.toNat a2,a0.owner.set a1.toNat z1,a0.users,true⟩:Ref03_look)) ?_
 cases H
 refine aH [0] (by decide) ?_
 exact dC (.inl rfl) rfl rfl
 refine Yg c5 (cG rfl hh) ?_
 refine Yg c5 (uZ rfl hh hh) ?_
 refine Yg c5 (cG rfl hh) ?_
 revert H;refine is (fun c6 H=>?_) fun c6 H=>?_
 refine Yg c6 (cA 2 rfl hh (fa rfl) rfl) ?_
 refine Yh 0 rfl c6 (bK rfl hh (sc rfl) rfl Ent.rfl) ?_
 refine Yg c6 (fS rfl hh (us rfl)) ?_
 refine Yg c6 (gP rfl hh hh) ?_
 refine Yg c5 (dD rfl hh c6 hh) ?_
 refine Yy (cH rfl hh c5 hh) ?_
 refine Z1 ?_
 revert H;refine is (fun c7 H=>?_) fun c7 H=>?_
 refine Yt c7 ?_
 refine Yt c7 ?_
 refine Yt c7 ?_
 refine cY (⟨_,_,_,_,rfl,rfl,rfl,nu⟩) rfl rfl ?_
 refine cY (⟨_,_,_,_,rfl,rfl,rfl,nu⟩) rfl rfl ?_
 refine cY (⟨_,_,_,_,rfl,rfl,rfl,nu⟩) rfl rfl ?_
 refine cY (⟨_,_,_,_,rfl,rfl,rfl,nu⟩) rfl rfl ?_
 refine cY (⟨_,_,_,_,rfl,rfl,rfl,nu⟩) rfl rfl ?_
 refine Yt c7 ?_
 refine Yy (dD rfl hh c7 hh) ?_
 refine Z6 ?_
 refine bO ?_
 refine cR (φs':=[fSl aE a0.p.Free,fSl aG a0.p.Nodes,fSl aB a0.p.Defs,fI a0.p.Main,fEq v1,fEq v2,fEq v3,aJ true]) trivial rfl rfl (has rfl) (has rfl) (aD trivial) (sz rfl) rfl rfl ?_
 refine Z2 ?_
 revert H;refine bs fun r3 H e3=>?_
 have e3:=Option.some.inj e3;subst e3;have Hr1:=Option.some.inj Hr1;subst Hr1
 refine bB ?_
 refine bB ?_
 refine bB ?_
 refine bO ?_
 refine fQ (x:=(⟨(⟨a0.p.Free,a0.p.Nodes,a0.p.Defs,a0.p.Main⟩:ScopeProg),a0.sizes.set a1.toNat a2,a0.owner.set a1.toNat z1,a0.users,true⟩:Ref03_look)) ?_
 cases H
 refine aH [0] (by decide) ?_
 exact dC (.inl rfl) rfl rfl
 refine Yg c7 (cG rfl hh) ?_
 refine Yg c7 (qX rfl hh hh) ?_
 refine Yg c7 (cG rfl hh) ?_
 revert H;refine is (fun c8 H=>?_) fun c8 H=>?_
 refine Yg c8 (cA 2 rfl hh (fa rfl) rfl) ?_
 refine Yh 0 rfl c8 (bK rfl hh (sc rfl) rfl Ent.rfl) ?_
 refine Yg c8 (fS rfl hh (us rfl)) ?_
 refine Yg c8 (cG rfl hh) ?_
 refine Yg c8 (tU rfl hh hh) ?_
 refine Yg c7 (dD rfl hh c8 hh) ?_
 refine Yy (cH rfl hh c7 hh) ?_
 refine Z1 ?_
 revert H;refine is (fun c9 H=>?_) fun c9 H=>?_
 refine dO hh c9 ?_
 refine Z4 ?_
 refine bO ?_
 refine cR (φs':=[fSl aE a0.p.Free,fSl aG a0.p.Nodes,fSl aB a0.p.Defs,fI a0.p.Main,fEq v1,fEq v2,fEq v3,aJ true]) trivial rfl rfl (has rfl) (has rfl) (aD trivial) (sz rfl) rfl rfl ?_
 refine Z2 ?_
 revert H;refine bs fun r4 H e4=>?_
 have e4:=Option.some.inj e4;subst e4;have Hr1:=Option.some.inj Hr1;subst Hr1
 refine bB ?_
 refine bB ?_
 refine bB ?_
 refine bO ?_
 refine fQ (x:=(⟨(⟨a0.p.Free,a0.p.Nodes,a0.p.Defs,a0.p.Main⟩:ScopeProg),a0.sizes.set a1.toNat a2,a0.owner.set a1.toNat z1,a0.users,true⟩:Ref03_look)) ?_
 cases H
 refine aH [0] (by decide) ?_
 exact dC (.inl rfl) rfl rfl
 refine dJ hh c9 ?_
 refine Z2 ?_
 refine aH [0,3,1,2,4] (by decide) ?_
 exact bR (()) (Option.some.inj H).symm (Sc (Sc (Sc aX.nil))) rfl
 refine Yf c8 ?_
 refine Yf c8 ?_
 refine Yf c8 ?_
 refine Yf c8 ?_
 refine Yf c8 ?_
 refine Yg c7 (cH rfl hh c8 hh) ?_
 refine Yy (cH rfl hh c7 hh) ?_
 refine Z4 ?_
 refine aH [0,3,1,2,4] (by decide) ?_
 exact bR (()) (Option.some.inj H).symm (Sc (Sc (Sc aX.nil))) rfl
 refine Yf c6 ?_
 refine Yf c6 ?_
 refine Yf c6 ?_
 refine Yf c6 ?_
 refine Yg c5 (cH rfl hh c6 hh) ?_
 refine Yy (cH rfl hh c5 hh) ?_
 refine Z4 ?_
 revert H;refine is (fun c10 H=>?_) fun c10 H=>?_
 refine Yg c10 (cA 2 rfl hh (fa rfl) rfl) ?_
 refine Yh 0 rfl c10 (bK rfl hh (sc rfl) rfl Ent.rfl) ?_
 refine Yg c10 (fS rfl hh (us rfl)) ?_
 refine Yg c10 (cG rfl hh) ?_
 refine Yg c10 (tU rfl hh hh) ?_
 refine Yg rfl (dD rfl hh c10 hh) ?_
 refine Z2 ?_
 revert H;refine is (fun c11 H=>?_) fun c11 H=>?_
 refine dO hh c11 ?_
 refine Z4 ?_
 refine bO ?_
 refine cR (φs':=[fSl aE a0.p.Free,fSl aG a0.p.Nodes,fSl aB a0.p.Defs,fI a0.p.Main,fEq v1,fEq v2,fEq v3,aJ true]) trivial rfl rfl (has rfl) (has rfl) (aD trivial) (sz rfl) rfl rfl ?_
 refine Z2 ?_
 revert H;refine bs fun r5 H e5=>?_
 have e5:=Option.some.inj e5;subst e5;have Hr1:=Option.some.inj Hr1;subst Hr1
 refine bB ?_
 refine bB ?_
 refine bB ?_
 refine bO ?_
 refine fQ (x:=(⟨(⟨a0.p.Free,a0.p.Nodes,a0.p.Defs,a0.p.Main⟩:ScopeProg),a0.sizes.set a1.toNat a2,a0.owner.set a1.toNat z1,a0.users,true⟩:Ref03_look)) ?_
 cases H
 refine aH [0] (by decide) ?_
 exact dC (.inl rfl) rfl rfl
 refine dJ hh c11 ?_
 refine Z2 ?_
 refine aH [0,3,1,2,4] (by decide) ?_
 exact bR (()) (Option.some.inj H).symm (Sc (Sc (Sc aX.nil))) rfl
 refine Yf c10 ?_
 refine Yf c10 ?_
 refine Yf c10 ?_
 refine Yf c10 ?_
 refine Yf c10 ?_
 refine Yg rfl (cH rfl hh c10 hh) ?_
 refine Z5 ?_
 refine aH [0,3,1,2,4] (by decide) ?_
 exact bR (()) (Option.some.inj H).symm (Sc (Sc (Sc aX.nil))) rfl
 clear H;intro i hi;subst o1;have H:=Hr1;clear Hr1;try dsimp only at H
 try dsimp only
 revert H;refine bs fun o2 H Hr2=>?_
 refine aO (ι:=Bool) (fun i=>o2=i) (fun i=>[(0,fEq (ptr p0)),(2,fI a2),(6,fEq (ptr b1))]) (fun i=>[aA b1 140 [fI y5.Op,fI y5.N,fSl cF y5.Args,fSl tI y5.Kids],aA p0 135 [fSl aE a0.p.Free,fSl aG a0.p.Nodes,fSl aB a0.p.Defs,fI a0.p.Main,fEq v1,fEq v2,fEq v3,aJ i],aC v1 3 tI (a0.sizes.set a1.toNat a2),aC v2 3 tI (a0.owner.set a1.toNat z1),aC v3 3 tI a0.users]) ?_ ?_
 refine Z4 ?_
 refine gN (ι:=Nat × Int × Bool) (fun i=>iY fuel a2 y5 i.1 i.2.1 i.2.2=_) (fun i=>i.1) (fun i=>[(0,fEq (ptr p0)),(2,fI a2),(6,fEq (ptr b1)),(10,fI i.2.1)]) (fun i=>[aA b1 140 [fI y5.Op,fI y5.N,fSl cF y5.Args,fSl tI y5.Kids],aA p0 135 [fSl aE a0.p.Free,fSl aG a0.p.Nodes,fSl aB a0.p.Defs,fI a0.p.Main,fEq v1,fEq v2,fEq v3,aJ i.2.2],aC v1 3 tI (a0.sizes.set a1.toNat a2),aC v2 3 tI (a0.owner.set a1.toNat z1),aC v3 3 tI a0.users]) (fuel,0,a0.bad) H (Sc (Sc (Sc (Sc aX.nil)))) rfl ?_
 clear H;rintro⟨k1,x4,x5⟩ H
 replace H:iY fuel a2 y5 k1 x4 x5=_:=H
 try dsimp only
 obtain _ | k1:=k1
 rw [iY]at H;cases H
 rw [iY]at H
 refine aI ?_
 refine Z7 ?_
 revert H;refine is (fun c12 H=>?_) fun c12 H=>?_
 refine dO hh c12 ?_
 refine Z2 ?_
 revert H;refine bs fun o3 H Hr3=>?_
 refine aO (ι:=Bool) (fun i=>o3=i) (fun i=>[(0,fEq (ptr p0)),(2,fI a2),(6,fEq (ptr b1)),(10,fI x4)]) (fun i=>[aA p0 135 [fSl aE a0.p.Free,fSl aG a0.p.Nodes,fSl aB a0.p.Defs,fI a0.p.Main,fEq v1,fEq v2,fEq v3,aJ i],aA b1 140 [fI y5.Op,fI y5.N,fSl cF y5.Args,fSl tI y5.Kids],aC v1 3 tI (a0.sizes.set a1.toNat a2),aC v2 3 tI (a0.owner.set a1.toNat z1),aC v3 3 tI a0.users]) ?_ ?_
 refine Z8 ?_
 revert H;refine cs (fun c13 H=>?_) fun c13 H=>?_
 refine Yt c13 ?_
 refine Yt c13 ?_
 refine Yt c13 ?_
 refine Yt c13 ?_
 refine Yt c13 ?_
 refine Yt c13 ?_
 refine Yt c13 ?_
 refine Yt c13 ?_
 refine Yy (dD rfl hh c13 hh) ?_
 refine Z2 ?_
 refine bZ ?_
 refine cR (φs':=[fSl aE a0.p.Free,fSl aG a0.p.Nodes,fSl aB a0.p.Defs,fI a0.p.Main,fEq v1,fEq v2,fEq v3,aJ true]) trivial rfl rfl (has rfl) (has rfl) (aD trivial) (sz rfl) rfl rfl ?_
 refine Z3 ?_
 exact bR (true) (Option.some.inj H).symm (Sc (Sc (Sc (Sc aX.nil)))) rfl
 refine Yg c13 (cA 2 rfl hh (fa rfl) rfl) ?_
 refine Yh 0 rfl c13 (bK rfl hh (sc rfl) rfl Ent.rfl) ?_
 refine Yg c13 (cG rfl hh) ?_
 revert H;refine bs fun y7 h8 H=>?_
 refine Yg c13 (dF rfl hh hh (el rfl) h8) ?_
 refine Yg c13 (aAW rfl hh (ag rfl)) ?_
 refine Yg c13 (cG rfl hh) ?_
 revert H;refine bs fun y8 h9 H=>?_
 refine jT ⟨_,_,rfl,rfl,c13⟩ rfl rfl rfl hh (aL.cons hh (aL.cons hh aL.nil)) rfl (cb rfl) (aGA fuel y7 a2 y8 h9) rfl ?_
 refine Yg c13 (oS rfl hh) ?_
 refine Yy (cH rfl hh c13 hh) ?_
 refine Z2 ?_
 refine bZ ?_
 refine cR (φs':=[fSl aE a0.p.Free,fSl aG a0.p.Nodes,fSl aB a0.p.Defs,fI a0.p.Main,fEq v1,fEq v2,fEq v3,aJ (!y8)]) trivial rfl rfl (has rfl) (has rfl) (aD trivial) (sz rfl) rfl rfl ?_
 refine Z3 ?_
 exact bR (!y8) (Option.some.inj H).symm (Sc (Sc (Sc (Sc aX.nil)))) rfl
 clear H;intro x6 hi;subst o3;have H:=Hr3;clear Hr3;try dsimp only at H
 try dsimp only
 refine Z2 ?_
 revert H;refine bs fun z2 h10 H=>?_
 refine Yy (fN rfl hh hh h10) ?_
 refine Z2 ?_
 refine aH [1,0,2,3,4] (by decide) ?_
 exact bR ((k1,z2,x6)) ⟨H,Nat.lt_succ_self _⟩ (Sc (Sc (Sc (Sc aX.nil)))) rfl
 refine dJ hh c12 ?_
 refine Z5 ?_
 exact bR (x5) (Option.some.inj H).symm (Sc (Sc (Sc aX.nil))) rfl
 clear H;intro x1 hi;subst o2;have H:=Hr2;clear Hr2;try dsimp only at H
 try dsimp only
 refine Z4 ?_
 revert H;refine bs fun o4 H Hr4=>?_
 refine aO (ι:=Int × List ByteArray × List ScopeNode × List ScopeDef × Int × List Int × List Int × List Int × Bool × Value × Value × Value) (fun i=>o4=Sum.inl (i.1,i.2.1,i.2.2.1,i.2.2.2.1,i.2.2.2.2.1,i.2.2.2.2.2.1,i.2.2.2.2.2.2.1,i.2.2.2.2.2.2.2.1,i.2.2.2.2.2.2.2.2.1)) (fun i=>[(0,fEq (ptr p0)),(6,fEq (ptr b1)),(11,fI i.1)]) (fun i=>[aA p0 135 [fSl aE i.2.1,fSl aG i.2.2.1,fSl aB i.2.2.2.1,fI i.2.2.2.2.1,fEq i.2.2.2.2.2.2.2.2.2.1,fEq i.2.2.2.2.2.2.2.2.2.2.1,fEq i.2.2.2.2.2.2.2.2.2.2.2,aJ i.2.2.2.2.2.2.2.2.1],aA b1 140 [fI y5.Op,fI y5.N,fSl cF y5.Args,fSl tI y5.Kids],aC i.2.2.2.2.2.2.2.2.2.1 3 tI i.2.2.2.2.2.1,aC i.2.2.2.2.2.2.2.2.2.2.1 3 tI i.2.2.2.2.2.2.1,aC i.2.2.2.2.2.2.2.2.2.2.2 3 tI i.2.2.2.2.2.2.2.1]) ?_ ?_
 refine Z5 ?_
 revert H;refine bs fun o5 H Hr5=>?_
 refine aO (ι:=Bool) (fun i=>o5=i) (fun i=>[(0,fEq (ptr p0)),(2,fI a2),(6,fEq (ptr b1)),(11,fI a2),(128,fI y5.Op),(141,aJ i)]) (fun i=>[aA b1 140 [fI y5.Op,fI y5.N,fSl cF y5.Args,fSl tI y5.Kids],aA p0 135 [fSl aE a0.p.Free,fSl aG a0.p.Nodes,fSl aB a0.p.Defs,fI a0.p.Main,fEq v1,fEq v2,fEq v3,aJ x1],aC v1 3 tI (a0.sizes.set a1.toNat a2),aC v2 3 tI (a0.owner.set a1.toNat z1),aC v3 3 tI a0.users]) ?_ ?_
 refine Z4 ?_
 revert H;refine is (fun c14 H=>?_) fun c14 H=>?_
 refine dO hh c14 ?_
 refine Z2 ?_
 exact bR (decide (y5.Op=2)) (Option.some.inj H).symm (Sc (Sc (Sc (Sc (Sc (Sc aX.nil)))))) rfl
 refine dJ hh c14 ?_
 refine Z4 ?_
 revert H;refine is (fun c15 H=>?_) fun c15 H=>?_
 refine dO hh c15 ?_
 refine Z2 ?_
 exact bR (decide (y5.Op=6)) (Option.some.inj H).symm (Sc (Sc (Sc (Sc (Sc (Sc aX.nil)))))) rfl
 refine dJ hh c15 ?_
 refine Z4 ?_
 exact bR (decide (y5.Op=8)) (Option.some.inj H).symm (Sc (Sc (Sc (Sc (Sc (Sc aX.nil)))))) rfl
 clear H;intro x16 hi;subst o5;have H:=Hr5;clear Hr5;try dsimp only at H
 try dsimp only
 revert H;refine cs (fun c16 H=>?_) fun c16 H=>?_
 refine dO hh c16 ?_
 refine Z7 ?_
 revert H;refine cs (fun c17 H=>?_) fun c17 H=>?_
 refine Yt c17 ?_
 refine Yt c17 ?_
 refine Yt c17 ?_
 refine Yy (dD rfl hh c17 hh) ?_
 refine Z8 ?_
 refine bZ ?_
 refine cR (φs':=[fSl aE a0.p.Free,fSl aG a0.p.Nodes,fSl aB a0.p.Defs,fI a0.p.Main,fEq v1,fEq v2,fEq v3,aJ true]) trivial rfl rfl (has rfl) (has rfl) (aD trivial) (sz rfl) rfl rfl ?_
 refine Z3 ?_
 exact bR ((a2,a0.p.Free,a0.p.Nodes,a0.p.Defs,a0.p.Main,a0.sizes.set a1.toNat a2,a0.owner.set a1.toNat z1,a0.users,true,v1,v2,v3)) (Option.some.inj H).symm (Sc (Sc (Sc aX.nil))) rfl
 refine Yg c17 (cA 1 rfl hh (fa rfl) rfl) ?_
 refine Yh 0 rfl c17 (bK rfl hh (sc rfl) rfl Ent.rfl) ?_
 refine Yg c17 (uZ rfl hh hh) ?_
 refine Yy (cH rfl hh c17 hh) ?_
 refine Z1 ?_
 revert H;refine is (fun c18 H=>?_) fun c18 H=>?_
 refine Yt c18 ?_
 refine Yt c18 ?_
 refine Yt c18 ?_
 refine Yt c18 ?_
 refine Yy (dD rfl hh c18 hh) ?_
 refine Z2 ?_
 refine bZ ?_
 refine cR (φs':=[fSl aE a0.p.Free,fSl aG a0.p.Nodes,fSl aB a0.p.Defs,fI a0.p.Main,fEq v1,fEq v2,fEq v3,aJ true]) trivial rfl rfl (has rfl) (has rfl) (aD trivial) (sz rfl) rfl rfl ?_
 refine Z3 ?_
 exact bR ((a2,a0.p.Free,a0.p.Nodes,a0.p.Defs,a0.p.Main,a0.sizes.set a1.toNat a2,a0.owner.set a1.toNat z1,a0.users,true,v1,v2,v3)) (Option.some.inj H).symm (Sc (Sc (Sc aX.nil))) rfl
 refine Yg c18 (cA 1 rfl hh (fa rfl) rfl) ?_
 refine Yh 0 rfl c18 (bK rfl hh (sc rfl) rfl Ent.rfl) ?_
 refine Yg c18 (cG rfl hh) ?_
 refine Yg c18 (qX rfl hh hh) ?_
 refine Yy (cH rfl hh c18 hh) ?_
 refine Z2 ?_
 refine bZ ?_
 refine cR (φs':=[fSl aE a0.p.Free,fSl aG a0.p.Nodes,fSl aB a0.p.Defs,fI a0.p.Main,fEq v1,fEq v2,fEq v3,aJ (decide (a2 ≤ y5.N))]) trivial rfl rfl (has rfl) (has rfl) (aD trivial) (sz rfl) rfl rfl ?_
 refine Z3 ?_
 exact bR ((a2,a0.p.Free,a0.p.Nodes,a0.p.Defs,a0.p.Main,a0.sizes.set a1.toNat a2,a0.owner.set a1.toNat z1,a0.users,decide (a2 ≤ y5.N),v1,v2,v3)) (Option.some.inj H).symm (Sc (Sc (Sc aX.nil))) rfl
 refine dJ hh c16 ?_
 refine Z4 ?_
 revert H;refine is (fun c19 H=>?_) fun c19 H=>?_
 refine dO hh c19 ?_
 refine aI ?_
 refine aI ?_
 revert H;refine is (fun c20 H=>?_) fun c20 H=>?_
 apply bE (ods:=[_,_,_,_,_,_,_,_,_,_,_,_,_,_,_,_,_,_,_,_,_,_,_,_,_]) 25 0 5 bD rfl rfl rfl
 refine ND ?_
 refine M4 ?_
 intros
 refine Mt c20 fun _=>?_
 refine Mt c20 fun _=>?_
 refine Mt c20 fun _=>?_
 refine Mt c20 fun _=>?_
 refine Mt c20 fun _=>?_
 refine Mt c20 fun _=>?_
 refine Mt c20 fun _=>?_
 refine Mt c20 fun _=>?_
 refine Mt c20 fun _=>?_
 refine My (dD rfl hh c20 hh) fun _=>?_
 refine M8 ?_
 intros
 refine M3 ?_
 intros
 refine Z7 ?_
 refine bZ ?_
 refine cR (φs':=[fSl aE a0.p.Free,fSl aG a0.p.Nodes,fSl aB a0.p.Defs,fI a0.p.Main,fEq v1,fEq v2,fEq v3,aJ true]) trivial rfl rfl (has rfl) (has rfl) (aD trivial) (sz rfl) rfl rfl ?_
 refine Z4 ?_
 revert H;refine bs fun r6 H e6=>?_
 have e6:=Option.some.inj e6;subst e6;have Hr4:=Option.some.inj Hr4;subst Hr4
 refine bB ?_
 refine bB ?_
 refine bB ?_
 refine bO ?_
 refine fQ (x:=(⟨(⟨a0.p.Free,a0.p.Nodes,a0.p.Defs,a0.p.Main⟩:ScopeProg),a0.sizes.set a1.toNat a2,a0.owner.set a1.toNat z1,a0.users,true⟩:Ref03_look)) ?_
 cases H
 refine aH [0] (by decide) ?_
 exact dC (.inl rfl) rfl rfl
 exact fk
 kernel_rfl
 revert H;refine is (fun c21 H=>?_) fun c21 H=>?_
 apply bE (ods:=[_,_,_,_,_,_,_,_,_,_,_,_,_,_,_,_,_,_,_,_,_,_,_,_,_]) 25 0 5 bD rfl rfl rfl
 refine ND ?_
 refine M4 ?_
 intros
 refine Mg c20 (cA 1 rfl hh (fa rfl) rfl) fun _=>?_
 refine dX (od:=odC [0] false (fI y5.N) [cX]) (ps:=[0]) (φ:=fI y5.N) rfl (fun _=>rfl) ⟨_,_,rfl,rfl,c20⟩ rfl rfl (bK rfl hh (sc rfl) rfl Ent.rfl) (fun _=>?_)
 refine Mg c20 (cG rfl hh) fun _=>?_
 refine Mg c20 (jP rfl (has rfl) (fun m v h=>⟨_,h⟩)) fun _=>?_
 refine Mg c20 (cA 0 rfl hh (fa rfl) rfl) fun _=>?_
 refine Mg c20 (cA 2 rfl hh (fa rfl) rfl) fun _=>?_
 refine dX (od:=odC [1] false (fSl aB a0.p.Defs) [cX]) (ps:=[1]) (φ:=fSl aB a0.p.Defs) rfl (fun _=>rfl) ⟨_,_,rfl,rfl,c20⟩ rfl rfl (bK rfl hh (sc rfl) rfl Ent.rfl) (fun _=>?_)
 refine Mg c20 (fS rfl hh (us rfl)) fun _=>?_
 refine Mg c20 (qX rfl hh hh) fun _=>?_
 refine My (cH rfl hh c20 hh) fun _=>?_
 refine M1 ?_
 intros
 refine Mt c21 fun _=>?_
 refine Mt c21 fun _=>?_
 refine Mt c21 fun _=>?_
 refine Mt c21 fun _=>?_
 refine Mt c21 fun _=>?_
 refine Mt c21 fun _=>?_
 refine Mt c21 fun _=>?_
 refine Mt c21 fun _=>?_
 refine Mt c21 fun _=>?_
 refine My (dD rfl hh c21 hh) fun _=>?_
 refine Z7 ?_
 refine bZ ?_
 refine cR (φs':=[fSl aE a0.p.Free,fSl aG a0.p.Nodes,fSl aB a0.p.Defs,fI a0.p.Main,fEq v1,fEq v2,fEq v3,aJ true]) trivial rfl rfl (has rfl) (has rfl) (aD trivial) (sz rfl) rfl rfl ?_
 refine Z4 ?_
 revert H;refine bs fun r7 H e7=>?_
 have e7:=Option.some.inj e7;subst e7;have Hr4:=Option.some.inj Hr4;subst Hr4
 refine bB ?_
 refine bB ?_
 refine bB ?_
 refine bO ?_
 refine fQ (x:=(⟨(⟨a0.p.Free,a0.p.Nodes,a0.p.Defs,a0.p.Main⟩:ScopeProg),a0.sizes.set a1.toNat a2,a0.owner.set a1.toNat z1,a0.users,true⟩:Ref03_look)) ?_
 cases H
 refine aH [0] (by decide) ?_
 exact dC (.inl rfl) rfl rfl
 exact fk
 kernel_rfl
 revert H;refine bs fun y9 h11 H=>?_
 apply bE (ods:=[_,_,_,_,_,_,_,_,_,_,_,_,_,_,_,_,_,_,_,_,_,_,_,_,_]) 25 0 5 bD rfl rfl rfl
 refine ND ?_
 refine M4 ?_
 intros
 refine Mg c20 (cA 1 rfl hh (fa rfl) rfl) fun _=>?_
 refine dX (od:=odC [0] false (fI y5.N) [cX]) (ps:=[0]) (φ:=fI y5.N) rfl (fun _=>rfl) ⟨_,_,rfl,rfl,c20⟩ rfl rfl (bK rfl hh (sc rfl) rfl Ent.rfl) (fun _=>?_)
 refine Mg c20 (cG rfl hh) fun _=>?_
 refine Mg c20 (jP rfl (has rfl) (fun m v h=>⟨_,h⟩)) fun _=>?_
 refine Mg c20 (cA 0 rfl hh (fa rfl) rfl) fun _=>?_
 refine Mg c20 (cA 2 rfl hh (fa rfl) rfl) fun _=>?_
 refine dX (od:=odC [1] false (fSl aB a0.p.Defs) [cX]) (ps:=[1]) (φ:=fSl aB a0.p.Defs) rfl (fun _=>rfl) ⟨_,_,rfl,rfl,c20⟩ rfl rfl (bK rfl hh (sc rfl) rfl Ent.rfl) (fun _=>?_)
 refine Mg c20 (fS rfl hh (us rfl)) fun _=>?_
 refine Mg c20 (qX rfl hh hh) fun _=>?_
 refine My (cH rfl hh c20 hh) fun _=>?_
 refine M1 ?_
 intros
 refine Mg c21 (cG rfl hh) fun _=>?_
 refine Mg c21 (jP rfl (has rfl) (fun m v h=>⟨_,h⟩)) fun _=>?_
 refine Mg c21 (cA 6 rfl hh (fa rfl) rfl) fun _=>?_
 refine dX (od:=odC [1] false (fEq v3) [cX]) (ps:=[1]) (φ:=fEq v3) rfl (fun _=>rfl) ⟨_,_,rfl,rfl,c21⟩ rfl rfl (bK rfl hh (sc rfl) rfl Ent.rfl) (fun _=>?_)
 refine Mg c21 (cA 1 rfl hh (fa rfl) rfl) fun _=>?_
 refine dX (od:=odC [0] false (fI y5.N) [cX]) (ps:=[0]) (φ:=fI y5.N) rfl (fun _=>rfl) ⟨_,_,rfl,rfl,c21⟩ rfl rfl (bK rfl hh (sc rfl) rfl Ent.rfl) (fun _=>?_)
 refine dX (od:=odC [4] false (kS v3 1 y5.N.toNat 0) [cX]) (ps:=[4]) (φ:=kS v3 1 y5.N.toNat 0) rfl (fun _=>rfl) ⟨_,_,rfl,rfl,c21⟩ rfl rfl (jG rfl hh hh (el rfl) h11) (fun _=>?_)
 refine dX (od:=odC [4] false (fI y9) [cX]) (ps:=[4]) (φ:=fI y9) rfl (fun _=>rfl) ⟨_,_,rfl,rfl,c21⟩ rfl rfl (fZ rfl rfl hh (sc rfl) (cB h11) rfl) (fun _=>?_)
 refine Mg c21 (gP rfl hh hh) fun _=>?_
 refine My (cH rfl hh c21 hh) fun _=>?_
 refine Z2 ?_
 revert H;refine is (fun c22 H=>?_) fun c22 H=>?_
 refine dO hh c22 ?_
 refine Z4 ?_
 refine bZ ?_
 refine cR (φs':=[fSl aE a0.p.Free,fSl aG a0.p.Nodes,fSl aB a0.p.Defs,fI a0.p.Main,fEq v1,fEq v2,fEq v3,aJ true]) trivial rfl rfl (has rfl) (has rfl) (aD trivial) (sz rfl) rfl rfl ?_
 refine Z4 ?_
 revert H;refine bs fun r8 H e8=>?_
 have e8:=Option.some.inj e8;subst e8;have Hr4:=Option.some.inj Hr4;subst Hr4
 refine bB ?_
 refine bB ?_
 refine bB ?_
 refine bO ?_
 refine fQ (x:=(⟨(⟨a0.p.Free,a0.p.Nodes,a0.p.Defs,a0.p.Main⟩:ScopeProg),a0.sizes.set a1.toNat a2,a0.owner.set a1.toNat z1,a0.users,true⟩:Ref03_look)) ?_
 cases H
 refine aH [0] (by decide) ?_
 exact dC (.inl rfl) rfl rfl
 refine dJ hh c22 ?_
 refine Z2 ?_
 refine aI ?_
 revert H;refine bs fun y10 h12 H=>?_
 revert H;refine bs fun z3 h13 H=>?_
 revert H;refine bs fun y11 h14 H=>?_
 apply bE (ods:=[_,_,_,_,_,_,_,_,_,_,_]) 11 0 5 bD rfl rfl rfl
 refine ND ?_
 refine M6 ?_
 intros
 refine Mo 4 rfl (jG rfl hh hh (el rfl) h12) fun _=>?_
 refine Mo 4 rfl (fZ rfl rfl hh (sc rfl) (cB h12) rfl) fun _=>?_
 refine My (fN rfl hh hh h13) fun _=>?_
 refine Mo 4 rfl (jG rfl hh hh (el rfl) h14) fun _=>?_
 refine lP (od:=odC [4] true (dN) [aC v3 3 tI (a0.users.set y5.N.toNat z3)]) (p:=4) (z':=z3) rfl (fun _=>rfl) (fun _=>rfl) trivial rfl rfl rfl rfl (has rfl) (has rfl) (aD trivial) (sz rfl) (cB h14) rfl rfl (fun _=>?_)
 refine Z2 ?_
 refine aI ?_
 revert H;refine bs fun y12 h15 H=>?_
 revert H;refine bs fun y13 h16 H=>?_
 revert H;refine bs fun z4 h17 H=>?_
 apply bE (ods:=[_,_,_,_,_,_,_,_,_,_,_,_,_]) 13 0 5 bD rfl rfl rfl
 refine ND ?_
 refine M8 ?_
 intros
 refine My (dF rfl hh hh (el rfl) h15) fun _=>?_
 refine M1 ?_
 intros
 refine mP (od:=odC [] true (fI y13) []) (Φ:=fI y13) rfl (fun _=>rfl) trivial rfl rfl (has rfl) (aL.cons (has rfl) aL.nil) rfl (cb rfl) (aF4 y12 y13 h16) (fun _=>?_)
 refine My (fN rfl hh hh h17) fun _=>?_
 refine M1 ?_
 intros
 refine Z2 ?_
 revert H;refine bs fun y14 h18 H=>?_
 apply bE (ods:=[_,_,_,_,_,_,_,_,_,_,_]) 11 0 5 bD rfl rfl rfl
 refine ND ?_
 refine M8 ?_
 intros
 refine My (dF rfl hh hh (el rfl) h18) fun _=>?_
 refine M2 ?_
 intros
 refine Z1 ?_
 refine bB ?_
 refine bB ?_
 refine bB ?_
 refine bB ?_
 refine fQ (x:=(⟨(⟨a0.p.Free,a0.p.Nodes,a0.p.Defs,a0.p.Main⟩:ScopeProg),a0.sizes.set a1.toNat a2,a0.owner.set a1.toNat z1,a0.users.set y5.N.toNat z3,x1⟩:Ref03_look)) ?_
 revert H;refine bs fun y15 h19 H=>?_
 refine jT trivial rfl rfl rfl hh (aL.cons hh (aL.cons hh (aL.cons hh aL.nil))) rfl (cb rfl) (ih_r03_look_def p0 (⟨(⟨a0.p.Free,a0.p.Nodes,a0.p.Defs,a0.p.Main⟩:ScopeProg),a0.sizes.set a1.toNat a2,a0.owner.set a1.toNat z1,a0.users.set y5.N.toNat z3,x1⟩:Ref03_look) y14 z4 y15 h19) rfl ?_
 refine sK (fun v7 v8 v9=>?_)
 refine aF 1 rfl (fun hc_v7=>?_)
 refine aF 2 rfl (fun hc_v8=>?_)
 refine aF 3 rfl (fun hc_v9=>?_)
 refine Z3 ?_
 refine aH [0,4,1,2,3] (by decide) ?_
 exact bR ((z4,y15.p.Free,y15.p.Nodes,y15.p.Defs,y15.p.Main,y15.sizes,y15.owner,y15.users,y15.bad,v7,v8,v9)) (Option.some.inj H).symm (Sc (Sc (Sc aX.nil))) rfl
 exact fk
 kernel_rfl
 exact fk
 kernel_rfl
 exact fk
 kernel_rfl
 exact fk
 kernel_rfl
 refine dJ hh c19 ?_
 refine Z7 ?_
 revert H;refine cs (fun c23 H=>?_) fun c23 H=>?_
 refine Yt c23 ?_
 refine Yt c23 ?_
 refine Yt c23 ?_
 refine Yy (dD rfl hh c23 hh) ?_
 refine Z2 ?_
 refine bZ ?_
 refine cR (φs':=[fSl aE a0.p.Free,fSl aG a0.p.Nodes,fSl aB a0.p.Defs,fI a0.p.Main,fEq v1,fEq v2,fEq v3,aJ true]) trivial rfl rfl (has rfl) (has rfl) (aD trivial) (sz rfl) rfl rfl ?_
 refine Z3 ?_
 exact bR ((a2,a0.p.Free,a0.p.Nodes,a0.p.Defs,a0.p.Main,a0.sizes.set a1.toNat a2,a0.owner.set a1.toNat z1,a0.users,true,v1,v2,v3)) (Option.some.inj H).symm (Sc (Sc (Sc aX.nil))) rfl
 refine Yg c23 (cA 1 rfl hh (fa rfl) rfl) ?_
 refine Yh 0 rfl c23 (bK rfl hh (sc rfl) rfl Ent.rfl) ?_
 refine Yg c23 (tU rfl hh hh) ?_
 refine Yy (cH rfl hh c23 hh) ?_
 refine Z2 ?_
 refine bZ ?_
 refine cR (φs':=[fSl aE a0.p.Free,fSl aG a0.p.Nodes,fSl aB a0.p.Defs,fI a0.p.Main,fEq v1,fEq v2,fEq v3,aJ (decide (y5.N≠0))]) trivial rfl rfl (has rfl) (has rfl) (aD trivial) (sz rfl) rfl rfl ?_
 refine Z3 ?_
 exact bR ((a2,a0.p.Free,a0.p.Nodes,a0.p.Defs,a0.p.Main,a0.sizes.set a1.toNat a2,a0.owner.set a1.toNat z1,a0.users,decide (y5.N≠0),v1,v2,v3)) (Option.some.inj H).symm (Sc (Sc (Sc aX.nil))) rfl
 clear H;intro i hi;obtain⟨x7,x8,x9,x10,x11,x12,x13,x14,x15,v4,v5,v6⟩:=i;subst o4;have H:=Hr4;clear Hr4;try dsimp only at H
 try dsimp only
 refine aF 2 rfl (fun hc_v4=>?_)
 refine aF 3 rfl (fun hc_v5=>?_)
 refine aF 4 rfl (fun hc_v6=>?_)
 refine Z4 ?_
 refine gN (ι:=Nat × Int × List ByteArray × List ScopeNode × List ScopeDef × Int × List Int × List Int × List Int × Bool × Value × Value × Value) (fun i=>iU (eS fuel) y5 x7 i.1 i.2.1 i.2.2.1 i.2.2.2.1 i.2.2.2.2.1 i.2.2.2.2.2.1 i.2.2.2.2.2.2.1 i.2.2.2.2.2.2.2.1 i.2.2.2.2.2.2.2.2.1 i.2.2.2.2.2.2.2.2.2.1=_) (fun i=>i.1) (fun i=>[(0,fEq (ptr p0)),(6,fEq (ptr b1)),(11,fI x7),(12,fI i.2.1)]) (fun i=>[aA p0 135 [fSl aE i.2.2.1,fSl aG i.2.2.2.1,fSl aB i.2.2.2.2.1,fI i.2.2.2.2.2.1,fEq i.2.2.2.2.2.2.2.2.2.2.1,fEq i.2.2.2.2.2.2.2.2.2.2.2.1,fEq i.2.2.2.2.2.2.2.2.2.2.2.2,aJ i.2.2.2.2.2.2.2.2.2.1],aA b1 140 [fI y5.Op,fI y5.N,fSl cF y5.Args,fSl tI y5.Kids],aC i.2.2.2.2.2.2.2.2.2.2.1 3 tI i.2.2.2.2.2.2.1,aC i.2.2.2.2.2.2.2.2.2.2.2.1 3 tI i.2.2.2.2.2.2.2.1,aC i.2.2.2.2.2.2.2.2.2.2.2.2 3 tI i.2.2.2.2.2.2.2.2.1]) (fuel,0,x8,x9,x10,x11,x12,x13,x14,x15,v4,v5,v6) H (Sc (Sc (Sc (Sc aX.nil)))) rfl ?_
 clear H;rintro⟨k2,x26,x27,x28,x29,x30,x31,x32,x33,x34,v13,v14,v15⟩ H
 replace H:iU (eS fuel) y5 x7 k2 x26 x27 x28 x29 x30 x31 x32 x33 x34=_:=H
 try dsimp only
 obtain _ | k2:=k2
 rw [iU]at H;cases H
 rw [iU]at H
 refine aF 2 rfl (fun hc_v13=>?_)
 refine aF 3 rfl (fun hc_v14=>?_)
 refine aF 4 rfl (fun hc_v15=>?_)
 refine aI ?_
 refine Z7 ?_
 revert H;refine is (fun c24 H=>?_) fun c24 H=>?_
 refine Yg c24 (cG rfl hh) ?_
 refine Yg c24 (jP rfl (has rfl) (fun m v h=>⟨_,h⟩)) ?_
 refine Yg c24 (cA 7 rfl hh (fa rfl) rfl) ?_
 refine Yh 0 rfl c24 (bK rfl hh (sc rfl) rfl Ent.rfl) ?_
 refine Yg c24 (oS rfl hh) ?_
 refine Yy (dD rfl hh c24 hh) ?_
 refine Z1 ?_
 revert H;refine cs (fun c25 H=>?_) fun c25 H=>?_
 refine dJ hh (uC c25) ?_
 refine Z4 ?_
 refine bB ?_
 refine bB ?_
 refine bB ?_
 refine bO ?_
 refine fQ (x:=(⟨(⟨x27,x28,x29,x30⟩:ScopeProg),x31,x32,x33,x34⟩:Ref03_look)) ?_
 cases H
 refine aH [0] (by decide) ?_
 exact dC (.inr rfl) rfl rfl
 refine dO hh (uY c25) ?_
 refine Z2 ?_
 refine aI ?_
 refine Z6 ?_
 revert H;refine bs fun y16 h20 H=>?_
 refine Yy (dF rfl hh hh (el rfl) h20) ?_
 refine Z2 ?_
 refine bB ?_
 refine bB ?_
 refine bB ?_
 refine bO ?_
 refine fQ (x:=(⟨(⟨x27,x28,x29,x30⟩:ScopeProg),x31,x32,x33,x34⟩:Ref03_look)) ?_
 revert H;refine bs fun y17 h21 H=>?_
 refine jT trivial rfl rfl rfl hh (aL.cons hh (aL.cons hh (aL.cons hh aL.nil))) rfl (cb rfl) (ih_r03_look_node p0 (⟨(⟨x27,x28,x29,x30⟩:ScopeProg),x31,x32,x33,x34⟩:Ref03_look) y16 x7 y17 h21) rfl ?_
 refine sK (fun v16 v17 v18=>?_)
 refine aF 1 rfl (fun hc_v16=>?_)
 refine aF 2 rfl (fun hc_v17=>?_)
 refine aF 3 rfl (fun hc_v18=>?_)
 refine Z5 ?_
 revert H;refine bs fun z5 h22 H=>?_
 refine Yy (fN rfl hh hh h22) ?_
 refine Z2 ?_
 refine aH [0,4,1,2,3] (by decide) ?_
 exact bR ((k2,z5,y17.p.Free,y17.p.Nodes,y17.p.Defs,y17.p.Main,y17.sizes,y17.owner,y17.users,y17.bad,v16,v17,v18)) ⟨H,Nat.lt_succ_self _⟩ (Sc (Sc (Sc (Sc aX.nil)))) rfl
 refine Yf c24 ?_
 refine Yf c24 ?_
 refine Yf c24 ?_
 refine Yf c24 ?_
 refine Yf c24 ?_
 refine Yy (cH rfl hh c24 hh) ?_
 refine Z6 ?_
 refine bB ?_
 refine bB ?_
 refine bB ?_
 refine bO ?_
 refine fQ (x:=(⟨(⟨x27,x28,x29,x30⟩:ScopeProg),x31,x32,x33,x34⟩:Ref03_look)) ?_
 cases H
 refine aH [0] (by decide) ?_
 exact dC (.inr rfl) rfl rfl
 intro p0 a0 a1 a2 r H
 rw [mV]at H
 refine bS Tryz.func137 rfl Tryz.ntmps137 rfl (fun β=>?_)
 refine sK (fun v1 v2 v3=>?_)
 refine aF 1 rfl (fun hc_v1=>?_)
 refine aF 2 rfl (fun hc_v2=>?_)
 refine aF 3 rfl (fun hc_v3=>?_)
 refine Z1 ?_
 refine lA trivial rfl rfl (cO rfl (has rfl) bW) (fun b1=>?_)
 refine Z1 ?_
 revert H;refine bs fun o1 H Hr1=>?_
 refine aO (ι:=List ByteArray × List ScopeNode × List ScopeDef × Int × List Int × List Int × List Int × Bool × Value × Value × Value) (fun i=>o1=(i.1,i.2.1,i.2.2.1,i.2.2.2.1,i.2.2.2.2.1,i.2.2.2.2.2.1,i.2.2.2.2.2.2.1,i.2.2.2.2.2.2.2.1)) (fun i=>[(0,fEq (ptr p0)),(2,fI a2),(4,fEq (ptr b1))]) (fun i=>[aA b1 63 [fSl aS a1.Chans,fSl aY a1.Spots,fSl aZ a1.Rules],aA p0 135 [fSl aE i.1,fSl aG i.2.1,fSl aB i.2.2.1,fI i.2.2.2.1,fEq i.2.2.2.2.2.2.2.2.1,fEq i.2.2.2.2.2.2.2.2.2.1,fEq i.2.2.2.2.2.2.2.2.2.2,aJ i.2.2.2.2.2.2.2.1],aC i.2.2.2.2.2.2.2.2.1 3 tI i.2.2.2.2.1,aC i.2.2.2.2.2.2.2.2.2.1 3 tI i.2.2.2.2.2.1,aC i.2.2.2.2.2.2.2.2.2.2 3 tI i.2.2.2.2.2.2.1]) ?_ ?_
 refine Z4 ?_
 refine gN (ι:=Nat × Int × List ByteArray × List ScopeNode × List ScopeDef × Int × List Int × List Int × List Int × Bool × Value × Value × Value) (fun i=>kO fuel (eS fuel) a1 a2 i.1 i.2.1 i.2.2.1 i.2.2.2.1 i.2.2.2.2.1 i.2.2.2.2.2.1 i.2.2.2.2.2.2.1 i.2.2.2.2.2.2.2.1 i.2.2.2.2.2.2.2.2.1 i.2.2.2.2.2.2.2.2.2.1=_) (fun i=>i.1) (fun i=>[(0,fEq (ptr p0)),(2,fI a2),(4,fEq (ptr b1)),(6,fI i.2.1)]) (fun i=>[aA b1 63 [fSl aS a1.Chans,fSl aY a1.Spots,fSl aZ a1.Rules],aA p0 135 [fSl aE i.2.2.1,fSl aG i.2.2.2.1,fSl aB i.2.2.2.2.1,fI i.2.2.2.2.2.1,fEq i.2.2.2.2.2.2.2.2.2.2.1,fEq i.2.2.2.2.2.2.2.2.2.2.2.1,fEq i.2.2.2.2.2.2.2.2.2.2.2.2,aJ i.2.2.2.2.2.2.2.2.2.1],aC i.2.2.2.2.2.2.2.2.2.2.1 3 tI i.2.2.2.2.2.2.1,aC i.2.2.2.2.2.2.2.2.2.2.2.1 3 tI i.2.2.2.2.2.2.2.1,aC i.2.2.2.2.2.2.2.2.2.2.2.2 3 tI i.2.2.2.2.2.2.2.2.1]) (fuel,0,a0.p.Free,a0.p.Nodes,a0.p.Defs,a0.p.Main,a0.sizes,a0.owner,a0.users,a0.bad,v1,v2,v3) H (Sc (Sc (Sc (Sc aX.nil)))) rfl ?_
 clear H;rintro⟨k1,x18,x19,x20,x21,x22,x23,x24,x25,x26,v10,v11,v12⟩ H
 replace H:kO fuel (eS fuel) a1 a2 k1 x18 x19 x20 x21 x22 x23 x24 x25 x26=_:=H
 try dsimp only
 obtain _ | k1:=k1
 rw [kO]at H;cases H
 rw [kO]at H
 refine aF 2 rfl (fun hc_v10=>?_)
 refine aF 3 rfl (fun hc_v11=>?_)
 refine aF 4 rfl (fun hc_v12=>?_)
 refine aI ?_
 refine Z7 ?_
 revert H;refine is (fun c1 H=>?_) fun c1 H=>?_
 refine Yg c1 (cG rfl hh) ?_
 refine Yg c1 (jP rfl (has rfl) (fun m v h=>⟨_,h⟩)) ?_
 refine Yg c1 (cA 7 rfl hh (fa rfl) rfl) ?_
 refine Yh 1 rfl c1 (bK rfl hh (sc rfl) rfl Ent.rfl) ?_
 refine Yg c1 (oS rfl hh) ?_
 refine Yy (dD rfl hh c1 hh) ?_
 refine Z1 ?_
 revert H;refine cs (fun c2 H=>?_) fun c2 H=>?_
 refine dJ hh (uC c2) ?_
 refine Z5 ?_
 exact bR ((x19,x20,x21,x22,x23,x24,x25,x26,v10,v11,v12)) (Option.some.inj H).symm (Sc (Sc (Sc aX.nil))) rfl
 refine dO hh (uY c2) ?_
 refine Z2 ?_
 refine aI ?_
 refine Z1 ?_
 revert H;refine bs fun y1 h1 H=>?_
 revert H;refine bs fun y2 h2 H=>?_
 revert H;refine bs fun y3 h3 H=>?_
 revert H;refine bs fun z1 h4 H=>?_
 apply bE (ods:=[_,_,_,_,_,_,_,_,_,_,_,_,_,_,_,_]) 16 0 5 bD rfl rfl rfl
 refine ND ?_
 refine M4 ?_
 intros
 refine My (dF rfl hh hh (el rfl) h1) fun _=>?_
 refine M7 ?_
 intros
 refine My (dF rfl hh hh (el rfl) h2) fun _=>?_
 refine M1 ?_
 intros
 refine mP (od:=odC [] true (fI y3) []) (Φ:=fI y3) rfl (fun _=>rfl) trivial rfl rfl (has rfl) (aL.cons (has rfl) (aL.cons (has rfl) aL.nil)) rfl (cb rfl) (aGU fuel (⟨a1.Chans,a1.Spots,a1.Rules⟩:ScopeDef) y2 y3 h3) (fun _=>?_)
 refine My (fN rfl hh hh h4) fun _=>?_
 refine Z1 ?_
 refine bB ?_
 refine bB ?_
 refine bB ?_
 refine bB ?_
 refine fQ (x:=(⟨(⟨x19,x20,x21,x22⟩:ScopeProg),x23,x24,x25,x26⟩:Ref03_look)) ?_
 revert H;refine bs fun y4 h5 H=>?_
 refine jT trivial rfl rfl rfl hh (aL.cons hh (aL.cons hh (aL.cons hh aL.nil))) rfl (cb rfl) (ih_r03_look_node p0 (⟨(⟨x19,x20,x21,x22⟩:ScopeProg),x23,x24,x25,x26⟩:Ref03_look) y1.Node z1 y4 h5) rfl ?_
 refine sK (fun v13 v14 v15=>?_)
 refine aF 1 rfl (fun hc_v13=>?_)
 refine aF 2 rfl (fun hc_v14=>?_)
 refine aF 3 rfl (fun hc_v15=>?_)
 refine Z5 ?_
 revert H;refine bs fun z2 h6 H=>?_
 refine Yy (fN rfl hh hh h6) ?_
 refine Z2 ?_
 refine aH [4,0,1,2,3] (by decide) ?_
 exact bR ((k1,z2,y4.p.Free,y4.p.Nodes,y4.p.Defs,y4.p.Main,y4.sizes,y4.owner,y4.users,y4.bad,v13,v14,v15)) ⟨H,Nat.lt_succ_self _⟩ (Sc (Sc (Sc (Sc aX.nil)))) rfl
 exact fk
 kernel_rfl
 refine Yf c1 ?_
 refine Yf c1 ?_
 refine Yf c1 ?_
 refine Yf c1 ?_
 refine Yf c1 ?_
 refine Yy (cH rfl hh c1 hh) ?_
 refine Z7 ?_
 exact bR ((x19,x20,x21,x22,x23,x24,x25,x26,v10,v11,v12)) (Option.some.inj H).symm (Sc (Sc (Sc aX.nil))) rfl
 clear H;intro i hi;obtain⟨x1,x2,x3,x4,x5,x6,x7,x8,v4,v5,v6⟩:=i;subst o1;have H:=Hr1;clear Hr1;try dsimp only at H
 try dsimp only
 refine aF 2 rfl (fun hc_v4=>?_)
 refine aF 3 rfl (fun hc_v5=>?_)
 refine aF 4 rfl (fun hc_v6=>?_)
 refine Z4 ?_
 refine gN (ι:=Nat × Int × List ByteArray × List ScopeNode × List ScopeDef × Int × List Int × List Int × List Int × Bool × Value × Value × Value) (fun i=>kL (eS fuel) a1 a2 i.1 i.2.1 i.2.2.1 i.2.2.2.1 i.2.2.2.2.1 i.2.2.2.2.2.1 i.2.2.2.2.2.2.1 i.2.2.2.2.2.2.2.1 i.2.2.2.2.2.2.2.2.1 i.2.2.2.2.2.2.2.2.2.1=_) (fun i=>i.1) (fun i=>[(0,fEq (ptr p0)),(2,fI a2),(4,fEq (ptr b1)),(7,fI i.2.1)]) (fun i=>[aA b1 63 [fSl aS a1.Chans,fSl aY a1.Spots,fSl aZ a1.Rules],aA p0 135 [fSl aE i.2.2.1,fSl aG i.2.2.2.1,fSl aB i.2.2.2.2.1,fI i.2.2.2.2.2.1,fEq i.2.2.2.2.2.2.2.2.2.2.1,fEq i.2.2.2.2.2.2.2.2.2.2.2.1,fEq i.2.2.2.2.2.2.2.2.2.2.2.2,aJ i.2.2.2.2.2.2.2.2.2.1],aC i.2.2.2.2.2.2.2.2.2.2.1 3 tI i.2.2.2.2.2.2.1,aC i.2.2.2.2.2.2.2.2.2.2.2.1 3 tI i.2.2.2.2.2.2.2.1,aC i.2.2.2.2.2.2.2.2.2.2.2.2 3 tI i.2.2.2.2.2.2.2.2.1]) (fuel,0,x1,x2,x3,x4,x5,x6,x7,x8,v4,v5,v6) H (Sc (Sc (Sc (Sc aX.nil)))) rfl ?_
 clear H;rintro⟨k2,x36,x37,x38,x39,x40,x41,x42,x43,x44,v19,v20,v21⟩ H
 replace H:kL (eS fuel) a1 a2 k2 x36 x37 x38 x39 x40 x41 x42 x43 x44=_:=H
 try dsimp only
 obtain _ | k2:=k2
 rw [kL]at H;cases H
 rw [kL]at H
 refine aF 2 rfl (fun hc_v19=>?_)
 refine aF 3 rfl (fun hc_v20=>?_)
 refine aF 4 rfl (fun hc_v21=>?_)
 refine aI ?_
 refine Z7 ?_
 revert H;refine is (fun c3 H=>?_) fun c3 H=>?_
 refine Yg c3 (cG rfl hh) ?_
 refine Yg c3 (jP rfl (has rfl) (fun m v h=>⟨_,h⟩)) ?_
 refine Yg c3 (cA 7 rfl hh (fa rfl) rfl) ?_
 refine Yh 1 rfl c3 (bK rfl hh (sc rfl) rfl Ent.rfl) ?_
 refine Yg c3 (oS rfl hh) ?_
 refine Yy (dD rfl hh c3 hh) ?_
 refine Z1 ?_
 revert H;refine cs (fun c4 H=>?_) fun c4 H=>?_
 refine dJ hh (uC c4) ?_
 refine Z4 ?_
 refine bB ?_
 refine bB ?_
 refine bB ?_
 refine bB ?_
 refine fQ (x:=(⟨(⟨x37,x38,x39,x40⟩:ScopeProg),x41,x42,x43,x44⟩:Ref03_look)) ?_
 cases H
 refine aH [0] (by decide) ?_
 exact dC (.inr rfl) rfl rfl
 refine dO hh (uY c4) ?_
 refine Z2 ?_
 refine aI ?_
 refine Z6 ?_
 revert H;refine bs fun y5 h7 H=>?_
 refine Yy (dF rfl hh hh (el rfl) h7) ?_
 refine Z3 ?_
 refine bB ?_
 refine bB ?_
 refine bB ?_
 refine bB ?_
 refine fQ (x:=(⟨(⟨x37,x38,x39,x40⟩:ScopeProg),x41,x42,x43,x44⟩:Ref03_look)) ?_
 revert H;refine bs fun y6 h8 H=>?_
 refine jT trivial rfl rfl rfl hh (aL.cons hh (aL.cons hh (aL.cons hh aL.nil))) rfl (cb rfl) (ih_r03_look_node p0 (⟨(⟨x37,x38,x39,x40⟩:ScopeProg),x41,x42,x43,x44⟩:Ref03_look) y5.Node a2 y6 h8) rfl ?_
 refine sK (fun v22 v23 v24=>?_)
 refine aF 1 rfl (fun hc_v22=>?_)
 refine aF 2 rfl (fun hc_v23=>?_)
 refine aF 3 rfl (fun hc_v24=>?_)
 refine Z5 ?_
 revert H;refine bs fun z3 h9 H=>?_
 refine Yy (fN rfl hh hh h9) ?_
 refine Z2 ?_
 refine aH [4,0,1,2,3] (by decide) ?_
 exact bR ((k2,z3,y6.p.Free,y6.p.Nodes,y6.p.Defs,y6.p.Main,y6.sizes,y6.owner,y6.users,y6.bad,v22,v23,v24)) ⟨H,Nat.lt_succ_self _⟩ (Sc (Sc (Sc (Sc aX.nil)))) rfl
 refine Yf c3 ?_
 refine Yf c3 ?_
 refine Yf c3 ?_
 refine Yf c3 ?_
 refine Yf c3 ?_
 refine Yy (cH rfl hh c3 hh) ?_
 refine Z6 ?_
 refine bB ?_
 refine bB ?_
 refine bB ?_
 refine bB ?_
 refine fQ (x:=(⟨(⟨x37,x38,x39,x40⟩:ScopeProg),x41,x42,x43,x44⟩:Ref03_look)) ?_
 cases H
 refine aH [0] (by decide) ?_
 exact dC (.inr rfl) rfl rfl
theorem aH1 (fuel:Nat) (p0:Nat) (a0:Ref03_look) (a1:Int) (a2:Int) (r:Ref03_look) (H:eS fuel a0 a1 a2=some r):FnS Tryz.prog 104 [fEq (.pointer (some ⟨p0,0,none⟩)),fI a1,fI a2] [pL p0 a0] (dG []) (fun _=>[pL p0 r]):=(aIr fuel).1 p0 a0 a1 a2 r H
open Go.SX Go.SW Go.Dt
def iQ (fuel:Nat) (a0:ScopeProg):Nat → Int → Bool → Option (Bool)
| 0,_,_=>none
| k+1,x4,x5=>
 if x4<(a0.Free.length:Int)then
  (bif x5 then
   some true
  else
   (idx a0.Free x4).bind fun y1=>
   (sQ fuel y1).bind fun y2=>
   bif !y2 then
    some true
   else
    if 0<x4 then
     (idx a0.Free x4).bind fun y3=>
     (chk (x4 - 1)).bind fun z1=>
     (idx a0.Free z1).bind fun y4=>
     some (sle y3 y4)
    else
     some false).bind fun x6=>
  (chk (x4+1)).bind fun z2=>
  iQ fuel a0 k z2 x6
 else
  some x5
def kF (fuel:Nat) (a0:ScopeProg):Nat → Int → Bool → Option (Bool)
| 0,_,_=>none
| k+1,x10,x11=>
 if x10<(a0.Defs.length:Int)then
  (bif x11 then
   some true
  else
   (idx a0.Defs x10).bind fun y5=>
   (xL fuel y5).bind fun y6=>
   some (!y6)).bind fun x12=>
  (chk (x10+1)).bind fun z3=>
  kF fuel a0 k z3 x12
 else
  some x11
def jQ (y10:Ref03_look):Nat → Int → Bool → Option (Bool)
| 0,_,_=>none
| k+1,x16,x17=>
 if x16<(y10.owner.length:Int)then
  (bif x17 then
   some true
  else
   (idx y10.owner x16).bind fun y11=>
   some (decide (y11=0))).bind fun x18=>
  (chk (x16+1)).bind fun z4=>
  jQ y10 k z4 x18
 else
  some x17
def kD (y10:Ref03_look):Nat → Int → Bool → Option (Bool)
| 0,_,_=>none
| k+1,x22,x23=>
 if x22<(y10.users.length:Int)then
  (bif x23 then
   some true
  else
   (idx y10.users x22).bind fun y12=>
   some (decide (y12=0))).bind fun x24=>
  (chk (x22+1)).bind fun z5=>
  kD y10 k z5 x24
 else
  some x23
def wM (fuel:Nat) (a0:ScopeProg):Option (Ref03_look):=
 if 12<(a0.Free.length:Int)then
  some (⟨(⟨a0.Free,a0.Nodes,a0.Defs,a0.Main⟩:ScopeProg),[],[],[],true⟩:Ref03_look)
 else
  if 60<(a0.Nodes.length:Int)then
   some (⟨(⟨a0.Free,a0.Nodes,a0.Defs,a0.Main⟩:ScopeProg),[],[],[],true⟩:Ref03_look)
  else
   if 12<(a0.Defs.length:Int)then
    some (⟨(⟨a0.Free,a0.Nodes,a0.Defs,a0.Main⟩:ScopeProg),[],[],[],true⟩:Ref03_look)
   else
    (iQ fuel a0 fuel 0 false).bind fun x1=>
    (kF fuel a0 fuel 0 x1).bind fun x7=>
    (mk 0 (a0.Nodes.length:Int)).bind fun y7=>
    (mk 0 (a0.Nodes.length:Int)).bind fun y8=>
    (mk 0 (a0.Defs.length:Int)).bind fun y9=>
    bif x7 then
     some (⟨(⟨a0.Free,a0.Nodes,a0.Defs,a0.Main⟩:ScopeProg),y7,y8,y9,x7⟩:Ref03_look)
    else
     (eS fuel (⟨(⟨a0.Free,a0.Nodes,a0.Defs,a0.Main⟩:ScopeProg),y7,y8,y9,x7⟩:Ref03_look) a0.Main (a0.Free.length:Int)).bind fun y10=>
     (jQ y10 fuel 0 y10.bad).bind fun x13=>
     (kD y10 fuel 0 x13).bind fun x19=>
     some (⟨(⟨y10.p.Free,y10.p.Nodes,y10.p.Defs,y10.p.Main⟩:ScopeProg),y10.sizes,y10.owner,y10.users,x19⟩:Ref03_look)
theorem aHC (fuel:Nat)  (a0:ScopeProg) (r:Ref03_look) (H:wM fuel a0=some r):FnS Tryz.prog 59 [fSt fJ a0] [] (bG tP r) (fun _=>[]):=by
 unfold wM at H
 refine bS Tryz.func59 rfl Tryz.ntmps59 rfl (fun β=>?_)
 refine Z1 ?_
 refine lA trivial rfl rfl (cO rfl (has rfl) bW) (fun b1=>?_)
 refine Z4 ?_
 refine Yy (fU (ψs:=[fSl aE a0.Free,fSl aG a0.Nodes,fSl aB a0.Defs,fI a0.Main,fEq (.slice none 0 0),fEq (.slice none 0 0),fEq (.slice none 0 0),aJ false]) rfl aGx rfl (bH.cons (has rfl) bW bH.nil) rfl) ?_
 refine lA trivial rfl rfl (cO rfl (has rfl) bW) (fun b2=>?_)
 refine Z2 ?_
 refine aI ?_
 refine Z6 ?_
 revert H;refine is (fun c1 H=>?_) fun c1 H=>?_
 refine Yt c1 ?_
 refine Yt c1 ?_
 refine Yt c1 ?_
 refine Yt c1 ?_
 refine Yy (dD rfl hh c1 hh) ?_
 refine Z12 ?_
 refine cR (φs':=[fSl aE a0.Free,fSl aG a0.Nodes,fSl aB a0.Defs,fI a0.Main,fEq (.slice none 0 0),fEq (.slice none 0 0),fEq (.slice none 0 0),aJ true]) trivial rfl rfl (has rfl) (has rfl) (aD trivial) (sz rfl) rfl rfl ?_
 refine Z6 ?_
 refine cJ (φ:=bG tP (⟨(⟨a0.Free,a0.Nodes,a0.Defs,a0.Main⟩:ScopeProg),[],[],[],true⟩:Ref03_look)) (v:=ptr b2) [2,10,3,27,28,30] (kG (aP.cons Ent.rfl (aP.cons Ent.rfl (aP.cons Ent.rfl (aP.cons Ent.rfl (aP.cons gA (aP.cons gA (aP.cons gA (aP.cons Ent.rfl aP.nil))))))))) fz ?_
 refine cI ?_
 cases H
 refine aH [] (by decide) ?_
 exact dQ rfl (bA rfl) rfl
 refine Yg c1 (cA 1 rfl hh (fa rfl) rfl) ?_
 refine Yh 1 rfl c1 (bK rfl hh (sc rfl) rfl Ent.rfl) ?_
 refine Yg c1 (fS rfl hh (us rfl)) ?_
 refine Yg c1 (gP rfl hh hh) ?_
 refine Yy (cH rfl hh c1 hh) ?_
 refine Z1 ?_
 revert H;refine is (fun c2 H=>?_) fun c2 H=>?_
 refine Yt c2 ?_
 refine Yt c2 ?_
 refine Yt c2 ?_
 refine Yt c2 ?_
 refine Yy (dD rfl hh c2 hh) ?_
 refine Z6 ?_
 refine cR (φs':=[fSl aE a0.Free,fSl aG a0.Nodes,fSl aB a0.Defs,fI a0.Main,fEq (.slice none 0 0),fEq (.slice none 0 0),fEq (.slice none 0 0),aJ true]) trivial rfl rfl (has rfl) (has rfl) (aD trivial) (sz rfl) rfl rfl ?_
 refine Z6 ?_
 refine cJ (φ:=bG tP (⟨(⟨a0.Free,a0.Nodes,a0.Defs,a0.Main⟩:ScopeProg),[],[],[],true⟩:Ref03_look)) (v:=ptr b2) [2,10,3,27,28,30] (kG (aP.cons Ent.rfl (aP.cons Ent.rfl (aP.cons Ent.rfl (aP.cons Ent.rfl (aP.cons gA (aP.cons gA (aP.cons gA (aP.cons Ent.rfl aP.nil))))))))) fz ?_
 refine cI ?_
 cases H
 refine aH [] (by decide) ?_
 exact dQ rfl (bA rfl) rfl
 refine Yg c2 (cA 2 rfl hh (fa rfl) rfl) ?_
 refine Yh 1 rfl c2 (bK rfl hh (sc rfl) rfl Ent.rfl) ?_
 refine Yg c2 (fS rfl hh (us rfl)) ?_
 refine Yg c2 (gP rfl hh hh) ?_
 refine Yy (cH rfl hh c2 hh) ?_
 refine Z1 ?_
 revert H;refine is (fun c3 H=>?_) fun c3 H=>?_
 refine dO hh c3 ?_
 refine Z4 ?_
 refine cR (φs':=[fSl aE a0.Free,fSl aG a0.Nodes,fSl aB a0.Defs,fI a0.Main,fEq (.slice none 0 0),fEq (.slice none 0 0),fEq (.slice none 0 0),aJ true]) trivial rfl rfl (has rfl) (has rfl) (aD trivial) (sz rfl) rfl rfl ?_
 refine Z6 ?_
 refine cJ (φ:=bG tP (⟨(⟨a0.Free,a0.Nodes,a0.Defs,a0.Main⟩:ScopeProg),[],[],[],true⟩:Ref03_look)) (v:=ptr b2) [2,10,3,27,28,30] (kG (aP.cons Ent.rfl (aP.cons Ent.rfl (aP.cons Ent.rfl (aP.cons Ent.rfl (aP.cons gA (aP.cons gA (aP.cons gA (aP.cons Ent.rfl aP.nil))))))))) fz ?_
 refine cI ?_
 cases H
 refine aH [] (by decide) ?_
 exact dQ rfl (bA rfl) rfl
 refine dJ hh c3 ?_
 refine Z2 ?_
 revert H;refine bs fun o1 H Hr1=>?_
 refine aO (ι:=Bool) (fun i=>o1=i) (fun i=>[(1,fEq (ptr b1)),(3,fEq (ptr b2))]) (fun i=>[aA b2 135 [fSl aE a0.Free,fSl aG a0.Nodes,fSl aB a0.Defs,fI a0.Main,fEq (.slice none 0 0),fEq (.slice none 0 0),fEq (.slice none 0 0),aJ i],aA b1 37 [fSl aE a0.Free,fSl aG a0.Nodes,fSl aB a0.Defs,fI a0.Main]]) ?_ ?_
 refine Z4 ?_
 refine gN (ι:=Nat × Int × Bool) (fun i=>iQ fuel a0 i.1 i.2.1 i.2.2=_) (fun i=>i.1) (fun i=>[(1,fEq (ptr b1)),(3,fEq (ptr b2)),(4,fI i.2.1)]) (fun i=>[aA b2 135 [fSl aE a0.Free,fSl aG a0.Nodes,fSl aB a0.Defs,fI a0.Main,fEq (.slice none 0 0),fEq (.slice none 0 0),fEq (.slice none 0 0),aJ i.2.2],aA b1 37 [fSl aE a0.Free,fSl aG a0.Nodes,fSl aB a0.Defs,fI a0.Main]]) (fuel,0,false) H (Sc (Sc (Sc aX.nil))) rfl ?_
 clear H;rintro⟨k1,x4,x5⟩ H
 replace H:iQ fuel a0 k1 x4 x5=_:=H
 try dsimp only
 obtain _ | k1:=k1
 rw [iQ]at H;cases H
 rw [iQ]at H
 refine aI ?_
 refine Z7 ?_
 revert H;refine is (fun c4 H=>?_) fun c4 H=>?_
 refine dO hh c4 ?_
 refine Z2 ?_
 revert H;refine bs fun o2 H Hr2=>?_
 refine aO (ι:=Bool) (fun i=>o2=i) (fun i=>[(1,fEq (ptr b1)),(3,fEq (ptr b2)),(4,fI x4)]) (fun i=>[aA b2 135 [fSl aE a0.Free,fSl aG a0.Nodes,fSl aB a0.Defs,fI a0.Main,fEq (.slice none 0 0),fEq (.slice none 0 0),fEq (.slice none 0 0),aJ i],aA b1 37 [fSl aE a0.Free,fSl aG a0.Nodes,fSl aB a0.Defs,fI a0.Main]]) ?_ ?_
 refine Z1 ?_
 revert H;refine cs (fun c5 H=>?_) fun c5 H=>?_
 apply bE (ods:=[_,_,_,_,_,_,_,_,_,_,_,_,_,_,_,_,_,_,_,_,_,_,_,_,_,_,_,_,_,_,_,_,_,_,_]) 35 0 2 bD rfl rfl rfl
 refine ND ?_
 refine M6 ?_
 intros
 refine Mt c5 fun _=>?_
 refine Mt c5 fun _=>?_
 refine Mt c5 fun _=>?_
 refine Mt c5 fun _=>?_
 refine Mt c5 fun _=>?_
 refine Mt c5 fun _=>?_
 refine Mt c5 fun _=>?_
 refine My (dD rfl hh c5 hh) fun _=>?_
 refine M4 ?_
 intros
 refine eO (od:=odS) rfl (⟨_,_,_,_,rfl,rfl,rfl,nu⟩) rfl (fun _=>?_)
 refine eO (od:=odS) rfl (⟨_,_,_,_,rfl,rfl,rfl,nu⟩) rfl (fun _=>?_)
 refine eO (od:=odS) rfl (⟨_,_,_,_,rfl,rfl,rfl,nu⟩) rfl (fun _=>?_)
 refine eO (od:=odS) rfl (⟨_,_,_,_,rfl,rfl,rfl,nu⟩) rfl (fun _=>?_)
 refine eO (od:=odS) rfl (⟨_,_,_,_,rfl,rfl,rfl,nu⟩) rfl (fun _=>?_)
 refine eO (od:=odS) rfl (⟨_,_,_,_,rfl,rfl,rfl,nu⟩) rfl (fun _=>?_)
 refine eO (od:=odS) rfl (⟨_,_,_,_,rfl,rfl,rfl,nu⟩) rfl (fun _=>?_)
 refine eO (od:=odS) rfl (⟨_,_,_,_,rfl,rfl,rfl,nu⟩) rfl (fun _=>?_)
 refine eO (od:=odS) rfl (⟨_,_,_,_,rfl,rfl,rfl,nu⟩) rfl (fun _=>?_)
 refine eO (od:=odS) rfl (⟨_,_,_,_,rfl,rfl,rfl,nu⟩) rfl (fun _=>?_)
 refine eO (od:=odS) rfl (⟨_,_,_,_,rfl,rfl,rfl,nu⟩) rfl (fun _=>?_)
 refine eO (od:=odS) rfl (⟨_,_,_,_,rfl,rfl,rfl,nu⟩) rfl (fun _=>?_)
 refine M4 ?_
 intros
 refine qY (od:=odC [0] true (dN) [aA b2 135 [fSl aE a0.Free,fSl aG a0.Nodes,fSl aB a0.Defs,fI a0.Main,fEq (.slice none 0 0),fEq (.slice none 0 0),fEq (.slice none 0 0),aJ true]]) (p:=0) (φs':=[fSl aE a0.Free,fSl aG a0.Nodes,fSl aB a0.Defs,fI a0.Main,fEq (.slice none 0 0),fEq (.slice none 0 0),fEq (.slice none 0 0),aJ true]) rfl (fun _=>rfl) (fun _=>rfl) trivial rfl rfl rfl (has rfl) (has rfl) (aD trivial) (sz rfl) rfl rfl (fun _=>?_)
 refine Z4 ?_
 exact bR (true) (Option.some.inj H).symm (Sc (Sc (Sc aX.nil))) rfl
 exact fk
 kernel_rfl
 revert H;refine bs fun y1 h1 H=>?_
 revert H;refine bs fun y2 h2 H=>?_
 revert H;refine cs (fun c6 H=>?_) fun c6 H=>?_
 apply bE (ods:=[_,_,_,_,_,_,_,_,_,_,_,_,_,_,_,_,_,_,_,_,_,_,_,_,_,_,_,_,_,_,_,_,_,_,_]) 35 0 2 bD rfl rfl rfl
 refine ND ?_
 refine M6 ?_
 intros
 refine Mg c5 (cA 0 rfl hh (fa rfl) rfl) fun _=>?_
 refine dX (od:=odC [1] false (fSl aE a0.Free) [cX]) (ps:=[1]) (φ:=fSl aE a0.Free) rfl (fun _=>rfl) ⟨_,_,rfl,rfl,c5⟩ rfl rfl (bK rfl hh (sc rfl) rfl Ent.rfl) (fun _=>?_)
 refine Mg c5 (cG rfl hh) fun _=>?_
 refine Mg c5 (dF rfl hh hh (el rfl) h1) fun _=>?_
 refine Mg c5 (gW rfl hh (sc rfl) rfl) fun _=>?_
 refine mP (od:=odC [] true (aJ y2) []) (Φ:=aJ y2) rfl (fun _=>rfl) ⟨_,_,rfl,rfl,c5⟩ rfl rfl (has rfl) (aL.cons (has rfl) aL.nil) rfl (cb rfl) (aBp fuel y1 y2 h2) (fun _=>?_)
 refine Mg c5 (oS rfl hh) fun _=>?_
 refine My (cH rfl hh c5 hh) fun _=>?_
 refine M1 ?_
 intros
 refine Mt c6 fun _=>?_
 refine Mt c6 fun _=>?_
 refine Mt c6 fun _=>?_
 refine eO (od:=odS) rfl (⟨_,_,_,_,rfl,rfl,rfl,nu⟩) rfl (fun _=>?_)
 refine eO (od:=odS) rfl (⟨_,_,_,_,rfl,rfl,rfl,nu⟩) rfl (fun _=>?_)
 refine eO (od:=odS) rfl (⟨_,_,_,_,rfl,rfl,rfl,nu⟩) rfl (fun _=>?_)
 refine eO (od:=odS) rfl (⟨_,_,_,_,rfl,rfl,rfl,nu⟩) rfl (fun _=>?_)
 refine eO (od:=odS) rfl (⟨_,_,_,_,rfl,rfl,rfl,nu⟩) rfl (fun _=>?_)
 refine eO (od:=odS) rfl (⟨_,_,_,_,rfl,rfl,rfl,nu⟩) rfl (fun _=>?_)
 refine eO (od:=odS) rfl (⟨_,_,_,_,rfl,rfl,rfl,nu⟩) rfl (fun _=>?_)
 refine eO (od:=odS) rfl (⟨_,_,_,_,rfl,rfl,rfl,nu⟩) rfl (fun _=>?_)
 refine eO (od:=odS) rfl (⟨_,_,_,_,rfl,rfl,rfl,nu⟩) rfl (fun _=>?_)
 refine eO (od:=odS) rfl (⟨_,_,_,_,rfl,rfl,rfl,nu⟩) rfl (fun _=>?_)
 refine eO (od:=odS) rfl (⟨_,_,_,_,rfl,rfl,rfl,nu⟩) rfl (fun _=>?_)
 refine eO (od:=odS) rfl (⟨_,_,_,_,rfl,rfl,rfl,nu⟩) rfl (fun _=>?_)
 refine Mt c6 fun _=>?_
 refine My (dD rfl hh c6 hh) fun _=>?_
 refine M2 ?_
 intros
 refine qY (od:=odC [0] true (dN) [aA b2 135 [fSl aE a0.Free,fSl aG a0.Nodes,fSl aB a0.Defs,fI a0.Main,fEq (.slice none 0 0),fEq (.slice none 0 0),fEq (.slice none 0 0),aJ true]]) (p:=0) (φs':=[fSl aE a0.Free,fSl aG a0.Nodes,fSl aB a0.Defs,fI a0.Main,fEq (.slice none 0 0),fEq (.slice none 0 0),fEq (.slice none 0 0),aJ true]) rfl (fun _=>rfl) (fun _=>rfl) trivial rfl rfl rfl (has rfl) (has rfl) (aD trivial) (sz rfl) rfl rfl (fun _=>?_)
 refine Z4 ?_
 exact bR (true) (Option.some.inj H).symm (Sc (Sc (Sc aX.nil))) rfl
 exact fk
 kernel_rfl
 revert H;refine is (fun c7 H=>?_) fun c7 H=>?_
 revert H;refine bs fun y3 h3 H=>?_
 revert H;refine bs fun z1 h4 H=>?_
 revert H;refine bs fun y4 h5 H=>?_
 apply bE (ods:=[_,_,_,_,_,_,_,_,_,_,_,_,_,_,_,_,_,_,_,_,_,_,_,_,_,_,_,_,_,_,_,_,_,_,_]) 35 0 2 bD rfl rfl rfl
 refine ND ?_
 refine M6 ?_
 intros
 refine Mg c5 (cA 0 rfl hh (fa rfl) rfl) fun _=>?_
 refine dX (od:=odC [1] false (fSl aE a0.Free) [cX]) (ps:=[1]) (φ:=fSl aE a0.Free) rfl (fun _=>rfl) ⟨_,_,rfl,rfl,c5⟩ rfl rfl (bK rfl hh (sc rfl) rfl Ent.rfl) (fun _=>?_)
 refine Mg c5 (cG rfl hh) fun _=>?_
 refine Mg c5 (dF rfl hh hh (el rfl) h1) fun _=>?_
 refine Mg c5 (gW rfl hh (sc rfl) rfl) fun _=>?_
 refine mP (od:=odC [] true (aJ y2) []) (Φ:=aJ y2) rfl (fun _=>rfl) ⟨_,_,rfl,rfl,c5⟩ rfl rfl (has rfl) (aL.cons (has rfl) aL.nil) rfl (cb rfl) (aBp fuel y1 y2 h2) (fun _=>?_)
 refine Mg c5 (oS rfl hh) fun _=>?_
 refine My (cH rfl hh c5 hh) fun _=>?_
 refine M1 ?_
 intros
 refine Mg c6 (cG rfl hh) fun _=>?_
 refine Mg c6 (gP rfl hh hh) fun _=>?_
 refine Mg c6 (cG rfl hh) fun _=>?_
 refine Mg c7 (cA 0 rfl hh (fa rfl) rfl) fun _=>?_
 refine dX (od:=odC [1] false (fSl aE a0.Free) [cX]) (ps:=[1]) (φ:=fSl aE a0.Free) rfl (fun _=>rfl) ⟨_,_,rfl,rfl,c7⟩ rfl rfl (bK rfl hh (sc rfl) rfl Ent.rfl) (fun _=>?_)
 refine Mg c7 (cG rfl hh) fun _=>?_
 refine Mg c7 (dF rfl hh hh (el rfl) h3) fun _=>?_
 refine Mg c7 (gW rfl hh (sc rfl) rfl) fun _=>?_
 refine Mg c7 (cA 0 rfl hh (fa rfl) rfl) fun _=>?_
 refine dX (od:=odC [1] false (fSl aE a0.Free) [cX]) (ps:=[1]) (φ:=fSl aE a0.Free) rfl (fun _=>rfl) ⟨_,_,rfl,rfl,c7⟩ rfl rfl (bK rfl hh (sc rfl) rfl Ent.rfl) (fun _=>?_)
 refine Mg c7 (cG rfl hh) fun _=>?_
 refine Mg c7 (o_sub rfl hh hh h4) fun _=>?_
 refine Mg c7 (dF rfl hh hh (el rfl) h5) fun _=>?_
 refine Mg c7 (gW rfl hh (sc rfl) rfl) fun _=>?_
 refine Mg c7 (o_leqS rfl hh hh) fun _=>?_
 refine Mg c6 (dD rfl hh c7 hh) fun _=>?_
 refine My (cH rfl hh c6 hh) fun _=>?_
 refine M2 ?_
 intros
 refine qY (od:=odC [0] true (dN) [aA b2 135 [fSl aE a0.Free,fSl aG a0.Nodes,fSl aB a0.Defs,fI a0.Main,fEq (.slice none 0 0),fEq (.slice none 0 0),fEq (.slice none 0 0),aJ (sle y3 y4)]]) (p:=0) (φs':=[fSl aE a0.Free,fSl aG a0.Nodes,fSl aB a0.Defs,fI a0.Main,fEq (.slice none 0 0),fEq (.slice none 0 0),fEq (.slice none 0 0),aJ (sle y3 y4)]) rfl (fun _=>rfl) (fun _=>rfl) trivial rfl rfl rfl (has rfl) (has rfl) (aD trivial) (sz rfl) rfl rfl (fun _=>?_)
 refine Z4 ?_
 exact bR (sle y3 y4) (Option.some.inj H).symm (Sc (Sc (Sc aX.nil))) rfl
 exact fk
 kernel_rfl
 apply bE (ods:=[_,_,_,_,_,_,_,_,_,_,_,_,_,_,_,_,_,_,_,_,_,_,_,_,_,_,_,_,_,_,_,_,_,_,_]) 35 0 2 bD rfl rfl rfl
 refine ND ?_
 refine M6 ?_
 intros
 refine Mg c5 (cA 0 rfl hh (fa rfl) rfl) fun _=>?_
 refine dX (od:=odC [1] false (fSl aE a0.Free) [cX]) (ps:=[1]) (φ:=fSl aE a0.Free) rfl (fun _=>rfl) ⟨_,_,rfl,rfl,c5⟩ rfl rfl (bK rfl hh (sc rfl) rfl Ent.rfl) (fun _=>?_)
 refine Mg c5 (cG rfl hh) fun _=>?_
 refine Mg c5 (dF rfl hh hh (el rfl) h1) fun _=>?_
 refine Mg c5 (gW rfl hh (sc rfl) rfl) fun _=>?_
 refine mP (od:=odC [] true (aJ y2) []) (Φ:=aJ y2) rfl (fun _=>rfl) ⟨_,_,rfl,rfl,c5⟩ rfl rfl (has rfl) (aL.cons (has rfl) aL.nil) rfl (cb rfl) (aBp fuel y1 y2 h2) (fun _=>?_)
 refine Mg c5 (oS rfl hh) fun _=>?_
 refine My (cH rfl hh c5 hh) fun _=>?_
 refine M1 ?_
 intros
 refine Mg c6 (cG rfl hh) fun _=>?_
 refine Mg c6 (gP rfl hh hh) fun _=>?_
 refine Mg c6 (cG rfl hh) fun _=>?_
 refine Mz c7 fun _=>?_
 refine Mz c7 fun _=>?_
 refine Mz c7 fun _=>?_
 refine Mz c7 fun _=>?_
 refine Mz c7 fun _=>?_
 refine Mz c7 fun _=>?_
 refine Mz c7 fun _=>?_
 refine Mz c7 fun _=>?_
 refine Mz c7 fun _=>?_
 refine Mz c7 fun _=>?_
 refine Mz c7 fun _=>?_
 refine Mz c7 fun _=>?_
 refine Mg c6 (cH rfl hh c7 hh) fun _=>?_
 refine My (cH rfl hh c6 hh) fun _=>?_
 refine M2 ?_
 intros
 refine qY (od:=odC [0] true (dN) [aA b2 135 [fSl aE a0.Free,fSl aG a0.Nodes,fSl aB a0.Defs,fI a0.Main,fEq (.slice none 0 0),fEq (.slice none 0 0),fEq (.slice none 0 0),aJ false]]) (p:=0) (φs':=[fSl aE a0.Free,fSl aG a0.Nodes,fSl aB a0.Defs,fI a0.Main,fEq (.slice none 0 0),fEq (.slice none 0 0),fEq (.slice none 0 0),aJ false]) rfl (fun _=>rfl) (fun _=>rfl) trivial rfl rfl rfl (has rfl) (has rfl) (aD trivial) (sz rfl) rfl rfl (fun _=>?_)
 refine Z4 ?_
 exact bR (false) (Option.some.inj H).symm (Sc (Sc (Sc aX.nil))) rfl
 exact fk
 kernel_rfl
 clear H;intro x6 hi;subst o2;have H:=Hr2;clear Hr2;try dsimp only at H
 try dsimp only
 refine Z2 ?_
 revert H;refine bs fun z2 h6 H=>?_
 refine Yy (fN rfl hh hh h6) ?_
 refine Z2 ?_
 exact bR ((k1,z2,x6)) ⟨H,Nat.lt_succ_self _⟩ (Sc (Sc (Sc aX.nil))) rfl
 refine dJ hh c4 ?_
 refine Z5 ?_
 exact bR (x5) (Option.some.inj H).symm (Sc (Sc aX.nil)) rfl
 clear H;intro x1 hi;subst o1;have H:=Hr1;clear Hr1;try dsimp only at H
 try dsimp only
 revert H;refine bs fun o3 H Hr3=>?_
 refine aO (ι:=Bool) (fun i=>o3=i) (fun i=>[(1,fEq (ptr b1)),(3,fEq (ptr b2))]) (fun i=>[aA b2 135 [fSl aE a0.Free,fSl aG a0.Nodes,fSl aB a0.Defs,fI a0.Main,fEq (.slice none 0 0),fEq (.slice none 0 0),fEq (.slice none 0 0),aJ i],aA b1 37 [fSl aE a0.Free,fSl aG a0.Nodes,fSl aB a0.Defs,fI a0.Main]]) ?_ ?_
 refine Z4 ?_
 refine gN (ι:=Nat × Int × Bool) (fun i=>kF fuel a0 i.1 i.2.1 i.2.2=_) (fun i=>i.1) (fun i=>[(1,fEq (ptr b1)),(3,fEq (ptr b2)),(5,fI i.2.1)]) (fun i=>[aA b2 135 [fSl aE a0.Free,fSl aG a0.Nodes,fSl aB a0.Defs,fI a0.Main,fEq (.slice none 0 0),fEq (.slice none 0 0),fEq (.slice none 0 0),aJ i.2.2],aA b1 37 [fSl aE a0.Free,fSl aG a0.Nodes,fSl aB a0.Defs,fI a0.Main]]) (fuel,0,x1) H (Sc (Sc (Sc aX.nil))) rfl ?_
 clear H;rintro⟨k2,x10,x11⟩ H
 replace H:kF fuel a0 k2 x10 x11=_:=H
 try dsimp only
 obtain _ | k2:=k2
 rw [kF]at H;cases H
 rw [kF]at H
 refine aI ?_
 refine Z7 ?_
 revert H;refine is (fun c8 H=>?_) fun c8 H=>?_
 refine dO hh c8 ?_
 refine Z2 ?_
 revert H;refine bs fun o4 H Hr4=>?_
 refine aO (ι:=Bool) (fun i=>o4=i) (fun i=>[(1,fEq (ptr b1)),(3,fEq (ptr b2)),(5,fI x10)]) (fun i=>[aA b2 135 [fSl aE a0.Free,fSl aG a0.Nodes,fSl aB a0.Defs,fI a0.Main,fEq (.slice none 0 0),fEq (.slice none 0 0),fEq (.slice none 0 0),aJ i],aA b1 37 [fSl aE a0.Free,fSl aG a0.Nodes,fSl aB a0.Defs,fI a0.Main]]) ?_ ?_
 refine Z8 ?_
 revert H;refine cs (fun c9 H=>?_) fun c9 H=>?_
 refine Yt c9 ?_
 refine Yt c9 ?_
 refine Yt c9 ?_
 refine Yt c9 ?_
 refine Yt c9 ?_
 refine Yt c9 ?_
 refine Yt c9 ?_
 refine Yy (dD rfl hh c9 hh) ?_
 refine Z2 ?_
 refine cR (φs':=[fSl aE a0.Free,fSl aG a0.Nodes,fSl aB a0.Defs,fI a0.Main,fEq (.slice none 0 0),fEq (.slice none 0 0),fEq (.slice none 0 0),aJ true]) trivial rfl rfl (has rfl) (has rfl) (aD trivial) (sz rfl) rfl rfl ?_
 refine Z3 ?_
 exact bR (true) (Option.some.inj H).symm (Sc (Sc (Sc aX.nil))) rfl
 refine Yg c9 (cA 2 rfl hh (fa rfl) rfl) ?_
 refine Yh 1 rfl c9 (bK rfl hh (sc rfl) rfl Ent.rfl) ?_
 refine Yg c9 (cG rfl hh) ?_
 revert H;refine bs fun y5 h7 H=>?_
 refine Yg c9 (dF rfl hh hh (el rfl) h7) ?_
 refine Yg c9 (aAW rfl hh (ag rfl)) ?_
 revert H;refine bs fun y6 h8 H=>?_
 refine jT ⟨_,_,rfl,rfl,c9⟩ rfl rfl rfl hh (aL.cons hh aL.nil) rfl (cb rfl) (aGi fuel y5 y6 h8) rfl ?_
 refine Yg c9 (oS rfl hh) ?_
 refine Yy (cH rfl hh c9 hh) ?_
 refine Z2 ?_
 refine cR (φs':=[fSl aE a0.Free,fSl aG a0.Nodes,fSl aB a0.Defs,fI a0.Main,fEq (.slice none 0 0),fEq (.slice none 0 0),fEq (.slice none 0 0),aJ (!y6)]) trivial rfl rfl (has rfl) (has rfl) (aD trivial) (sz rfl) rfl rfl ?_
 refine Z3 ?_
 exact bR (!y6) (Option.some.inj H).symm (Sc (Sc (Sc aX.nil))) rfl
 clear H;intro x12 hi;subst o4;have H:=Hr4;clear Hr4;try dsimp only at H
 try dsimp only
 refine Z2 ?_
 revert H;refine bs fun z3 h9 H=>?_
 refine Yy (fN rfl hh hh h9) ?_
 refine Z2 ?_
 exact bR ((k2,z3,x12)) ⟨H,Nat.lt_succ_self _⟩ (Sc (Sc (Sc aX.nil))) rfl
 refine dJ hh c8 ?_
 refine Z5 ?_
 exact bR (x11) (Option.some.inj H).symm (Sc (Sc aX.nil)) rfl
 clear H;intro x7 hi;subst o3;have H:=Hr3;clear Hr3;try dsimp only at H
 try dsimp only
 refine aI ?_
 revert H;refine bs fun y7 h10 H=>?_
 revert H;refine bs fun y8 h11 H=>?_
 revert H;refine bs fun y9 h12 H=>?_
 apply bE (ods:=[_,_,_,_,_,_,_,_,_,_,_,_,_,_,_,_,_,_,_,_,_,_,_,_]) 24 3 5 bD rfl rfl rfl
 refine ND ?_
 refine M6 ?_
 intros
 refine Mn 2 (fun b3=> .slice (some ⟨b3,0,none⟩) y7.length y7.length) (fun b3=>aC (.slice (some ⟨b3,0,none⟩) y7.length y7.length) 3 tI y7) rfl (nW (t:=tI) (z:=0) rfl (has rfl) (et rfl) rfl sD rfl h10) (fun b3 u1=>?_)
 refine M3 ?_
 intros
 refine Mn 3 (fun b4=> .slice (some ⟨b4,0,none⟩) y8.length y8.length) (fun b4=>aC (.slice (some ⟨b4,0,none⟩) y8.length y8.length) 3 tI y8) rfl (nW (t:=tI) (z:=0) rfl (has rfl) (et rfl) rfl sD rfl h11) (fun b4 u2=>?_)
 refine M3 ?_
 intros
 refine Mn 4 (fun b5=> .slice (some ⟨b5,0,none⟩) y9.length y9.length) (fun b5=>aC (.slice (some ⟨b5,0,none⟩) y9.length y9.length) 3 tI y9) rfl (nW (t:=tI) (z:=0) rfl (has rfl) (et rfl) rfl sD rfl h12) (fun b5 u3=>?_)
 refine M2 ?_
 intros
 refine qY (od:=od1 6 [0] true (fun b3 _=>dN) (fun b3 _=>[aA b2 135 [fSl aE a0.Free,fSl aG a0.Nodes,fSl aB a0.Defs,fI a0.Main,fEq (.slice (some ⟨b3,0,none⟩) y7.length y7.length),fEq (.slice none 0 0),fEq (.slice none 0 0),aJ x7]])) (p:=0) (φs':=[fSl aE a0.Free,fSl aG a0.Nodes,fSl aB a0.Defs,fI a0.Main,fEq (.slice (some ⟨b3,0,none⟩) y7.length y7.length),fEq (.slice none 0 0),fEq (.slice none 0 0),aJ x7]) rfl (fun _=>rfl) (fun _=>rfl) trivial rfl rfl rfl (has rfl) (has rfl) (aD trivial) (sz rfl) rfl rfl (fun _=>?_)
 refine M2 ?_
 intros
 refine qY (od:=od2 6 10 [0] true (fun b3 _ b4 _=>dN) (fun b3 _ b4 _=>[aA b2 135 [fSl aE a0.Free,fSl aG a0.Nodes,fSl aB a0.Defs,fI a0.Main,fEq (.slice (some ⟨b3,0,none⟩) y7.length y7.length),fEq (.slice (some ⟨b4,0,none⟩) y8.length y8.length),fEq (.slice none 0 0),aJ x7]])) (p:=0) (φs':=[fSl aE a0.Free,fSl aG a0.Nodes,fSl aB a0.Defs,fI a0.Main,fEq (.slice (some ⟨b3,0,none⟩) y7.length y7.length),fEq (.slice (some ⟨b4,0,none⟩) y8.length y8.length),fEq (.slice none 0 0),aJ x7]) rfl (fun _=>rfl) (fun _=>rfl) trivial rfl rfl rfl (has rfl) (has rfl) (aD trivial) (sz rfl) rfl rfl (fun _=>?_)
 refine M2 ?_
 intros
 refine qY (od:=od3 6 10 14 [0] true (fun b3 _ b4 _ b5 _=>dN) (fun b3 _ b4 _ b5 _=>[aA b2 135 [fSl aE a0.Free,fSl aG a0.Nodes,fSl aB a0.Defs,fI a0.Main,fEq (.slice (some ⟨b3,0,none⟩) y7.length y7.length),fEq (.slice (some ⟨b4,0,none⟩) y8.length y8.length),fEq (.slice (some ⟨b5,0,none⟩) y9.length y9.length),aJ x7]])) (p:=0) (φs':=[fSl aE a0.Free,fSl aG a0.Nodes,fSl aB a0.Defs,fI a0.Main,fEq (.slice (some ⟨b3,0,none⟩) y7.length y7.length),fEq (.slice (some ⟨b4,0,none⟩) y8.length y8.length),fEq (.slice (some ⟨b5,0,none⟩) y9.length y9.length),aJ x7]) rfl (fun _=>rfl) (fun _=>rfl) trivial rfl rfl rfl (has rfl) (has rfl) (aD trivial) (sz rfl) rfl rfl (fun _=>?_)
 refine Z1 ?_
 generalize (Value.slice (some ⟨b3,0,none⟩) _ _)=v1
 refine aF 2 rfl (fun hc_v1=>?_)
 generalize (Value.slice (some ⟨b4,0,none⟩) _ _)=v2
 refine aF 3 rfl (fun hc_v2=>?_)
 generalize (Value.slice (some ⟨b5,0,none⟩) _ _)=v3
 refine aF 4 rfl (fun hc_v3=>?_)
 refine Z1 ?_
 refine aI ?_
 refine Z6 ?_
 revert H;refine cs (fun c10 H=>?_) fun c10 H=>?_
 refine dO hh c10 ?_
 refine Z5 ?_
 refine aM ?_
 refine cJ (φ:=fSl tI y7) (v:=v1) [101] cW fz ?_
 refine fD (φs':=[fSl aE a0.Free,fSl aG a0.Nodes,fSl aB a0.Defs,fI a0.Main,fSl tI y7,fEq v2,fEq v3,aJ x7]) (i:=4) rfl rfl ?_
 refine cI ?_
 refine aM ?_
 refine cJ (φ:=fSl tI y8) (v:=v2) [105] cW fz ?_
 refine fD (φs':=[fSl aE a0.Free,fSl aG a0.Nodes,fSl aB a0.Defs,fI a0.Main,fSl tI y7,fSl tI y8,fEq v3,aJ x7]) (i:=5) rfl rfl ?_
 refine cI ?_
 refine aM ?_
 refine cJ (φ:=fSl tI y9) (v:=v3) [109] cW fz ?_
 refine fD (φs':=[fSl aE a0.Free,fSl aG a0.Nodes,fSl aB a0.Defs,fI a0.Main,fSl tI y7,fSl tI y8,fSl tI y9,aJ x7]) (i:=6) rfl rfl ?_
 refine cI ?_
 refine cJ (φ:=bG tP (⟨(⟨a0.Free,a0.Nodes,a0.Defs,a0.Main⟩:ScopeProg),y7,y8,y9,x7⟩:Ref03_look)) (v:=ptr b2) [3,95,96,97,110,112,114,116,117,120,2] (kG aP.rfl) fz ?_
 refine cI ?_
 cases H
 refine aH [] (by decide) ?_
 exact dQ rfl (bA rfl) rfl
 refine dJ hh c10 ?_
 refine Z9 ?_
 refine bB ?_
 refine bB ?_
 refine bB ?_
 refine bO ?_
 refine fQ (x:=(⟨(⟨a0.Free,a0.Nodes,a0.Defs,a0.Main⟩:ScopeProg),y7,y8,y9,x7⟩:Ref03_look)) ?_
 revert H;refine bs fun y10 h13 H=>?_
 refine jT trivial rfl rfl rfl hh (aL.cons hh (aL.cons hh (aL.cons hh aL.nil))) rfl (cb rfl) (aH1 fuel b2 (⟨(⟨a0.Free,a0.Nodes,a0.Defs,a0.Main⟩:ScopeProg),y7,y8,y9,x7⟩:Ref03_look) a0.Main (a0.Free.length:Int) y10 h13) rfl ?_
 refine sK (fun v4 v5 v6=>?_)
 refine aF 1 rfl (fun hc_v4=>?_)
 refine aF 2 rfl (fun hc_v5=>?_)
 refine aF 3 rfl (fun hc_v6=>?_)
 refine Z1 ?_
 revert H;refine bs fun o5 H Hr5=>?_
 refine aO (ι:=Bool) (fun i=>o5=i) (fun i=>[(3,fEq (ptr b2))]) (fun i=>[aA b2 135 [fSl aE y10.p.Free,fSl aG y10.p.Nodes,fSl aB y10.p.Defs,fI y10.p.Main,fEq v4,fEq v5,fEq v6,aJ i],aA b1 37 [fSl aE a0.Free,fSl aG a0.Nodes,fSl aB a0.Defs,fI a0.Main],aC v4 3 tI y10.sizes,aC v5 3 tI y10.owner,aC v6 3 tI y10.users]) ?_ ?_
 refine Z4 ?_
 refine aH [0,4,1,2,3] (by decide) ?_
 refine gN (ι:=Nat × Int × Bool) (fun i=>jQ y10 i.1 i.2.1 i.2.2=_) (fun i=>i.1) (fun i=>[(3,fEq (ptr b2)),(6,fI i.2.1)]) (fun i=>[aA b2 135 [fSl aE y10.p.Free,fSl aG y10.p.Nodes,fSl aB y10.p.Defs,fI y10.p.Main,fEq v4,fEq v5,fEq v6,aJ i.2.2],aA b1 37 [fSl aE a0.Free,fSl aG a0.Nodes,fSl aB a0.Defs,fI a0.Main],aC v4 3 tI y10.sizes,aC v5 3 tI y10.owner,aC v6 3 tI y10.users]) (fuel,0,y10.bad) H (Sc (Sc aX.nil)) rfl ?_
 clear H;rintro⟨k3,x16,x17⟩ H
 replace H:jQ y10 k3 x16 x17=_:=H
 try dsimp only
 obtain _ | k3:=k3
 rw [jQ]at H;cases H
 rw [jQ]at H
 refine aI ?_
 refine Z9 ?_
 revert H;refine is (fun c11 H=>?_) fun c11 H=>?_
 refine dO hh c11 ?_
 refine Z2 ?_
 revert H;refine bs fun o6 H Hr6=>?_
 refine aO (ι:=Bool) (fun i=>o6=i) (fun i=>[(3,fEq (ptr b2)),(6,fI x16)]) (fun i=>[aA b2 135 [fSl aE y10.p.Free,fSl aG y10.p.Nodes,fSl aB y10.p.Defs,fI y10.p.Main,fEq v4,fEq v5,fEq v6,aJ i],aA b1 37 [fSl aE a0.Free,fSl aG a0.Nodes,fSl aB a0.Defs,fI a0.Main],aC v4 3 tI y10.sizes,aC v5 3 tI y10.owner,aC v6 3 tI y10.users]) ?_ ?_
 refine Z8 ?_
 revert H;refine cs (fun c12 H=>?_) fun c12 H=>?_
 refine Yt c12 ?_
 refine Yt c12 ?_
 refine Yt c12 ?_
 refine Yt c12 ?_
 refine Yt c12 ?_
 refine Yt c12 ?_
 refine Yt c12 ?_
 refine Yt c12 ?_
 refine Yy (dD rfl hh c12 hh) ?_
 refine Z2 ?_
 refine cR (φs':=[fSl aE y10.p.Free,fSl aG y10.p.Nodes,fSl aB y10.p.Defs,fI y10.p.Main,fEq v4,fEq v5,fEq v6,aJ true]) trivial rfl rfl (has rfl) (has rfl) (aD trivial) (sz rfl) rfl rfl ?_
 refine Z3 ?_
 exact bR (true) (Option.some.inj H).symm (Sc (Sc aX.nil)) rfl
 refine Yg c12 (cG rfl hh) ?_
 refine Yg c12 (jP rfl (has rfl) (fun m v h=>⟨_,h⟩)) ?_
 refine Yg c12 (cA 5 rfl hh (fa rfl) rfl) ?_
 refine Yh 0 rfl c12 (bK rfl hh (sc rfl) rfl Ent.rfl) ?_
 refine Yg c12 (cG rfl hh) ?_
 revert H;refine bs fun y11 h14 H=>?_
 refine Yh 3 rfl c12 (jG rfl hh hh (el rfl) h14) ?_
 refine Yh 3 rfl c12 (fZ rfl rfl hh (sc rfl) (cB h14) rfl) ?_
 refine Yg c12 (o_eql rfl hh hh) ?_
 refine Yy (cH rfl hh c12 hh) ?_
 refine Z2 ?_
 refine cR (φs':=[fSl aE y10.p.Free,fSl aG y10.p.Nodes,fSl aB y10.p.Defs,fI y10.p.Main,fEq v4,fEq v5,fEq v6,aJ (decide (y11=0))]) trivial rfl rfl (has rfl) (has rfl) (aD trivial) (sz rfl) rfl rfl ?_
 refine Z3 ?_
 exact bR (decide (y11=0)) (Option.some.inj H).symm (Sc (Sc aX.nil)) rfl
 clear H;intro x18 hi;subst o6;have H:=Hr6;clear Hr6;try dsimp only at H
 try dsimp only
 refine Z2 ?_
 revert H;refine bs fun z4 h15 H=>?_
 refine Yy (fN rfl hh hh h15) ?_
 refine Z2 ?_
 exact bR ((k3,z4,x18)) ⟨H,Nat.lt_succ_self _⟩ (Sc (Sc aX.nil)) rfl
 refine dJ hh c11 ?_
 refine Z5 ?_
 exact bR (x17) (Option.some.inj H).symm (Sc aX.nil) rfl
 clear H;intro x13 hi;subst o5;have H:=Hr5;clear Hr5;try dsimp only at H
 try dsimp only
 revert H;refine bs fun o7 H Hr7=>?_
 refine aO (ι:=Bool) (fun i=>o7=i) (fun i=>[(3,fEq (ptr b2))]) (fun i=>[aA b2 135 [fSl aE y10.p.Free,fSl aG y10.p.Nodes,fSl aB y10.p.Defs,fI y10.p.Main,fEq v4,fEq v5,fEq v6,aJ i],aA b1 37 [fSl aE a0.Free,fSl aG a0.Nodes,fSl aB a0.Defs,fI a0.Main],aC v4 3 tI y10.sizes,aC v5 3 tI y10.owner,aC v6 3 tI y10.users]) ?_ ?_
 refine Z4 ?_
 refine gN (ι:=Nat × Int × Bool) (fun i=>kD y10 i.1 i.2.1 i.2.2=_) (fun i=>i.1) (fun i=>[(3,fEq (ptr b2)),(7,fI i.2.1)]) (fun i=>[aA b2 135 [fSl aE y10.p.Free,fSl aG y10.p.Nodes,fSl aB y10.p.Defs,fI y10.p.Main,fEq v4,fEq v5,fEq v6,aJ i.2.2],aA b1 37 [fSl aE a0.Free,fSl aG a0.Nodes,fSl aB a0.Defs,fI a0.Main],aC v4 3 tI y10.sizes,aC v5 3 tI y10.owner,aC v6 3 tI y10.users]) (fuel,0,x13) H (Sc (Sc aX.nil)) rfl ?_
 clear H;rintro⟨k4,x22,x23⟩ H
 replace H:kD y10 k4 x22 x23=_:=H
 try dsimp only
 obtain _ | k4:=k4
 rw [kD]at H;cases H
 rw [kD]at H
 refine aI ?_
 refine Z9 ?_
 revert H;refine is (fun c13 H=>?_) fun c13 H=>?_
 refine dO hh c13 ?_
 refine Z2 ?_
 revert H;refine bs fun o8 H Hr8=>?_
 refine aO (ι:=Bool) (fun i=>o8=i) (fun i=>[(3,fEq (ptr b2)),(7,fI x22)]) (fun i=>[aA b2 135 [fSl aE y10.p.Free,fSl aG y10.p.Nodes,fSl aB y10.p.Defs,fI y10.p.Main,fEq v4,fEq v5,fEq v6,aJ i],aA b1 37 [fSl aE a0.Free,fSl aG a0.Nodes,fSl aB a0.Defs,fI a0.Main],aC v4 3 tI y10.sizes,aC v5 3 tI y10.owner,aC v6 3 tI y10.users]) ?_ ?_
 refine Z8 ?_
 revert H;refine cs (fun c14 H=>?_) fun c14 H=>?_
 refine Yt c14 ?_
 refine Yt c14 ?_
 refine Yt c14 ?_
 refine Yt c14 ?_
 refine Yt c14 ?_
 refine Yt c14 ?_
 refine Yt c14 ?_
 refine Yt c14 ?_
 refine Yy (dD rfl hh c14 hh) ?_
 refine Z2 ?_
 refine cR (φs':=[fSl aE y10.p.Free,fSl aG y10.p.Nodes,fSl aB y10.p.Defs,fI y10.p.Main,fEq v4,fEq v5,fEq v6,aJ true]) trivial rfl rfl (has rfl) (has rfl) (aD trivial) (sz rfl) rfl rfl ?_
 refine Z3 ?_
 exact bR (true) (Option.some.inj H).symm (Sc (Sc aX.nil)) rfl
 refine Yg c14 (cG rfl hh) ?_
 refine Yg c14 (jP rfl (has rfl) (fun m v h=>⟨_,h⟩)) ?_
 refine Yg c14 (cA 6 rfl hh (fa rfl) rfl) ?_
 refine Yh 0 rfl c14 (bK rfl hh (sc rfl) rfl Ent.rfl) ?_
 refine Yg c14 (cG rfl hh) ?_
 revert H;refine bs fun y12 h16 H=>?_
 refine Yh 4 rfl c14 (jG rfl hh hh (el rfl) h16) ?_
 refine Yh 4 rfl c14 (fZ rfl rfl hh (sc rfl) (cB h16) rfl) ?_
 refine Yg c14 (o_eql rfl hh hh) ?_
 refine Yy (cH rfl hh c14 hh) ?_
 refine Z2 ?_
 refine cR (φs':=[fSl aE y10.p.Free,fSl aG y10.p.Nodes,fSl aB y10.p.Defs,fI y10.p.Main,fEq v4,fEq v5,fEq v6,aJ (decide (y12=0))]) trivial rfl rfl (has rfl) (has rfl) (aD trivial) (sz rfl) rfl rfl ?_
 refine Z3 ?_
 exact bR (decide (y12=0)) (Option.some.inj H).symm (Sc (Sc aX.nil)) rfl
 clear H;intro x24 hi;subst o8;have H:=Hr8;clear Hr8;try dsimp only at H
 try dsimp only
 refine Z2 ?_
 revert H;refine bs fun z5 h17 H=>?_
 refine Yy (fN rfl hh hh h17) ?_
 refine Z2 ?_
 exact bR ((k4,z5,x24)) ⟨H,Nat.lt_succ_self _⟩ (Sc (Sc aX.nil)) rfl
 refine dJ hh c13 ?_
 refine Z5 ?_
 exact bR (x23) (Option.some.inj H).symm (Sc aX.nil) rfl
 clear H;intro x19 hi;subst o7;have H:=Hr7;clear Hr7;try dsimp only at H
 try dsimp only
 refine Z5 ?_
 refine aM ?_
 refine cJ (φ:=fSl tI y10.sizes) (v:=v4) [] cW (fun _ h=>nomatch h) ?_
 refine fD (φs':=[fSl aE y10.p.Free,fSl aG y10.p.Nodes,fSl aB y10.p.Defs,fI y10.p.Main,fSl tI y10.sizes,fEq v5,fEq v6,aJ x19]) (i:=4) rfl rfl ?_
 refine cI ?_
 refine aM ?_
 refine cJ (φ:=fSl tI y10.owner) (v:=v5) [] cW (fun _ h=>nomatch h) ?_
 refine fD (φs':=[fSl aE y10.p.Free,fSl aG y10.p.Nodes,fSl aB y10.p.Defs,fI y10.p.Main,fSl tI y10.sizes,fSl tI y10.owner,fEq v6,aJ x19]) (i:=5) rfl rfl ?_
 refine cI ?_
 refine aM ?_
 refine cJ (φ:=fSl tI y10.users) (v:=v6) [] cW (fun _ h=>nomatch h) ?_
 refine fD (φs':=[fSl aE y10.p.Free,fSl aG y10.p.Nodes,fSl aB y10.p.Defs,fI y10.p.Main,fSl tI y10.sizes,fSl tI y10.owner,fSl tI y10.users,aJ x19]) (i:=6) rfl rfl ?_
 refine cI ?_
 refine cJ (φ:=bG tP (⟨(⟨y10.p.Free,y10.p.Nodes,y10.p.Defs,y10.p.Main⟩:ScopeProg),y10.sizes,y10.owner,y10.users,x19⟩:Ref03_look)) (v:=ptr b2) [3,180,2] (kG aP.rfl) fz ?_
 refine cI ?_
 cases H
 refine aH [] (by decide) ?_
 exact dQ rfl (bA rfl) rfl
 exact fk
 kernel_rfl
def sY (fuel:Nat) (a0:ScopeProg):Option ((List Int) × Int):=
 (wM fuel (⟨a0.Free,a0.Nodes,a0.Defs,a0.Main⟩:ScopeProg)).bind fun y1=>
 bif y1.bad then
  some ([],2)
 else
  some (y1.sizes,0)
theorem aHW (fuel:Nat)  (a0:ScopeProg) (r:(List Int) × Int) (H:sY fuel a0=some r):FnS Tryz.prog 42 [fSt fJ a0] [] (dG [fSl tI r.1,fI r.2]) (fun _=>[]):=by
 unfold sY at H
 refine bS Tryz.func42 rfl Tryz.ntmps42 rfl (fun β=>?_)
 refine Z1 ?_
 refine Tn (cO rfl hh bW) fun b1=>?_
 revert H;refine B5 fun y1 h1 H=>?_
 refine Tc (aHC _ _ _ h1) ?_
 refine Z2 ?_
 refine aI ?_
 refine Z6 ?_
 revert H;refine cs (fun c1 H=>?_) fun c1 H=>?_
 refine Z6 ?_
 cases H
 refine aH [] (by decide) ?_
 exact kA rfl (jV rfl gA) (bA rfl) rfl
 refine Z12 ?_
 cases H
 refine aH [] (by decide) ?_
 exact kA rfl (bA rfl) (bA rfl) rfl
def oI (a0:List ScopeDef) (x5:Int):Nat → Int → (List ScopeRule) → Option (List ScopeRule)
| 0,_,_=>none
| k+1,x10,x11=>
 (idx a0 x5).bind fun y3=>
 if x10<(y3.Rules.length:Int)then
  (idx a0 x5).bind fun y4=>
  (idx y4.Rules x10).bind fun y5=>
  (dP ([]++y5.Joins)).bind fun z3=>
  (dP (x11++[(⟨y5.At,z3,y5.Node⟩:ScopeRule)])).bind fun z4=>
  (chk (x10+1)).bind fun z5=>
  oI a0 x5 k z5 z4
 else
  some x11
def oC (fuel:Nat) (a0:List ScopeDef):Nat → (List ScopeDef) → Int → Option (List ScopeDef)
| 0,_,_=>none
| k+1,x4,x5=>
 if x5<(a0.length:Int)then
  ((idx a0 x5).bind fun y1=>
  (dP ([]++y1.Chans)).bind fun z1=>
  (idx a0 x5).bind fun y2=>
  (dP ([]++y2.Spots)).bind fun z2=>
  (oI a0 x5 fuel 0 []).bind fun x7=>
  (dP (x4++([(⟨z1,z2,x7⟩:ScopeDef)]:List ScopeDef))).bind fun z6=>
  some z6).bind fun x6=>
  (chk (x5+1)).bind fun z7=>
  oC fuel a0 k x6 z7
 else
  some x4
def aAD (fuel:Nat) (a0:List ScopeDef):Option (List ScopeDef):=
 (oC fuel a0 fuel [] 0).bind fun x1=>
 some x1
theorem aGG (fuel:Nat)  (a0:List ScopeDef) (r:List ScopeDef) (H:aAD fuel a0=some r):FnS Tryz.prog 43 [fSl aB a0] [] dN (fun v=>[(fun v=>eI v 63 eM r) v]):=by
 unfold aAD at H
 refine bS Tryz.func43 rfl Tryz.ntmps43 rfl (fun β=>?_)
 refine Z6 ?_
 revert H;refine bs fun o1 H Hr1=>?_
 refine aO (ι:=List ScopeDef × Value) (fun i=>o1=i.1) (fun i=>[(3,fEq i.2)]) (fun i=>[eI i.2 63 eM i.1]) ?_ ?_
 refine Z4 ?_
 refine aGw eM 63 ?_
 refine gN (ι:=Nat × List ScopeDef × Int × Value) (fun i=>oC fuel a0 i.1 i.2.1 i.2.2.1=_) (fun i=>i.1) (fun i=>[(0,fSl aB a0),(3,fEq i.2.2.2),(4,fI i.2.2.1)]) (fun i=>[eI i.2.2.2 63 eM i.2.1]) (fuel,[],0,(.slice none 0 0)) H (Sc (Sc (Sc aX.nil))) rfl ?_
 clear H;rintro⟨k1,x4,x5,v3⟩ H
 replace H:oC fuel a0 k1 x4 x5=_:=H
 try dsimp only
 obtain _ | k1:=k1
 rw [oC]at H;cases H
 rw [oC]at H
 refine tR 0 rfl (fun hc_v3=>?_)
 refine aI ?_
 refine Z6 ?_
 revert H;refine is (fun c1 H=>?_) fun c1 H=>?_
 refine dO hh c1 ?_
 refine Z2 ?_
 revert H;refine bs fun o2 H Hr2=>?_
 refine aO (ι:=List ScopeDef × Value) (fun i=>o2=i.1) (fun i=>[(0,fSl aB a0),(4,fI x5),(3,fEq i.2)]) (fun i=>[eI i.2 63 eM i.1]) ?_ ?_
 refine Z1 ?_
 refine aI ?_
 refine hO aS 110 ?_
 refine hO aY 112 ?_
 revert H;refine bs fun y1 h1 H=>?_
 revert H;refine bs fun z1 h2 H=>?_
 revert H;refine bs fun y2 h3 H=>?_
 revert H;refine bs fun z2 h4 H=>?_
 apply bE (ods:=[_,_,_,_,_,_,_,_,_,_,_,_,_,_,_]) 15 1 4 bD rfl rfl rfl
 refine ND ?_
 refine M2 ?_
 intros
 refine My (dF rfl hh hh (el rfl) h1) fun _=>?_
 refine M2 ?_
 intros
 refine N_appR (od:=odN [1] true (fun _ v5=>eC v5) (fun _ v5=>[aC v5 110 aS z1])) (p:=1) rfl (fun _=>rfl) (fun _=>rfl) trivial rfl rfl rfl (has rfl) (has rfl) (et rfl) rfl h2 (fun u1 v5=>?_)
 refine M2 ?_
 intros
 refine My (dF rfl hh hh (el rfl) h3) fun _=>?_
 refine M2 ?_
 intros
 refine N_appR (od:=odN [0] true (fun _ v6=>eC v6) (fun _ v6=>[aC v6 112 aY z2])) (p:=0) rfl (fun _=>rfl) (fun _=>rfl) trivial rfl rfl rfl (has rfl) (has rfl) (et rfl) rfl h4 (fun u2 v6=>?_)
 refine D2 5 11 _ v5 _ v6 (fun _ v5 _ v6=>eY [eC v5,eC v6,fEq (.slice none 0 0)]) rfl rfl (fU (ψs:=[eC v5,eC v6,fEq (.slice none 0 0)]) rfl aFn rfl (bH.cons (has rfl) (cC (pS)) (bH.cons (has rfl) (cC (pS)) bH.nil)) rfl) (fun _=>?_)
 refine Mn 3 (fun b1=>ptr b1) (fun b1=>aA b1 63 [fEq (.slice none 0 0),fEq (.slice none 0 0),fEq (.slice none 0 0)]) rfl (cV rfl vR rfl) (fun b1 u3=>?_)
 refine tN (od:=od3 5 11 13 [3] true (fun _ v5 _ v6 b1 _=>dN) (fun _ v5 _ v6 b1 _=>[aA b1 63 [eC v5,eC v6,fEq (.slice none 0 0)]])) (p:=3) (φs':=[eC v5,eC v6,fEq (.slice none 0 0)]) rfl (fun _=>rfl) (fun _=>rfl) trivial rfl rfl rfl (has rfl) (has rfl) (aK (pS) (aK (pS) (aK (aD trivial) bY))) (sz rfl) rfl rfl rfl (fun _=>?_)
 refine Z1 ?_
 refine mW 19 rfl fH ?_
 refine mW 25 rfl fH ?_
 refine mW 26 rfl (aAN (aP.cons fH (aP.cons fH (aP.cons Ent.rfl aP.nil)))) ?_
 refine aF 1 rfl (fun hc_v5=>?_)
 refine aF 0 rfl (fun hc_v6=>?_)
 refine bO ?_
 refine aAX (aP.cons fH (aP.cons fH (aP.cons Ent.rfl aP.nil))) ?_
 refine Z1 ?_
 revert H;refine bs fun o3 H Hr3=>?_
 refine aO (ι:=List ScopeRule × Value) (fun i=>o3=i.1) (fun i=>[(0,fSl aB a0),(3,fEq v3),(4,fI x5),(5,fEq (ptr b1))]) (fun i=>[aA b1 63 [fEq v5,fEq v6,fEq i.2],eI v3 63 eM x4,aC v5 110 aS z1,aC v6 112 aY z2,aC i.2 114 aZ i.1]) ?_ ?_
 refine Z4 ?_
 refine hO aZ 114 ?_
 refine aH [1,4,3,2,0] (by decide) ?_
 refine gN (ι:=Nat × Int × List ScopeRule × Value) (fun i=>oI a0 x5 i.1 i.2.1 i.2.2.1=_) (fun i=>i.1) (fun i=>[(0,fSl aB a0),(3,fEq v3),(4,fI x5),(5,fEq (ptr b1)),(6,fI i.2.1)]) (fun i=>[aA b1 63 [fEq v5,fEq v6,fEq i.2.2.2],eI v3 63 eM x4,aC v5 110 aS z1,aC v6 112 aY z2,aC i.2.2.2 114 aZ i.2.2.1]) (fuel,0,[],(.slice none 0 0)) H (Sc (Sc (Sc (Sc (Sc aX.nil))))) rfl ?_
 clear H;rintro⟨k2,x10,x11,v9⟩ H
 replace H:oI a0 x5 k2 x10 x11=_:=H
 try dsimp only
 obtain _ | k2:=k2
 rw [oI]at H;cases H
 rw [oI]at H
 refine aF 4 rfl (fun hc_v9=>?_)
 refine aI ?_
 refine Z4 ?_
 revert H;refine bs fun y3 h5 H=>?_
 refine Yy (dF rfl hh hh (el rfl) h5) ?_
 refine Z5 ?_
 revert H;refine is (fun c2 H=>?_) fun c2 H=>?_
 refine dO hh c2 ?_
 refine Z2 ?_
 refine aI ?_
 refine Z4 ?_
 revert H;refine bs fun y4 h6 H=>?_
 refine Yy (dF rfl hh hh (el rfl) h6) ?_
 refine Z3 ?_
 revert H;refine bs fun y5 h7 H=>?_
 refine Yy (dF rfl hh hh (el rfl) h7) ?_
 refine Z1 ?_
 refine lA trivial rfl rfl (cV rfl pY rfl) (fun b2=>?_)
 refine dR (φs':=[fI y5.At,fSl tI y5.Joins,fI y5.Node]) trivial rfl rfl (has rfl) (has rfl) (aK (aD trivial) (aK (bU) (aK (aD trivial) bY))) (sz rfl) rfl rfl rfl ?_
 refine Z4 ?_
 refine hO tI 3 ?_
 revert H;refine bs fun z3 h8 H=>?_
 refine rH (ys:=y5.Joins) trivial rfl rfl rfl (has rfl) (has rfl) (et rfl) rfl h8 (fun v10=>?_)
 refine aF 0 rfl (fun hc_v10=>?_)
 refine Z1 ?_
 refine bZ ?_
 refine cR (φs':=[fI y5.At,fEq v10,fI y5.Node]) trivial rfl rfl (has rfl) (has rfl) (aD hc_v10) (sz rfl) rfl rfl ?_
 refine Z5 ?_
 refine bZ ?_
 refine cJ (φ:=fSl tI z3) (v:=v10) [47] cW fz ?_
 refine fD (φs':=[fI y5.At,fSl tI z3,fI y5.Node]) (i:=1) rfl rfl ?_
 refine sB 51 (ψ:=eY [fI y5.At,fEq v10,fI y5.Node]) rfl (rE (i:=1) (φs:=[fI y5.At,fEq v10,fI y5.Node]) (φs':=[fI y5.At,fSl tI z3,fI y5.Node]) rfl rfl) ?_
 refine cI ?_
 refine lA trivial rfl rfl (fV (t:=aZ) (xs:=[(⟨y5.At,z3,y5.Node⟩:ScopeRule)]) rfl (et rfl) (bT.cons rfl (has rfl) bW bT.nil) rfl rfl rfl) (fun b3=>?_)
 generalize (Value.slice (some ⟨b3,0,none⟩) _ _)=v11
 refine aF 0 rfl (fun hc_v11=>?_)
 revert H;refine bs fun z4 h9 H=>?_
 refine oN ?_
 refine bZ ?_
 refine kH trivial rfl rfl rfl (has rfl) (has rfl) (et rfl) rfl h9 (fun v12=>?_)
 refine aF 0 rfl (fun hc_v12=>?_)
 refine Z1 ?_
 refine aM ?_
 refine cR (φs':=[fEq v5,fEq v6,fEq v12]) trivial rfl rfl (has rfl) (has rfl) (aD hc_v12) (sz rfl) rfl rfl ?_
 refine Z5 ?_
 revert H;refine bs fun z5 h10 H=>?_
 refine Yy (fN rfl hh hh h10) ?_
 refine Z2 ?_
 refine aH [0,3,4,5,1] (by decide) ?_
 exact bR ((k2,z5,z4,v12)) ⟨H,Nat.lt_succ_self _⟩ (Sc (Sc (Sc (Sc (Sc aX.nil))))) rfl
 refine dJ hh c2 ?_
 refine Z5 ?_
 exact bR ((x11,v9)) (Option.some.inj H).symm (Sc (Sc (Sc (Sc aX.nil)))) rfl
 clear H;intro i hi;obtain⟨x7,v7⟩:=i;subst o3;have H:=Hr3;clear Hr3;try dsimp only at H
 try dsimp only
 refine aF 4 rfl (fun hc_v7=>?_)
 refine Z3 ?_
 refine lA trivial rfl rfl (fV (t:=tF 3) (xs:=[[⟨fEq v5,aD hc_v5⟩,⟨fEq v6,aD hc_v6⟩,⟨fEq v7,aD hc_v7⟩]]) rfl (et rfl) (bT.cons rfl (has rfl) bW bT.nil) rfl rfl rfl) (fun b4=>?_)
 generalize (Value.slice (some ⟨b4,0,none⟩) _ _)=v13
 refine T_toG ?_
 refine bO ?_
 refine aCe (p:=0) (f:=(fun v=>aC v 110 aS z1)) (hf:=(fun _=>jA)) rfl Ent.rfl ?_
 refine bO ?_
 refine aCe (p:=1) (f:=(fun v=>aC v 112 aY z2)) (hf:=(fun _=>jA)) rfl Ent.rfl ?_
 refine bO ?_
 refine aCe (p:=2) (f:=(fun v=>aC v 114 aZ x7)) (hf:=(fun _=>jA)) rfl Ent.rfl ?_
 refine T_asD (o:=eM) (xs:=([(⟨z1,z2,x7⟩:ScopeDef)]:List ScopeDef)) rfl rfl rfl ?_
 refine tR 0 rfl (fun hc_v13=>?_)
 revert H;refine bs fun z6 h11 H=>?_
 refine aM ?_
 refine bZ ?_
 refine aIf (q:=eM) trivial rfl rfl rfl (has rfl) (has rfl) (et rfl) rfl h11 (fun v14=>?_)
 refine tR 0 rfl (fun hc_v14=>?_)
 refine Z4 ?_
 refine aH [0] (by decide) ?_
 exact bR ((z6,v14)) (Option.some.inj H).symm (Sc (Sc (Sc aX.nil))) rfl
 exact fk
 kernel_rfl
 clear H;intro i hi;obtain⟨x6,v4⟩:=i;subst o2;have H:=Hr2;clear Hr2;try dsimp only at H
 try dsimp only
 refine tR 0 rfl (fun hc_v4=>?_)
 refine Z2 ?_
 revert H;refine bs fun z7 h12 H=>?_
 refine Yy (fN rfl hh hh h12) ?_
 refine Z2 ?_
 exact bR ((k1,x6,z7,v4)) ⟨H,Nat.lt_succ_self _⟩ (Sc (Sc (Sc aX.nil))) rfl
 refine dJ hh c1 ?_
 refine Z5 ?_
 exact bR ((x4,v3)) (Option.some.inj H).symm (Sc aX.nil) rfl
 clear H;intro i hi;obtain⟨x1,v1⟩:=i;subst o1;have H:=Hr1;clear Hr1;try dsimp only at H
 try dsimp only
 refine tR 0 rfl (fun hc_v1=>?_)
 refine Z5 ?_
 cases H
 exact aAG rfl (bA rfl) (fun _ _ _=>trivial) rfl
open Go.SX Go.SW Go.Dt
def oX (a0:ScopeProg) (x5:Int):Nat → (List Bool) → Int → Option (List Bool)
| 0,_,_=>none
| k+1,x10,x11=>
 (idx a0.Defs x5).bind fun y3=>
 if x11<(y3.Rules.length:Int)then
  (idx a0.Defs x5).bind fun y4=>
  (idx y4.Rules x11).bind fun y5=>
  (idx x10 y5.Node).bind fun y6=>
  (chk (x11+1)).bind fun z1=>
  oX a0 x5 k (x10.set y5.Node.toNat true) z1
 else
  some x10
def nP (a0:ScopeProg) (x5:Int):Nat → (List Bool) → Int → Option (List Bool)
| 0,_,_=>none
| k+1,x14,x15=>
 (idx a0.Defs x5).bind fun y7=>
 if x15<(y7.Spots.length:Int)then
  (idx a0.Defs x5).bind fun y8=>
  (idx y8.Spots x15).bind fun y9=>
  (idx x14 y9.Node).bind fun y10=>
  (chk (x15+1)).bind fun z2=>
  nP a0 x5 k (x14.set y9.Node.toNat true) z2
 else
  some x14
def nS (fuel:Nat) (a0:ScopeProg):Nat → (List Bool) → Int → Option (List Bool)
| 0,_,_=>none
| k+1,x4,x5=>
 if x5<(a0.Defs.length:Int)then
  ((oX a0 x5 fuel x4 0).bind fun x7=>
  nP a0 x5 fuel x7 0).bind fun x6=>
  (chk (x5+1)).bind fun z3=>
  nS fuel a0 k x6 z3
 else
  some x4
def nD (a0:ScopeProg):Nat → (List Bool) → Int → Option (List Bool)
| 0,_,_=>none
| k+1,x19,x20=>
 if x20<(a0.Nodes.length:Int)then
  ((idx a0.Nodes x20).bind fun y11=>
  if y11.Op=6 then
   (idx a0.Nodes x20).bind fun y12=>
   (idx y12.Kids 0).bind fun y13=>
   (idx x19 y13).bind fun y14=>
   some (x19.set y13.toNat true)
  else
   (idx a0.Nodes x20).bind fun y15=>
   if y15.Op=8 then
    (idx a0.Nodes x20).bind fun y16=>
    (idx y16.Kids 0).bind fun y17=>
    (idx x19 y17).bind fun y18=>
    some (x19.set y17.toNat true)
   else
    some x19).bind fun x21=>
  (chk (x20+1)).bind fun z4=>
  nD a0 k x21 z4
 else
  some x19
def nN (x16:List Bool):Nat → (List Int) → Int → Option (List Int)
| 0,_,_=>none
| k+1,x25,x26=>
 if x26<(x16.length:Int)then
  ((idx x16 x26).bind fun y19=>
  bif y19 then
   (dP (x25++[x26])).bind fun z5=>
   some z5
  else
   some x25).bind fun x27=>
  (chk (x26+1)).bind fun z6=>
  nN x16 k x27 z6
 else
  some x25
def wA (fuel:Nat) (a0:ScopeProg):Option (List Int):=
 (mk false (a0.Nodes.length:Int)).bind fun y1=>
 (idx y1 a0.Main).bind fun y2=>
 (nS fuel a0 fuel (y1.set a0.Main.toNat true) 0).bind fun x1=>
 (nD a0 fuel x1 0).bind fun x16=>
 (nN x16 fuel [] 0).bind fun x22=>
 some x22
theorem aId (fuel:Nat)  (a0:ScopeProg) (r:List Int) (H:wA fuel a0=some r):FnS Tryz.prog 44 [fSt fJ a0] [] (fSl tI r) (fun _=>[]):=by
 unfold wA at H
 refine bS Tryz.func44 rfl Tryz.ntmps44 rfl (fun β=>?_)
 refine Z1 ?_
 refine Tn (cO rfl hh bW) fun b1=>?_
 revert H;refine B6 fun y1 h1 H=>?_
 refine Tn (nW (t:=bF) (z:=false) rfl hh (et rfl) rfl aAm rfl h1) fun b2=>?_
 generalize (Value.slice (some ⟨b2,0,none⟩) _ _)=v1
 refine aF 0 rfl (fun hc_v1=>?_)
 revert H;refine B6 fun y2 h2 H=>?_
 refine Z1 ?_
 refine oT (z':=true) trivial rfl rfl rfl (has rfl) (has rfl) (aD trivial) (sz rfl) (cB h2) rfl rfl ?_
 revert H;refine B1 fun o1 H Hr1=>?_
 refine aO (ι:=List Bool) (fun i=>o1=i) (fun i=>[(1,fEq (ptr b1)),(3,fEq v1)]) (fun i=>[aA b1 37 [fSl aE a0.Free,fSl aG a0.Nodes,fSl aB a0.Defs,fI a0.Main],aC v1 4 bF i]) ?_ ?_
 refine Z4 ?_
 refine aH [1,0] (by decide) ?_
 refine Tl (ι:=Nat × List Bool × Int) (fun i=>nS fuel a0 i.1 i.2.1 i.2.2=_) (fun i=>i.1) (fun i=>[(1,fEq (ptr b1)),(3,fEq v1),(4,fI i.2.2)]) (fun i=>[aA b1 37 [fSl aE a0.Free,fSl aG a0.Nodes,fSl aB a0.Defs,fI a0.Main],aC v1 4 bF i.2.1]) (fuel,y1.set a0.Main.toNat true,0) H ?_
 clear H;rintro⟨k1,x4,x5⟩ H
 replace H:nS fuel a0 k1 x4 x5=_:=H
 try dsimp only
 obtain _ | k1:=k1
 rw [nS]at H;cases H
 rw [nS]at H
 refine aI ?_
 revert H;refine I7 (fun c1 H=>?_) fun c1 H=>?_
 revert H;refine B3 fun o2 H Hr2=>?_
 refine aO (ι:=List Bool) (fun i=>o2=i) (fun i=>[(1,fEq (ptr b1)),(3,fEq v1),(4,fI x5)]) (fun i=>[aA b1 37 [fSl aE a0.Free,fSl aG a0.Nodes,fSl aB a0.Defs,fI a0.Main],aC v1 4 bF i]) ?_ ?_
 revert H;refine B1 fun o3 H Hr3=>?_
 refine aO (ι:=List Bool) (fun i=>o3=i) (fun i=>[(1,fEq (ptr b1)),(3,fEq v1),(4,fI x5)]) (fun i=>[aA b1 37 [fSl aE a0.Free,fSl aG a0.Nodes,fSl aB a0.Defs,fI a0.Main],aC v1 4 bF i]) ?_ ?_
 refine Z4 ?_
 refine Tl (ι:=Nat × List Bool × Int) (fun i=>oX a0 x5 i.1 i.2.1 i.2.2=_) (fun i=>i.1) (fun i=>[(1,fEq (ptr b1)),(3,fEq v1),(4,fI x5),(5,fI i.2.2)]) (fun i=>[aA b1 37 [fSl aE a0.Free,fSl aG a0.Nodes,fSl aB a0.Defs,fI a0.Main],aC v1 4 bF i.2.1]) (fuel,x4,0) H ?_
 clear H;rintro⟨k2,x10,x11⟩ H
 replace H:oX a0 x5 k2 x10 x11=_:=H
 try dsimp only
 obtain _ | k2:=k2
 rw [oX]at H;cases H
 rw [oX]at H
 refine aI ?_
 revert H;refine B5 fun y3 h3 H=>?_
 revert H;refine I6 (fun c2 H=>?_) fun c2 H=>?_
 refine Z3 ?_
 refine aI ?_
 revert H;refine B6 fun y4 h4 H=>?_
 revert H;refine B4 fun y5 h5 H=>?_
 revert H;refine B3 fun y6 h6 H=>?_
 refine Z1 ?_
 refine bZ ?_
 refine oT (z':=true) trivial rfl rfl rfl (has rfl) (has rfl) (aD trivial) (sz rfl) (cB h6) rfl rfl ?_
 revert H;refine B5 fun z1 h7 H=>?_
 refine Z3 ?_
 refine aH [1,0] (by decide) ?_
 exact Tm ((k2,x10.set y5.Node.toNat true,z1)) ⟨H,ls⟩
 refine Z6 ?_
 exact Tm (x10) (ij H)
 clear H;intro x7 hi;subst o3;have H:=Hr3;clear Hr3;try dsimp only at H
 try dsimp only
 refine Z4 ?_
 refine Tl (ι:=Nat × List Bool × Int) (fun i=>nP a0 x5 i.1 i.2.1 i.2.2=_) (fun i=>i.1) (fun i=>[(1,fEq (ptr b1)),(3,fEq v1),(4,fI x5),(6,fI i.2.2)]) (fun i=>[aA b1 37 [fSl aE a0.Free,fSl aG a0.Nodes,fSl aB a0.Defs,fI a0.Main],aC v1 4 bF i.2.1]) (fuel,x7,0) H ?_
 clear H;rintro⟨k3,x14,x15⟩ H
 replace H:nP a0 x5 k3 x14 x15=_:=H
 try dsimp only
 obtain _ | k3:=k3
 rw [nP]at H;cases H
 rw [nP]at H
 refine aI ?_
 revert H;refine B5 fun y7 h8 H=>?_
 revert H;refine I6 (fun c3 H=>?_) fun c3 H=>?_
 refine Z3 ?_
 refine aI ?_
 revert H;refine B6 fun y8 h9 H=>?_
 revert H;refine B4 fun y9 h10 H=>?_
 revert H;refine B3 fun y10 h11 H=>?_
 refine Z1 ?_
 refine bZ ?_
 refine oT (z':=true) trivial rfl rfl rfl (has rfl) (has rfl) (aD trivial) (sz rfl) (cB h11) rfl rfl ?_
 revert H;refine B5 fun z2 h12 H=>?_
 refine Z3 ?_
 refine aH [1,0] (by decide) ?_
 exact Tm ((k3,x14.set y9.Node.toNat true,z2)) ⟨H,ls⟩
 refine Z7 ?_
 exact Tm (x14) (ij H)
 clear H;intro x6 hi;subst o2;have H:=Hr2;clear Hr2;try dsimp only at H
 try dsimp only
 revert H;refine B2 fun z3 h13 H=>?_
 refine Z3 ?_
 exact Tm ((k1,x6,z3)) ⟨H,ls⟩
 refine Z6 ?_
 exact Tm (x4) (ij H)
 clear H;intro x1 hi;subst o1;have H:=Hr1;clear Hr1;try dsimp only at H
 try dsimp only
 revert H;refine bs fun o4 H Hr4=>?_
 refine aO (ι:=List Bool) (fun i=>o4=i) (fun i=>[(3,fEq v1)]) (fun i=>[aA b1 37 [fSl aE a0.Free,fSl aG a0.Nodes,fSl aB a0.Defs,fI a0.Main],aC v1 4 bF i]) ?_ ?_
 refine Z4 ?_
 refine Tl (ι:=Nat × List Bool × Int) (fun i=>nD a0 i.1 i.2.1 i.2.2=_) (fun i=>i.1) (fun i=>[(1,fEq (ptr b1)),(3,fEq v1),(7,fI i.2.2)]) (fun i=>[aA b1 37 [fSl aE a0.Free,fSl aG a0.Nodes,fSl aB a0.Defs,fI a0.Main],aC v1 4 bF i.2.1]) (fuel,x1,0) H ?_
 clear H;rintro⟨k4,x19,x20⟩ H
 replace H:nD a0 k4 x19 x20=_:=H
 try dsimp only
 obtain _ | k4:=k4
 rw [nD]at H;cases H
 rw [nD]at H
 refine aI ?_
 revert H;refine I7 (fun c4 H=>?_) fun c4 H=>?_
 revert H;refine B3 fun o5 H Hr5=>?_
 refine aO (ι:=List Bool) (fun i=>o5=i) (fun i=>[(1,fEq (ptr b1)),(3,fEq v1),(7,fI x20)]) (fun i=>[aA b1 37 [fSl aE a0.Free,fSl aG a0.Nodes,fSl aB a0.Defs,fI a0.Main],aC v1 4 bF i]) ?_ ?_
 revert H;refine B5 fun y11 h14 H=>?_
 revert H;refine I5 (fun c5 H=>?_) fun c5 H=>?_
 refine Z12 ?_
 revert H;refine B3 fun y12 h15 H=>?_
 revert H;refine B3 fun y13 h16 H=>?_
 revert H;refine B2 fun y14 h17 H=>?_
 refine Z1 ?_
 refine bZ ?_
 refine oT (z':=true) trivial rfl rfl rfl (has rfl) (has rfl) (aD trivial) (sz rfl) (cB h17) rfl rfl ?_
 refine Z3 ?_
 refine aH [1,0] (by decide) ?_
 exact Tm (x19.set y13.toNat true) (ij H)
 revert H;refine B3 fun y15 h18 H=>?_
 revert H;refine I6 (fun c6 H=>?_) fun c6 H=>?_
 revert H;refine B6 fun y16 h19 H=>?_
 revert H;refine B3 fun y17 h20 H=>?_
 revert H;refine B2 fun y18 h21 H=>?_
 refine Z1 ?_
 refine bZ ?_
 refine oT (z':=true) trivial rfl rfl rfl (has rfl) (has rfl) (aD trivial) (sz rfl) (cB h21) rfl rfl ?_
 refine Z3 ?_
 refine aH [1,0] (by decide) ?_
 exact Tm (x19.set y17.toNat true) (ij H)
 refine Z4 ?_
 exact Tm (x19) (ij H)
 clear H;intro x21 hi;subst o5;have H:=Hr5;clear Hr5;try dsimp only at H
 try dsimp only
 revert H;refine B2 fun z4 h22 H=>?_
 refine Z3 ?_
 exact Tm ((k4,x21,z4)) ⟨H,ls⟩
 refine Z6 ?_
 exact Tm (x19) (ij H)
 clear H;intro x16 hi;subst o4;have H:=Hr4;clear Hr4;try dsimp only at H
 try dsimp only
 revert H;refine B3 fun o6 H Hr6=>?_
 refine aO (ι:=List Int × Value) (fun i=>o6=i.1) (fun i=>[(8,fEq i.2)]) (fun i=>[aA b1 37 [fSl aE a0.Free,fSl aG a0.Nodes,fSl aB a0.Defs,fI a0.Main],aC i.2 3 tI i.1]) ?_ ?_
 refine Z4 ?_
 refine hO tI 3 ?_
 refine aH [1,2,0] (by decide) ?_
 refine Tl (ι:=Nat × List Int × Int × Value) (fun i=>nN x16 i.1 i.2.1 i.2.2.1=_) (fun i=>i.1) (fun i=>[(3,fEq v1),(8,fEq i.2.2.2),(9,fI i.2.2.1)]) (fun i=>[aA b1 37 [fSl aE a0.Free,fSl aG a0.Nodes,fSl aB a0.Defs,fI a0.Main],aC v1 4 bF x16,aC i.2.2.2 3 tI i.2.1]) (fuel,[],0,(.slice none 0 0)) H ?_
 clear H;rintro⟨k5,x25,x26,v4⟩ H
 replace H:nN x16 k5 x25 x26=_:=H
 try dsimp only
 obtain _ | k5:=k5
 rw [nN]at H;cases H
 rw [nN]at H
 refine aF 2 rfl (fun hc_v4=>?_)
 refine aI ?_
 revert H;refine I6 (fun c7 H=>?_) fun c7 H=>?_
 revert H;refine B3 fun o7 H Hr7=>?_
 refine aO (ι:=List Int × Value) (fun i=>o7=i.1) (fun i=>[(3,fEq v1),(9,fI x26),(8,fEq i.2)]) (fun i=>[aA b1 37 [fSl aE a0.Free,fSl aG a0.Nodes,fSl aB a0.Defs,fI a0.Main],aC v1 4 bF x16,aC i.2 3 tI i.1]) ?_ ?_
 revert H;refine B4 fun y19 h23 H=>?_
 refine Z1 ?_
 refine Yo 1 rfl (fZ rfl rfl hh (sc rfl) (cB h23) rfl) ?_
 refine Z1 ?_
 revert H;refine cs (fun c8 H=>?_) fun c8 H=>?_
 refine Z4 ?_
 refine Tn (fV (t:=tI) (xs:=[x26]) rfl (et rfl) (bT.cons rfl (has rfl) (cC (aD trivial)) bT.nil) rfl rfl rfl) fun b3=>?_
 generalize (Value.slice (some ⟨b3,0,none⟩) _ _)=v6
 refine aF 0 rfl (fun hc_v6=>?_)
 revert H;refine bs fun z5 h24 H=>?_
 refine bO ?_
 refine bZ ?_
 refine kH trivial rfl rfl rfl (has rfl) (has rfl) (et rfl) rfl h24 (fun v7=>?_)
 refine aF 0 rfl (fun hc_v7=>?_)
 refine Z4 ?_
 refine aH [1,2,0] (by decide) ?_
 exact Tm ((z5,v7)) (ij H)
 refine Z4 ?_
 exact Tm ((x25,v4)) (ij H)
 clear H;intro i hi;obtain⟨x27,v5⟩:=i;subst o7;have H:=Hr7;clear Hr7;try dsimp only at H
 try dsimp only
 refine aF 2 rfl (fun hc_v5=>?_)
 revert H;refine B2 fun z6 h25 H=>?_
 refine Z3 ?_
 exact Tm ((k5,x27,z6,v5)) ⟨H,ls⟩
 refine Z6 ?_
 refine aH [0,2] (by decide) ?_
 exact Tm ((x25,v4)) (ij H)
 clear H;intro i hi;obtain⟨x22,v2⟩:=i;subst o6;have H:=Hr6;clear Hr6;try dsimp only at H
 try dsimp only
 refine aF 1 rfl (fun hc_v2=>?_)
 refine Z5 ?_
 refine bZ ?_
 refine cJ (φ:=fSl tI x22) (v:=v2) [8,118,2] cW fz ?_
 refine cI ?_
 cases H
 refine aH [] (by decide) ?_
 exact To
def pC (a0:List CodeIns) (a1:List CodeIns):Nat → (List CodeIns) → Int → Option (List CodeIns)
| 0,_,_=>none
| k+1,x4,x5=>
 if x5<(a1.length:Int)then
  (idx a1 x5).bind fun y1=>
  (if y1.Op=9 then
   (chk (y1.A+(a0.length:Int))).bind fun z2=>
   some z2
  else
   if y1.Op=10 then
    (chk (y1.A+(a0.length:Int))).bind fun z3=>
    some z3
   else
    some y1.A).bind fun x6=>
  (dP (x4++[(⟨y1.Op,x6,y1.B⟩:CodeIns)])).bind fun z4=>
  (chk (x5+1)).bind fun z5=>
  pC a0 a1 k z4 z5
 else
  some x4
def gU (fuel:Nat) (a0:List CodeIns) (a1:List CodeIns):Option (List CodeIns):=
 (dP ([]++a0)).bind fun z1=>
 (pC a0 a1 fuel z1 0).bind fun x1=>
 some x1
theorem pF (fuel:Nat)  (a0:List CodeIns) (a1:List CodeIns) (r:List CodeIns) (H:gU fuel a0 a1=some r):FnS Tryz.prog 46 [fSl aQ a0,fSl aQ a1] [] dN (fun v=>[(fun v=>aC v 73 aQ r) v]):=by
 unfold gU at H
 refine bS Tryz.func46 rfl Tryz.ntmps46 rfl (fun β=>?_)
 refine Z5 ?_
 refine hO aQ 73 ?_
 revert H;refine bs fun z1 h1 H=>?_
 refine rH (ys:=a0) trivial rfl rfl rfl (has rfl) (has rfl) (et rfl) rfl h1 (fun v1=>?_)
 refine aF 0 rfl (fun hc_v1=>?_)
 revert H;refine B2 fun o1 H Hr1=>?_
 refine aO (ι:=List CodeIns × Value) (fun i=>o1=i.1) (fun i=>[(5,fEq i.2)]) (fun i=>[aC i.2 73 aQ i.1]) ?_ ?_
 refine Z4 ?_
 refine Tl (ι:=Nat × List CodeIns × Int × Value) (fun i=>pC a0 a1 i.1 i.2.1 i.2.2.1=_) (fun i=>i.1) (fun i=>[(0,fSl aQ a0),(1,fSl aQ a1),(5,fEq i.2.2.2),(6,fI i.2.2.1)]) (fun i=>[aC i.2.2.2 73 aQ i.2.1]) (fuel,z1,0,v1) H ?_
 clear H;rintro⟨k1,x4,x5,v4⟩ H
 replace H:pC a0 a1 k1 x4 x5=_:=H
 try dsimp only
 obtain _ | k1:=k1
 rw [pC]at H;cases H
 rw [pC]at H
 refine aF 0 rfl (fun hc_v4=>?_)
 refine aI ?_
 revert H;refine I6 (fun c1 H=>?_) fun c1 H=>?_
 refine Z3 ?_
 refine aI ?_
 revert H;refine B4 fun y1 h2 H=>?_
 refine Z2 ?_
 refine Tn (cV rfl ty_ze_73 rfl) fun b1=>?_
 refine dR (φs':=[fI y1.Op,fI y1.A,fI y1.B]) trivial rfl rfl (has rfl) (has rfl) (aK (aD trivial) (aK (aD trivial) (aK (aD trivial) bY))) (sz rfl) rfl rfl rfl ?_
 revert H;refine B1 fun o2 H Hr2=>?_
 refine aO (ι:=Int) (fun i=>o2=i) (fun i=>[(0,fSl aQ a0),(1,fSl aQ a1),(5,fEq v4),(6,fI x5),(7,fEq (ptr b1))]) (fun i=>[aA b1 73 [fI y1.Op,fI i,fI y1.B],aC v4 73 aQ x4]) ?_ ?_
 revert H;refine I5 (fun c2 H=>?_) fun c2 H=>?_
 revert H;refine B11 fun z2 h3 H=>?_
 refine Z2 ?_
 refine cR (φs':=[fI y1.Op,fI z2,fI y1.B]) trivial rfl rfl (has rfl) (has rfl) (aD trivial) (sz rfl) rfl rfl ?_
 refine Z1 ?_
 exact Tm (z2) (ij H)
 revert H;refine I5 (fun c3 H=>?_) fun c3 H=>?_
 revert H;refine B6 fun z3 h4 H=>?_
 refine Z2 ?_
 refine cR (φs':=[fI y1.Op,fI z3,fI y1.B]) trivial rfl rfl (has rfl) (has rfl) (aD trivial) (sz rfl) rfl rfl ?_
 refine Z1 ?_
 exact Tm (z3) (ij H)
 refine Z3 ?_
 exact Tm (y1.A) (ij H)
 clear H;intro x6 hi;subst o2;have H:=Hr2;clear Hr2;try dsimp only at H
 try dsimp only
 refine Z3 ?_
 refine Tn (fV (t:=aQ) (xs:=[(⟨y1.Op,x6,y1.B⟩:CodeIns)]) rfl (et rfl) (bT.cons rfl hh bW bT.nil) rfl rfl rfl) fun b2=>?_
 generalize (Value.slice (some ⟨b2,0,none⟩) _ _)=v5
 refine aF 0 rfl (fun hc_v5=>?_)
 revert H;refine bs fun z4 h5 H=>?_
 refine aM ?_
 refine bZ ?_
 refine kH trivial rfl rfl rfl (has rfl) (has rfl) (et rfl) rfl h5 (fun v6=>?_)
 refine aF 0 rfl (fun hc_v6=>?_)
 revert H;refine B6 fun z5 h6 H=>?_
 refine Z3 ?_
 refine aH [0] (by decide) ?_
 exact Tm ((k1,z4,z5,v6)) ⟨H,ls⟩
 refine Z6 ?_
 exact Tm ((x4,v4)) (ij H)
 clear H;intro i hi;obtain⟨x1,v2⟩:=i;subst o1;have H:=Hr1;clear Hr1;try dsimp only at H
 try dsimp only
 refine aF 0 rfl (fun hc_v2=>?_)
 refine Z5 ?_
 cases H
 exact aAG rfl (bA rfl) (fun _ _ _=>trivial) rfl
theorem aAR (fuel:Nat)  (a0:List CodeIns) (a1:List CodeIns) (r:List CodeIns) (H:gU fuel a0 a1=some r):FnS Tryz.prog 46 [fSl aQ a0,fSl aQ a1] [] (fSl aQ r) (fun _=>[]):=(pF fuel a0 a1 r H).frz (fun v=>cW)
def jS (a0:Int) (a1:Int) (a2:Int):Option (List CodeIns):=
 some [(⟨a0,a1,a2⟩:CodeIns)]
theorem mG  (a0:Int) (a1:Int) (a2:Int) (r:List CodeIns) (H:jS a0 a1 a2=some r):FnS Tryz.prog 47 [fI a0,fI a1,fI a2] [] (fSl aQ r) (fun _=>[]):=by
 unfold jS at H
 refine bS Tryz.func47 rfl Tryz.ntmps47 rfl (fun β=>?_)
 refine Z7 ?_
 refine Yy (fU (ψs:=[fI a0,fI a1,fI a2]) rfl zY rfl (bH.cons (has rfl) (cC (aD trivial)) (bH.cons (has rfl) (cC (aD trivial)) (bH.cons (has rfl) (cC (aD trivial)) bH.nil))) rfl) ?_
 refine Tn (fV (t:=aQ) (xs:=[(⟨a0,a1,a2⟩:CodeIns)]) rfl (et rfl) (bT.cons rfl hh bW bT.nil) rfl rfl rfl) fun b1=>?_
 generalize (Value.slice (some ⟨b1,0,none⟩) _ _)=v1
 refine aF 0 rfl (fun hc_v1=>?_)
 refine Z3 ?_
 refine cJ (φ:=fSl aQ [(⟨a0,a1,a2⟩:CodeIns)]) (v:=v1) [6,11] cW fz ?_
 refine cI ?_
 cases H
 exact To
def oA:Nat → ScopeExp → Option (List CodeIns)
| 0,_=>none
| fuel+1,a0=>
 if a0.Op=1 then
  (jS 1 a0.N 0).bind fun y1=>
  some y1
 else
  if a0.Op=2 then
   (jS 2 a0.N 0).bind fun y2=>
   some y2
  else
   (if a0.Op=4 then
    some 4
   else
    if a0.Op=5 then
     some 5
    else
     if a0.Op=6 then
      some 6
     else
      if a0.Op=7 then
       some 7
      else
       some 3).bind fun x1=>
   (idx a0.Kids 0).bind fun y3=>
   ((oA fuel) y3).bind fun y4=>
   (idx a0.Kids 1).bind fun y5=>
   ((oA fuel) y5).bind fun y6=>
   (gU fuel y4 y6).bind fun y7=>
   (jS x1 0 0).bind fun y8=>
   (gU fuel y7 y8).bind fun y9=>
   some y9
theorem aC3:∀ (fuel:Nat),(∀  (a0:ScopeExp) (r:List CodeIns) (H:oA fuel a0=some r),FnS Tryz.prog 88 [fSt cF a0] [] (fSl aQ r) (fun _=>[])):=by
 intro fuel
 induction fuel with
 | zero=>exact fun a0 r H=>(by rw [oA]at H;cases H)
 | succ fuel ih=>
 have ih_r09_exp:=@ih
 refine ?_
 intro a0 r H
 rw [oA]at H
 refine bS Tryz.func88 rfl Tryz.ntmps88 rfl (fun β=>?_)
 refine Z1 ?_
 refine Tn (cO rfl hh bW) fun b1=>?_
 refine Z2 ?_
 refine aI ?_
 revert H;refine I9 (fun c1 H=>?_) fun c1 H=>?_
 revert H;refine B4 fun y1 h1 H=>?_
 refine Tc (mG _ _ _ _ h1) ?_
 refine Z5 ?_
 cases H
 refine aH [] (by decide) ?_
 exact To
 revert H;refine I5 (fun c2 H=>?_) fun c2 H=>?_
 revert H;refine B4 fun y2 h2 H=>?_
 refine Tc (mG _ _ _ _ h2) ?_
 refine Z5 ?_
 cases H
 refine aH [] (by decide) ?_
 exact To
 revert H;refine B7 fun o1 H Hr1=>?_
 refine aO (ι:=Int) (fun i=>o1=i) (fun i=>[(1,fEq (ptr b1)),(3,fI i)]) (fun i=>[aA b1 143 [fI a0.Op,fI a0.N,fW a0.Kids]]) ?_ ?_
 revert H;refine I9 (fun c3 H=>?_) fun c3 H=>?_
 refine Z6 ?_
 exact Tm (4) (ij H)
 revert H;refine I5 (fun c4 H=>?_) fun c4 H=>?_
 refine Z6 ?_
 exact Tm (5) (ij H)
 revert H;refine I5 (fun c5 H=>?_) fun c5 H=>?_
 refine Z6 ?_
 exact Tm (6) (ij H)
 revert H;refine I5 (fun c6 H=>?_) fun c6 H=>?_
 refine Z6 ?_
 exact Tm (7) (ij H)
 refine Z4 ?_
 exact Tm (3) (ij H)
 clear H;intro x1 hi;subst o1;have H:=Hr1;clear Hr1;try dsimp only at H
 try dsimp only
 refine aI ?_
 revert H;refine bs fun y3 h3 H=>?_
 revert H;refine bs fun y4 h4 H=>?_
 revert H;refine bs fun y5 h5 H=>?_
 revert H;refine bs fun y6 h6 H=>?_
 revert H;refine bs fun y7 h7 H=>?_
 revert H;refine bs fun y8 h8 H=>?_
 revert H;refine bs fun y9 h9 H=>?_
 apply bE (ods:=[_,_,_,_,_,_,_,_,_,_,_,_,_,_,_]) 15 0 1 bD rfl rfl rfl
 refine ND ?_
 refine M1 ?_
 intros
 refine Mo 0 rfl (bK rfl hh (sc rfl) rfl (gL gF)) fun _=>?_
 refine M2 ?_
 intros
 refine Nc (ih_r09_exp _ _ h4) fun _=>?_
 refine M1 ?_
 intros
 refine Mo 0 rfl (bK rfl hh (sc rfl) rfl (gL gF)) fun _=>?_
 refine M2 ?_
 intros
 refine Nc (ih_r09_exp _ _ h6) fun _=>?_
 refine mP (od:=odC [] true (fSl aQ y7) []) (Φ:=fSl aQ y7) rfl (fun _=>rfl) trivial rfl rfl (has rfl) (aL.cons (has rfl) (aL.cons (has rfl) aL.nil)) rfl (cb rfl) (aAR fuel y4 y6 y7 h7) (fun _=>?_)
 refine M1 ?_
 intros
 refine Nc (mG _ _ _ _ h8) fun _=>?_
 refine mP (od:=odC [] true (fSl aQ y9) []) (Φ:=fSl aQ y9) rfl (fun _=>rfl) trivial rfl rfl (has rfl) (aL.cons (has rfl) (aL.cons (has rfl) aL.nil)) rfl (cb rfl) (aAR fuel y7 y8 y9 h9) (fun _=>?_)
 refine M1 ?_
 intros
 refine Z3 ?_
 cases H
 refine aH [] (by decide) ?_
 exact To
 exact fk
 kernel_rfl
open Go.SX Go.SW Go.Dt
def oW (fuel:Nat) (y1:ScopeNode):Nat → (List CodeIns) → Int → Option (List CodeIns)
| 0,_,_=>none
| k+1,x4,x5=>
 if x5<(y1.Args.length:Int)then
  (idx y1.Args x5).bind fun y2=>
  (oA fuel y2).bind fun y3=>
  (gU fuel x4 y3).bind fun y4=>
  (chk (x5+1)).bind fun z1=>
  oW fuel y1 k y4 z1
 else
  some x4
mutual
def gI:Nat → ScopeProg → (List Int) → Int → Option ((List CodeIns) × Bool)
| 0,_,_,_=>none
| fuel+1,a0,a1,a2=>
 (idx a0.Nodes a2).bind fun y1=>
 (if y1.Op=2 then
  (oW fuel y1 fuel [] 0).bind fun x1=>
  (jS 8 y1.N (y1.Args.length:Int)).bind fun y5=>
  (gU fuel x1 y5).bind fun y6=>
  (some (y6,false)).bind fun r=>some (Sum.inr r)
 else
  if y1.Op=3 then
   (idx y1.Kids 1).bind fun y7=>
   ((gI fuel) (⟨a0.Free,a0.Nodes,a0.Defs,a0.Main⟩:ScopeProg) a1 y7).bind fun y8=>
   (idx y1.Kids 0).bind fun y9=>
   (idx a1 a2).bind fun y10=>
   ((qU fuel) (⟨a0.Free,a0.Nodes,a0.Defs,a0.Main⟩:ScopeProg) a1 y9 y10).bind fun y11=>
   (gU fuel y11 y8.1).bind fun y12=>
   (some (y12,y8.2)).bind fun r=>some (Sum.inr r)
  else
   if y1.Op=4 then
    (idx y1.Kids 0).bind fun y13=>
    ((gI fuel) (⟨a0.Free,a0.Nodes,a0.Defs,a0.Main⟩:ScopeProg) a1 y13).bind fun y14=>
    (jS 11 y1.N 0).bind fun y15=>
    (gU fuel y15 y14.1).bind fun y16=>
    (some (y16,true)).bind fun r=>some (Sum.inr r)
   else
    if y1.Op=5 then
     (idx y1.Args 0).bind fun y17=>
     (oA fuel y17).bind fun y18=>
     (idx y1.Kids 0).bind fun y19=>
     (idx a1 a2).bind fun y20=>
     ((qU fuel) (⟨a0.Free,a0.Nodes,a0.Defs,a0.Main⟩:ScopeProg) a1 y19 y20).bind fun y21=>
     (idx y1.Kids 1).bind fun y22=>
     (idx a1 a2).bind fun y23=>
     ((qU fuel) (⟨a0.Free,a0.Nodes,a0.Defs,a0.Main⟩:ScopeProg) a1 y22 y23).bind fun y24=>
     (dP ([]++y18)).bind fun z2=>
     (chk ((y18.length:Int)+2)).bind fun z3=>
     (chk (z3+(y21.length:Int))).bind fun z4=>
     (dP (z2++[(⟨9,z4,0⟩:CodeIns)])).bind fun z5=>
     (gU fuel z5 y21).bind fun y25=>
     (chk ((y25.length:Int)+1)).bind fun z6=>
     (chk (z6+(y24.length:Int))).bind fun z7=>
     (dP (y25++[(⟨10,z7,0⟩:CodeIns)])).bind fun z8=>
     (gU fuel z8 y24).bind fun y26=>
     (some (y26,false)).bind fun r=>some (Sum.inr r)
    else
     if y1.Op=6 then
      (idx y1.Kids 0).bind fun y27=>
      (jS 13 y1.N y27).bind fun y28=>
      (some (y28,false)).bind fun r=>some (Sum.inr r)
     else
      if y1.Op=8 then
       (idx y1.Kids 0).bind fun y29=>
       (jS 15 y1.N y29).bind fun y30=>
       (some (y30,false)).bind fun r=>some (Sum.inr r)
      else
       if y1.Op=7 then
        (jS 14 0 0).bind fun y31=>
        (some (y31,false)).bind fun r=>some (Sum.inr r)
       else
        some (Sum.inl ())).bind fun o=>match o with
 | Sum.inr r=>some r
 | Sum.inl _=>
 some ([],false)
def qU:Nat → ScopeProg → (List Int) → Int → Int → Option (List CodeIns)
| 0,_,_,_,_=>none
| fuel+1,a0,a1,a2,a3=>
 ((gI fuel) (⟨a0.Free,a0.Nodes,a0.Defs,a0.Main⟩:ScopeProg) a1 a2).bind fun y1=>
 bif y1.2 then
  (jS 12 a3 0).bind fun y2=>
  (gU fuel y1.1 y2).bind fun y3=>
  some y3
 else
  some y1.1
end
theorem aFW:∀ (fuel:Nat),(∀  (a0:ScopeProg) (a1:List Int) (a2:Int) (r:(List CodeIns) × Bool) (H:gI fuel a0 a1 a2=some r),FnS Tryz.prog 45 [fSt fJ a0,fSl tI a1,fI a2] [] (dG [fSl aQ r.1,aJ r.2]) (fun _=>[])) ∧ (∀  (a0:ScopeProg) (a1:List Int) (a2:Int) (a3:Int) (r:List CodeIns) (H:qU fuel a0 a1 a2 a3=some r),FnS Tryz.prog 89 [fSt fJ a0,fSl tI a1,fI a2,fI a3] [] (fSl aQ r) (fun _=>[])):=by
 intro fuel
 induction fuel with
 | zero=>exact⟨fun a0 a1 a2 r H=>(by rw [gI]at H;cases H),fun a0 a1 a2 a3 r H=>(by rw [qU]at H;cases H)⟩
 | succ fuel ih=>
 obtain⟨ih_r09_laid,ih_r09_cut⟩:=@ih
 refine⟨?_,?_⟩
 intro a0 a1 a2 r H
 rw [gI]at H
 refine bS Tryz.func45 rfl Tryz.ntmps45 rfl (fun β=>?_)
 refine Z1 ?_
 refine Tn (cO rfl hh bW) fun b1=>?_
 revert H;refine B7 fun y1 h1 H=>?_
 refine Z2 ?_
 refine Tn (cV rfl tE rfl) fun b2=>?_
 refine dR (φs':=[fI y1.Op,fI y1.N,fSl cF y1.Args,fSl tI y1.Kids]) trivial rfl rfl (has rfl) (has rfl) (aK (aD trivial) (aK (aD trivial) (aK (bU) (aK (bU) bY)))) (sz rfl) rfl rfl rfl ?_
 revert H;refine B4 fun o1 H Hr1=>?_
 refine aO (ι:=Unit) (fun i=>o1=Sum.inl ()) (fun i=>[]) (fun i=>[aA b2 140 [fI y1.Op,fI y1.N,fSl cF y1.Args,fSl tI y1.Kids],aA b1 37 [fSl aE a0.Free,fSl aG a0.Nodes,fSl aB a0.Defs,fI a0.Main]]) ?_ ?_
 revert H;refine I9 (fun c1 H=>?_) fun c1 H=>?_
 revert H;refine B1 fun o2 H Hr2=>?_
 refine aO (ι:=List CodeIns × Value) (fun i=>o2=i.1) (fun i=>[(8,fEq (ptr b2)),(9,fEq i.2)]) (fun i=>[aA b2 140 [fI y1.Op,fI y1.N,fSl cF y1.Args,fSl tI y1.Kids],aA b1 37 [fSl aE a0.Free,fSl aG a0.Nodes,fSl aB a0.Defs,fI a0.Main],aC i.2 73 aQ i.1]) ?_ ?_
 refine Z4 ?_
 refine hO aQ 73 ?_
 refine aH [1,2,0] (by decide) ?_
 refine Tl (ι:=Nat × List CodeIns × Int × Value) (fun i=>oW fuel y1 i.1 i.2.1 i.2.2.1=_) (fun i=>i.1) (fun i=>[(8,fEq (ptr b2)),(9,fEq i.2.2.2),(10,fI i.2.2.1)]) (fun i=>[aA b2 140 [fI y1.Op,fI y1.N,fSl cF y1.Args,fSl tI y1.Kids],aA b1 37 [fSl aE a0.Free,fSl aG a0.Nodes,fSl aB a0.Defs,fI a0.Main],aC i.2.2.2 73 aQ i.2.1]) (fuel,[],0,(.slice none 0 0)) H ?_
 clear H;rintro⟨k1,x4,x5,v3⟩ H
 replace H:oW fuel y1 k1 x4 x5=_:=H
 try dsimp only
 obtain _ | k1:=k1
 rw [oW]at H;cases H
 rw [oW]at H
 refine aF 2 rfl (fun hc_v3=>?_)
 refine aI ?_
 revert H;refine I7 (fun c2 H=>?_) fun c2 H=>?_
 refine Z3 ?_
 refine aI ?_
 revert H;refine B6 fun y2 h2 H=>?_
 revert H;refine B2 fun y3 h3 H=>?_
 refine Tc (aC3 _ _ _ h3) ?_
 refine aM ?_
 refine cJ (φ:=fSl aQ x4) (v:=v3) [9,34] cW fz ?_
 refine cI ?_
 revert H;refine bs fun y4 h4 H=>?_
 refine yG trivial rfl rfl rfl (has rfl) (aL.cons (has rfl) (aL.cons (has rfl) aL.nil)) rfl (cb rfl) (pF fuel x4 y3 y4 h4) (Δi:=[]) rfl (fun v4=>?_)
 dsimp only [List.append,List.cons_append,List.nil_append]
 refine aF 0 rfl (fun hc_v4=>?_)
 revert H;refine B6 fun z1 h5 H=>?_
 refine Z3 ?_
 refine aH [1,2,0] (by decide) ?_
 exact Tm ((k1,y4,z1,v4)) ⟨H,ls⟩
 refine Z6 ?_
 exact Tm ((x4,v3)) (ij H)
 clear H;intro i hi;obtain⟨x1,v1⟩:=i;subst o2;have H:=Hr2;clear Hr2;try dsimp only at H
 try dsimp only
 refine aF 2 rfl (fun hc_v1=>?_)
 revert H;refine B7 fun y5 h6 H=>?_
 refine Tc (mG _ _ _ _ h6) ?_
 refine aM ?_
 refine cJ (φ:=fSl aQ x1) (v:=v1) [9,42] cW fz ?_
 refine cI ?_
 revert H;refine bs fun y6 h7 H=>?_
 refine yG trivial rfl rfl rfl (has rfl) (aL.cons (has rfl) (aL.cons (has rfl) aL.nil)) rfl (cb rfl) (pF fuel x1 y5 y6 h7) (Δi:=[]) rfl (fun v5=>?_)
 dsimp only [List.append,List.cons_append,List.nil_append]
 refine aF 0 rfl (fun hc_v5=>?_)
 revert H;refine B6 fun r1 H e1=>?_
 cases e1;cases Hr1
 refine cJ (φ:=fSl aQ y6) (v:=v5) [49,6] cW fz ?_
 refine cI ?_
 cases H
 refine aH [] (by decide) ?_
 exact kA rfl (bA rfl) (bA rfl) rfl
 revert H;refine I5 (fun c3 H=>?_) fun c3 H=>?_
 refine Z1 ?_
 refine aI ?_
 revert H;refine bs fun y7 h8 H=>?_
 revert H;refine bs fun y8 h9 H=>?_
 apply bE (ods:=[_,_,_,_,_,_,_,_,_,_,_,_]) 12 0 2 bD rfl rfl rfl
 refine ND ?_
 refine M6 ?_
 intros
 refine Nc (ih_r09_laid _ _ _ _ h9) fun _=>?_
 refine M5 ?_
 intros
 refine Z2 ?_
 refine aI ?_
 revert H;refine bs fun y9 h10 H=>?_
 revert H;refine bs fun y10 h11 H=>?_
 revert H;refine bs fun y11 h12 H=>?_
 revert H;refine bs fun y12 h13 H=>?_
 apply bE (ods:=[_,_,_,_,_,_,_,_,_,_,_,_,_,_,_,_]) 16 1 3 bD rfl rfl rfl
 refine ND ?_
 refine M8 ?_
 intros
 refine M2 ?_
 intros
 refine Nc (ih_r09_cut _ _ _ _ _ h12) fun _=>?_
 refine M1 ?_
 intros
 refine aCb (od:=odN [2] true (fun _ v6=>eC v6) (fun _ v6=>[aC v6 73 aQ y12])) (p:=2) (τ:=fun v=>aC v 73 aQ y12) rfl (fun _=>rfl) (fun _=>rfl) trivial rfl rfl rfl (has rfl) (aL.cons (has rfl) (aL.cons (has rfl) aL.nil)) rfl (cb rfl) (pF fuel y11 y8.1 y12 h13) (fun _=>jA) (fun u1 v6=>?_)
 refine M1 ?_
 intros
 refine D1 12 _ v6 (fun _ v6=>eC v6) rfl (aAw rfl hh) (fun _=>?_)
 refine M1 ?_
 intros
 refine Z1 ?_
 refine mW 6 rfl fH ?_
 refine mW 74 rfl fH ?_
 refine aF 2 rfl (fun hc_v6=>?_)
 revert H;refine B4 fun r2 H e2=>?_
 cases e2;cases Hr1
 refine aM ?_
 refine cJ (φ:=fSl aQ y12) (v:=v6) [6,74] cW fz ?_
 refine cI ?_
 cases H
 refine aH [] (by decide) ?_
 exact kA rfl (bA rfl) (bA rfl) rfl
 exact fk
 kernel_rfl
 exact fk
 kernel_rfl
 revert H;refine I5 (fun c4 H=>?_) fun c4 H=>?_
 refine Z1 ?_
 refine aI ?_
 revert H;refine bs fun y13 h14 H=>?_
 revert H;refine bs fun y14 h15 H=>?_
 apply bE (ods:=[_,_,_,_,_,_,_,_,_,_,_,_]) 12 0 2 bD rfl rfl rfl
 refine ND ?_
 refine M6 ?_
 intros
 refine Nc (ih_r09_laid _ _ _ _ h15) fun _=>?_
 refine M5 ?_
 intros
 revert H;refine B5 fun y15 h16 H=>?_
 refine Tc (mG _ _ _ _ h16) ?_
 revert H;refine B1 fun y16 h17 H=>?_
 refine yG trivial rfl rfl rfl (has rfl) (aL.cons (has rfl) (aL.cons (has rfl) aL.nil)) rfl (cb rfl) (pF fuel y15 y14.1 y16 h17) (Δi:=[]) rfl (fun v7=>?_)
 dsimp only [List.append,List.cons_append,List.nil_append]
 refine aF 0 rfl (fun hc_v7=>?_)
 revert H;refine B6 fun r3 H e3=>?_
 cases e3;cases Hr1
 refine cJ (φ:=fSl aQ y16) (v:=v7) [6,92] cW fz ?_
 refine cI ?_
 cases H
 refine aH [] (by decide) ?_
 exact kA rfl (bA rfl) (bA rfl) rfl
 exact fk
 kernel_rfl
 revert H;refine I5 (fun c5 H=>?_) fun c5 H=>?_
 revert H;refine B4 fun y17 h18 H=>?_
 revert H;refine B2 fun y18 h19 H=>?_
 refine Tc (aC3 _ _ _ h19) ?_
 refine Z2 ?_
 refine aI ?_
 revert H;refine bs fun y19 h20 H=>?_
 revert H;refine bs fun y20 h21 H=>?_
 revert H;refine bs fun y21 h22 H=>?_
 apply bE (ods:=[_,_,_,_,_,_,_,_,_,_,_,_]) 12 0 2 bD rfl rfl rfl
 refine ND ?_
 refine M8 ?_
 intros
 refine M2 ?_
 intros
 refine Nc (ih_r09_cut _ _ _ _ _ h22) fun _=>?_
 refine M1 ?_
 intros
 refine Z2 ?_
 refine aI ?_
 revert H;refine bs fun y22 h23 H=>?_
 revert H;refine bs fun y23 h24 H=>?_
 revert H;refine bs fun y24 h25 H=>?_
 apply bE (ods:=[_,_,_,_,_,_,_,_,_,_,_,_]) 12 0 2 bD rfl rfl rfl
 refine ND ?_
 refine M8 ?_
 intros
 refine M2 ?_
 intros
 refine Nc (ih_r09_cut _ _ _ _ _ h25) fun _=>?_
 refine M1 ?_
 intros
 refine Z4 ?_
 refine hO aQ 73 ?_
 revert H;refine bs fun z2 h26 H=>?_
 refine rH (ys:=y18) trivial rfl rfl rfl (has rfl) (has rfl) (et rfl) rfl h26 (fun v8=>?_)
 refine aF 0 rfl (fun hc_v8=>?_)
 revert H;refine B2 fun z3 h27 H=>?_
 revert H;refine B3 fun z4 h28 H=>?_
 refine Z1 ?_
 refine Yy (fU (ψs:=[fI 9,fI z4,fI 0]) rfl zY rfl (bH.cons (has rfl) (cC (aD trivial)) (bH.cons (has rfl) (cC (aD trivial)) bH.nil)) rfl) ?_
 refine Tn (fV (t:=aQ) (xs:=[(⟨9,z4,0⟩:CodeIns)]) rfl (et rfl) (bT.cons rfl hh bW bT.nil) rfl rfl rfl) fun b3=>?_
 generalize (Value.slice (some ⟨b3,0,none⟩) _ _)=v9
 refine aF 0 rfl (fun hc_v9=>?_)
 revert H;refine bs fun z5 h29 H=>?_
 refine kH trivial rfl rfl rfl (has rfl) (has rfl) (et rfl) rfl h29 (fun v10=>?_)
 refine aF 0 rfl (fun hc_v10=>?_)
 refine Z5 ?_
 refine cJ (φ:=fSl aQ z5) (v:=v10) [9,132,133] cW fz ?_
 refine cI ?_
 revert H;refine bs fun y25 h30 H=>?_
 refine yG trivial rfl rfl rfl (has rfl) (aL.cons (has rfl) (aL.cons (has rfl) aL.nil)) rfl (cb rfl) (pF fuel z5 y21 y25 h30) (Δi:=[]) rfl (fun v11=>?_)
 dsimp only [List.append,List.cons_append,List.nil_append]
 refine aF 0 rfl (fun hc_v11=>?_)
 revert H;refine B6 fun z6 h31 H=>?_
 revert H;refine B3 fun z7 h32 H=>?_
 refine Z1 ?_
 refine Yy (fU (ψs:=[fI 10,fI z7,fI 0]) rfl zY rfl (bH.cons (has rfl) (cC (aD trivial)) (bH.cons (has rfl) (cC (aD trivial)) bH.nil)) rfl) ?_
 refine Tn (fV (t:=aQ) (xs:=[(⟨10,z7,0⟩:CodeIns)]) rfl (et rfl) (bT.cons rfl hh bW bT.nil) rfl rfl rfl) fun b4=>?_
 generalize (Value.slice (some ⟨b4,0,none⟩) _ _)=v12
 refine aF 0 rfl (fun hc_v12=>?_)
 revert H;refine bs fun z8 h33 H=>?_
 refine kH trivial rfl rfl rfl (has rfl) (has rfl) (et rfl) rfl h33 (fun v13=>?_)
 refine aF 0 rfl (fun hc_v13=>?_)
 refine Z5 ?_
 refine cJ (φ:=fSl aQ z8) (v:=v13) [145,9,146] cW fz ?_
 refine cI ?_
 revert H;refine bs fun y26 h34 H=>?_
 refine yG trivial rfl rfl rfl (has rfl) (aL.cons (has rfl) (aL.cons (has rfl) aL.nil)) rfl (cb rfl) (pF fuel z8 y24 y26 h34) (Δi:=[]) rfl (fun v14=>?_)
 dsimp only [List.append,List.cons_append,List.nil_append]
 refine aF 0 rfl (fun hc_v14=>?_)
 revert H;refine B6 fun r4 H e4=>?_
 cases e4;cases Hr1
 refine cJ (φ:=fSl aQ y26) (v:=v14) [6,148] cW fz ?_
 refine cI ?_
 cases H
 refine aH [] (by decide) ?_
 exact kA rfl (bA rfl) (bA rfl) rfl
 exact fk
 kernel_rfl
 exact fk
 kernel_rfl
 revert H;refine I5 (fun c6 H=>?_) fun c6 H=>?_
 refine Z1 ?_
 refine aI ?_
 revert H;refine bs fun y27 h35 H=>?_
 revert H;refine bs fun y28 h36 H=>?_
 apply bE (ods:=[_,_,_,_,_,_,_,_,_]) 9 0 2 bD rfl rfl rfl
 refine ND ?_
 refine M6 ?_
 intros
 refine Nc (mG _ _ _ _ h36) fun _=>?_
 refine M2 ?_
 intros
 revert H;refine B5 fun r5 H e5=>?_
 cases e5;cases Hr1
 cases H
 refine aH [] (by decide) ?_
 exact kA rfl (bA rfl) (bA rfl) rfl
 exact fk
 kernel_rfl
 revert H;refine I5 (fun c7 H=>?_) fun c7 H=>?_
 refine Z1 ?_
 refine aI ?_
 revert H;refine bs fun y29 h37 H=>?_
 revert H;refine bs fun y30 h38 H=>?_
 apply bE (ods:=[_,_,_,_,_,_,_,_,_]) 9 0 2 bD rfl rfl rfl
 refine ND ?_
 refine M6 ?_
 intros
 refine Nc (mG _ _ _ _ h38) fun _=>?_
 refine M2 ?_
 intros
 revert H;refine B5 fun r6 H e6=>?_
 cases e6;cases Hr1
 cases H
 refine aH [] (by decide) ?_
 exact kA rfl (bA rfl) (bA rfl) rfl
 exact fk
 kernel_rfl
 revert H;refine I5 (fun c8 H=>?_) fun c8 H=>?_
 revert H;refine B2 fun y31 h39 H=>?_
 refine Tc (mG _ _ _ _ h39) ?_
 revert H;refine B6 fun r7 H e7=>?_
 cases e7;cases Hr1
 cases H
 refine aH [] (by decide) ?_
 exact kA rfl (bA rfl) (bA rfl) rfl
 refine Z4 ?_
 exact Tm (()) (ij H)
 clear H;intro i hi;subst o1;have H:=Hr1;clear Hr1;try dsimp only at H
 try dsimp only
 refine Z5 ?_
 cases H
 refine aH [] (by decide) ?_
 exact kA rfl (jV rfl gA) (bA rfl) rfl
 intro a0 a1 a2 a3 r H
 rw [qU]at H
 refine bS Tryz.func89 rfl Tryz.ntmps89 rfl (fun β=>?_)
 refine Z1 ?_
 refine Tn (cO rfl hh bW) fun b1=>?_
 revert H;refine B6 fun y1 h1 H=>?_
 refine Tc (ih_r09_laid _ _ _ _ h1) ?_
 refine Z6 ?_
 refine aI ?_
 refine Z3 ?_
 revert H;refine cs (fun c1 H=>?_) fun c1 H=>?_
 revert H;refine B4 fun y2 h2 H=>?_
 refine Tc (mG _ _ _ _ h2) ?_
 revert H;refine bs fun y3 h3 H=>?_
 refine jT trivial rfl rfl rfl hh (aL.cons hh (aL.cons hh aL.nil)) rfl (cb rfl) (aAR fuel y1.1 y2 y3 h3) rfl ?_
 refine Z3 ?_
 cases H
 refine aH [] (by decide) ?_
 exact To
 refine Z8 ?_
 cases H
 refine aH [] (by decide) ?_
 exact To
theorem aHm (fuel:Nat)  (a0:ScopeProg) (a1:List Int) (a2:Int) (r:(List CodeIns) × Bool) (H:gI fuel a0 a1 a2=some r):FnS Tryz.prog 45 [fSt fJ a0,fSl tI a1,fI a2] [] (dG [fSl aQ r.1,aJ r.2]) (fun _=>[]):=(aFW fuel).1 a0 a1 a2 r H
open Go.SX Go.SW Go.Dt
def pR  :Nat → (List Int) → Int → Option (List Int)
| 0,_,_=>none
| k+1,x4,x5=>
 if x5<(x4.length:Int)then
  (idx x4 x5).bind fun y3=>
  (chk (x5+1)).bind fun z1=>
  pR k (x4.set x5.toNat (-1)) z1
 else
  some x4
def pB (fuel:Nat) (a0:ScopeProg) (y1:(List Int) × Int) (y5:List Int):Nat → (List Int) → Int → (List CodeIns) → Option (List Int × List CodeIns)
| 0,_,_,_=>none
| k+1,x11,x12,x13=>
 if x12<(y5.length:Int)then
  (idx y5 x12).bind fun y6=>
  (idx x11 y6).bind fun y7=>
  (idx y5 x12).bind fun y8=>
  (gI fuel (⟨a0.Free,a0.Nodes,a0.Defs,a0.Main⟩:ScopeProg) y1.1 y8).bind fun y9=>
  (jS 16 0 0).bind fun y10=>
  (gU fuel y9.1 y10).bind fun y11=>
  (gU fuel x13 y11).bind fun y12=>
  (chk (x12+1)).bind fun z2=>
  pB fuel a0 y1 y5 k (x11.set y6.toNat (x13.length:Int)) z2 y12
 else
  some (x11,x13)
def oD (x6:List Int):Nat → Int → (List CodeIns) → Option (List CodeIns)
| 0,_,_=>none
| k+1,x17,x18=>
 if x17<(x18.length:Int)then
  ((idx x18 x17).bind fun y14=>
  (aAn y14.Op).bind fun y15=>
  bif y15 then
   (idx x18 x17).bind fun y16=>
   (idx x6 y16.B).bind fun y17=>
   (idx x18 x17).bind fun y18=>
   some (x18.set x17.toNat ({ y18 with B:=y17 }))
  else
   some x18).bind fun x19=>
  (chk (x17+1)).bind fun z3=>
  oD x6 k z3 x19
 else
  some x18
def oE (x6:List Int) (x23:Int):Nat → Int → (List ScopeDef) → Option (List ScopeDef)
| 0,_,_=>none
| k+1,x29,x30=>
 (idx x30 x23).bind fun y19=>
 if x29<(y19.Rules.length:Int)then
  (idx x30 x23).bind fun y20=>
  (idx x30 x23).bind fun y21=>
  (idx y19.Rules x29).bind fun y22=>
  (idx x6 y22.Node).bind fun y23=>
  (idx y19.Rules x29).bind fun y24=>
  (chk (x29+1)).bind fun z4=>
  oE x6 x23 k z4 (x30.set x23.toNat ({ y19 with Rules:=y19.Rules.set x29.toNat ({ y24 with Node:=y23 }) }))
 else
  some (x30.set x23.toNat ({ y19 with Rules:=y19.Rules }))
def nA (x6:List Int) (x23:Int):Nat → Int → (List ScopeDef) → Option (List ScopeDef)
| 0,_,_=>none
| k+1,x33,x34=>
 (idx x34 x23).bind fun y25=>
 if x33<(y25.Spots.length:Int)then
  (idx x34 x23).bind fun y26=>
  (idx x34 x23).bind fun y27=>
  (idx y25.Spots x33).bind fun y28=>
  (idx x6 y28.Node).bind fun y29=>
  (idx y25.Spots x33).bind fun y30=>
  (chk (x33+1)).bind fun z5=>
  nA x6 x23 k z5 (x34.set x23.toNat ({ y25 with Spots:=y25.Spots.set x33.toNat ({ y30 with Node:=y29 }) }))
 else
  some (x34.set x23.toNat ({ y25 with Spots:=y25.Spots }))
def oV (fuel:Nat) (x6:List Int):Nat → Int → (List ScopeDef) → Option (List ScopeDef)
| 0,_,_=>none
| k+1,x23,x24=>
 if x23<(x24.length:Int)then
  ((oE x6 x23 fuel 0 x24).bind fun x26=>
  nA x6 x23 fuel 0 x26).bind fun x25=>
  (chk (x23+1)).bind fun z6=>
  oV fuel x6 k z6 x25
 else
  some x24
def rV (fuel:Nat) (a0:ScopeProg):Option (CodeProg × (List Int) × Int):=
 (sY fuel (⟨a0.Free,a0.Nodes,a0.Defs,a0.Main⟩:ScopeProg)).bind fun y1=>
 if y1.2≠0 then
  some ((⟨0,[],[],0⟩:CodeProg),[],y1.2)
 else
  (mk 0 (a0.Nodes.length:Int)).bind fun y2=>
  (pR fuel y2 0).bind fun x1=>
  (aAD fuel a0.Defs).bind fun y4=>
  (wA fuel (⟨a0.Free,a0.Nodes,a0.Defs,a0.Main⟩:ScopeProg)).bind fun y5=>
  (pB fuel a0 y1 y5 fuel x1 0 []).bind fun (x6,x7)=>
  (idx x6 a0.Main).bind fun y13=>
  (oD x6 fuel 0 x7).bind fun x14=>
  (oV fuel x6 fuel 0 y4).bind fun x20=>
  some ((⟨(a0.Free.length:Int),x20,x14,y13⟩:CodeProg),x6,0)
theorem aF7 (fuel:Nat)  (a0:ScopeProg) (r:CodeProg × (List Int) × Int) (H:rV fuel a0=some r):FnS Tryz.prog 15 [fSt fJ a0] [] (dG [fSt yS r.1,fSl tI r.2.1,fI r.2.2]) (fun _=>[]):=by
 unfold rV at H
 refine bS Tryz.func15 rfl Tryz.ntmps15 rfl (fun β=>?_)
 refine Z1 ?_
 refine Tn (cO rfl hh bW) fun b1=>?_
 refine Tn (cV rfl uP rfl) fun b2=>?_
 revert H;refine B5 fun y1 h1 H=>?_
 refine Tc (aHW _ _ _ h1) ?_
 refine Z6 ?_
 refine aI ?_
 revert H;refine I4 (fun c1 H=>?_) fun c1 H=>?_
 refine Z2 ?_
 refine Yy (fU (ψs:=[fI 0,fEq (.slice none 0 0),fEq (.slice none 0 0),fI 0]) rfl aAf rfl bH.nil rfl) ?_
 refine Z1 ?_
 refine dR (φs':=[fI 0,fEq (.slice none 0 0),fEq (.slice none 0 0),fI 0]) trivial rfl rfl (has rfl) (has rfl) (aK (aD trivial) (aK (aD trivial) (aK (aD trivial) (aK (aD trivial) bY)))) (sz rfl) rfl rfl rfl ?_
 refine Z4 ?_
 cases H
 refine aH [0] (by decide) ?_
 exact aEQ rfl (ag rfl) rfl (bA rfl) (jV rfl gA) (bA rfl) (aAN (aP.cons Ent.rfl (aP.cons gA (aP.cons gA (aP.cons Ent.rfl aP.nil))))) rfl
 revert H;refine B7 fun y2 h2 H=>?_
 refine Tn (nW (t:=tI) (z:=0) rfl hh (et rfl) rfl sD rfl h2) fun b3=>?_
 generalize (Value.slice (some ⟨b3,0,none⟩) _ _)=v1
 refine aF 0 rfl (fun hc_v1=>?_)
 revert H;refine B2 fun o1 H Hr1=>?_
 refine aO (ι:=List Int) (fun i=>o1=i) (fun i=>[(1,fEq (ptr b1)),(2,fEq (ptr b2)),(5,fSl tI y1.1),(7,fEq v1)]) (fun i=>[aA b2 25 [fI 0,fEq (.slice none 0 0),fEq (.slice none 0 0),fI 0],aA b1 37 [fSl aE a0.Free,fSl aG a0.Nodes,fSl aB a0.Defs,fI a0.Main],aC v1 3 tI i]) ?_ ?_
 refine Z4 ?_
 refine aH [1,2,0] (by decide) ?_
 refine Tl (ι:=Nat × List Int × Int) (fun i=>pR i.1 i.2.1 i.2.2=_) (fun i=>i.1) (fun i=>[(1,fEq (ptr b1)),(2,fEq (ptr b2)),(5,fSl tI y1.1),(7,fEq v1),(8,fI i.2.2)]) (fun i=>[aA b2 25 [fI 0,fEq (.slice none 0 0),fEq (.slice none 0 0),fI 0],aA b1 37 [fSl aE a0.Free,fSl aG a0.Nodes,fSl aB a0.Defs,fI a0.Main],aC v1 3 tI i.2.1]) (fuel,y2,0) H ?_
 clear H;rintro⟨k1,x4,x5⟩ H
 replace H:pR k1 x4 x5=_:=H
 try dsimp only
 obtain _ | k1:=k1
 rw [pR]at H;cases H
 rw [pR]at H
 refine aI ?_
 revert H;refine I6 (fun c2 H=>?_) fun c2 H=>?_
 refine Z3 ?_
 refine aI ?_
 revert H;refine B4 fun y3 h3 H=>?_
 refine Z1 ?_
 refine aM ?_
 refine oT (z':=(-1)) trivial rfl rfl rfl (has rfl) (has rfl) (aD trivial) (sz rfl) (cB h3) rfl rfl ?_
 revert H;refine B5 fun z1 h4 H=>?_
 refine Z3 ?_
 refine aH [1,2,0] (by decide) ?_
 exact Tm ((k1,x4.set x5.toNat (-1),z1)) ⟨H,ls⟩
 refine Z6 ?_
 exact Tm (x4) (ij H)
 clear H;intro x1 hi;subst o1;have H:=Hr1;clear Hr1;try dsimp only at H
 try dsimp only
 refine aI ?_
 revert H;refine bs fun y4 h5 H=>?_
 apply bE (ods:=[_,_,_,_,_,_,_,_,_]) 9 2 5 bD rfl rfl rfl
 refine ND ?_
 refine M5 ?_
 intros
 refine aCb (od:=odN [3] true (fun _ v2=>eC v2) (fun _ v2=>[eI v2 63 eM y4])) (p:=3) (τ:=fun v=>eI v 63 eM y4) rfl (fun _=>rfl) (fun _=>rfl) trivial rfl rfl rfl (has rfl) (aL.cons (has rfl) aL.nil) rfl (cb rfl) (aGG fuel a0.Defs y4 h5) (fun _=>aEm) (fun u1 v2=>?_)
 refine D1 5 _ v2 (fun _ v2=>eY [fI (a0.Free.length:Int),eC v2,fEq (.slice none 0 0),fI 0]) rfl (fU (ψs:=[fI (a0.Free.length:Int),eC v2,fEq (.slice none 0 0),fI 0]) rfl aAf rfl (bH.cons (has rfl) (cC (aD trivial)) (bH.cons (has rfl) (cC (pS)) bH.nil)) rfl) (fun _=>?_)
 refine Mn 4 (fun b4=>ptr b4) (fun b4=>aA b4 25 [fI 0,fEq (.slice none 0 0),fEq (.slice none 0 0),fI 0]) rfl (cV rfl uP rfl) (fun b4 u2=>?_)
 refine tN (od:=od2 5 7 [4] true (fun _ v2 b4 _=>dN) (fun _ v2 b4 _=>[aA b4 25 [fI (a0.Free.length:Int),eC v2,fEq (.slice none 0 0),fI 0]])) (p:=4) (φs':=[fI (a0.Free.length:Int),eC v2,fEq (.slice none 0 0),fI 0]) rfl (fun _=>rfl) (fun _=>rfl) trivial rfl rfl rfl (has rfl) (has rfl) (aK (aD trivial) (aK (pS) (aK (aD trivial) (aK (aD trivial) bY)))) (sz rfl) rfl rfl rfl (fun _=>?_)
 refine Z1 ?_
 refine mW 45 rfl fH ?_
 refine mW 46 rfl (aAN (aP.cons Ent.rfl (aP.cons fH (aP.cons Ent.rfl (aP.cons Ent.rfl aP.nil))))) ?_
 refine tR 3 rfl (fun hc_v2=>?_)
 refine bB ?_
 refine aAX (aP.cons Ent.rfl (aP.cons fH (aP.cons Ent.rfl (aP.cons Ent.rfl aP.nil)))) ?_
 revert H;refine B3 fun y5 h6 H=>?_
 refine Tc (aId _ _ _ h6) ?_
 revert H;refine B2 fun o2 H Hr2=>?_
 refine aO (ι:=List Int × List CodeIns × Value) (fun i=>o2=(i.1,i.2.1)) (fun i=>[(1,fEq (ptr b1)),(2,fEq (ptr b2)),(7,fEq v1),(9,fEq (ptr b4))]) (fun i=>[aA b4 25 [fI (a0.Free.length:Int),fEq v2,fEq i.2.2,fI 0],aA b2 25 [fI 0,fEq (.slice none 0 0),fEq (.slice none 0 0),fI 0],aA b1 37 [fSl aE a0.Free,fSl aG a0.Nodes,fSl aB a0.Defs,fI a0.Main],aC v1 3 tI i.1,eI v2 63 eM y4,aC i.2.2 73 aQ i.2.1]) ?_ ?_
 refine Z4 ?_
 refine hO aQ 73 ?_
 refine aH [1,2,3,4,5,0] (by decide) ?_
 refine Tl (ι:=Nat × List Int × Int × List CodeIns × Value) (fun i=>pB fuel a0 y1 y5 i.1 i.2.1 i.2.2.1 i.2.2.2.1=_) (fun i=>i.1) (fun i=>[(1,fEq (ptr b1)),(2,fEq (ptr b2)),(5,fSl tI y1.1),(7,fEq v1),(9,fEq (ptr b4)),(10,fSl tI y5),(11,fI i.2.2.1)]) (fun i=>[aA b4 25 [fI (a0.Free.length:Int),fEq v2,fEq i.2.2.2.2,fI 0],aA b2 25 [fI 0,fEq (.slice none 0 0),fEq (.slice none 0 0),fI 0],aA b1 37 [fSl aE a0.Free,fSl aG a0.Nodes,fSl aB a0.Defs,fI a0.Main],aC v1 3 tI i.2.1,eI v2 63 eM y4,aC i.2.2.2.2 73 aQ i.2.2.2.1]) (fuel,x1,0,[],(.slice none 0 0)) H ?_
 clear H;rintro⟨k2,x11,x12,x13,v5⟩ H
 replace H:pB fuel a0 y1 y5 k2 x11 x12 x13=_:=H
 try dsimp only
 obtain _ | k2:=k2
 rw [pB]at H;cases H
 rw [pB]at H
 refine aF 5 rfl (fun hc_v5=>?_)
 refine aI ?_
 revert H;refine I6 (fun c3 H=>?_) fun c3 H=>?_
 refine Z3 ?_
 refine aI ?_
 refine Z1 ?_
 refine aI ?_
 revert H;refine bs fun y6 h7 H=>?_
 revert H;refine bs fun y7 h8 H=>?_
 apply bE (ods:=[_,_,_,_,_,_,_,_,_,_]) 10 0 6 bD rfl rfl rfl
 refine ND ?_
 refine M8 ?_
 intros
 refine M1 ?_
 intros
 refine lP (od:=odC [3] true (dN) [aC v1 3 tI (x11.set y6.toNat (x13.length:Int))]) (p:=3) (z':=(x13.length:Int)) rfl (fun _=>rfl) (fun _=>rfl) trivial rfl rfl rfl rfl (has rfl) (has rfl) (aD trivial) (sz rfl) (cB h8) rfl rfl (fun _=>?_)
 refine Z2 ?_
 refine aI ?_
 revert H;refine bs fun y8 h9 H=>?_
 revert H;refine bs fun y9 h10 H=>?_
 apply bE (ods:=[_,_,_,_,_,_,_,_,_,_,_,_]) 12 0 6 bD rfl rfl rfl
 refine ND ?_
 refine M6 ?_
 intros
 refine Nc (aHm _ _ _ _ _ h10) fun _=>?_
 refine M5 ?_
 intros
 refine Z2 ?_
 refine T_fr5 ?_
 refine cJ (φ:=fSl aQ x13) (v:=v5) [61] cW fz ?_
 refine fD (φs':=[fI (a0.Free.length:Int),fEq v2,fSl aQ x13,fI 0]) (i:=2) rfl rfl ?_
 refine cI ?_
 revert H;refine bs fun y10 h11 H=>?_
 revert H;refine bs fun y11 h12 H=>?_
 revert H;refine bs fun y12 h13 H=>?_
 apply bE (ods:=[_,_,_,_,_,_,_,_]) 8 1 6 bD rfl rfl rfl
 refine ND ?_
 refine M3 ?_
 intros
 refine Nc (mG _ _ _ _ h11) fun _=>?_
 refine mP (od:=odC [] true (fSl aQ y11) []) (Φ:=fSl aQ y11) rfl (fun _=>rfl) trivial rfl rfl (has rfl) (aL.cons (has rfl) (aL.cons (has rfl) aL.nil)) rfl (cb rfl) (aAR fuel y9.1 y10 y11 h12) (fun _=>?_)
 refine aCb (od:=odN [5] true (fun _ v6=>eC v6) (fun _ v6=>[aC v6 73 aQ y12])) (p:=5) (τ:=fun v=>aC v 73 aQ y12) rfl (fun _=>rfl) (fun _=>rfl) trivial rfl rfl rfl (has rfl) (aL.cons (has rfl) (aL.cons (has rfl) aL.nil)) rfl (cb rfl) (pF fuel x13 y11 y12 h13) (fun _=>jA) (fun u3 v6=>?_)
 refine M1 ?_
 intros
 refine qY (od:=od1 5 [0] true (fun _ v6=>dN) (fun _ v6=>[aA b4 25 [fI (a0.Free.length:Int),fEq v2,eC v6,fI 0]])) (p:=0) (φs':=[fI (a0.Free.length:Int),fEq v2,eC v6,fI 0]) rfl (fun _=>rfl) (fun _=>rfl) trivial rfl rfl rfl (has rfl) (has rfl) (pS) (sz rfl) rfl rfl (fun _=>?_)
 refine Z1 ?_
 refine mW 79 rfl fH ?_
 refine aF 5 rfl (fun hc_v6=>?_)
 refine aAX (aP.cons Ent.rfl (aP.cons Ent.rfl (aP.cons fH (aP.cons Ent.rfl aP.nil)))) ?_
 revert H;refine B5 fun z2 h14 H=>?_
 refine Z3 ?_
 exact Tm ((k2,x11.set y6.toNat (x13.length:Int),z2,y12,v6)) ⟨H,ls⟩
 exact fk
 kernel_rfl
 exact fk
 kernel_rfl
 exact fk
 kernel_rfl
 refine Z6 ?_
 exact Tm ((x11,x13,v5)) (ij H)
 clear H;intro i hi;obtain⟨x6,x7,v3⟩:=i;subst o2;have H:=Hr2;clear Hr2;try dsimp only at H
 try dsimp only
 refine aF 5 rfl (fun hc_v3=>?_)
 revert H;refine B4 fun y13 h15 H=>?_
 refine Z1 ?_
 refine Yo 3 rfl (fZ rfl rfl hh (sc rfl) (cB h15) rfl) ?_
 refine Z1 ?_
 refine cR (φs':=[fI (a0.Free.length:Int),fEq v2,fEq v3,fI y13]) trivial rfl rfl (has rfl) (has rfl) (aD trivial) (sz rfl) rfl rfl ?_
 revert H;refine B1 fun o3 H Hr3=>?_
 refine aO (ι:=List CodeIns) (fun i=>o3=i) (fun i=>[(2,fEq (ptr b2)),(7,fEq v1),(9,fEq (ptr b4))]) (fun i=>[aA b4 25 [fI (a0.Free.length:Int),fEq v2,fEq v3,fI y13],aA b2 25 [fI 0,fEq (.slice none 0 0),fEq (.slice none 0 0),fI 0],aA b1 37 [fSl aE a0.Free,fSl aG a0.Nodes,fSl aB a0.Defs,fI a0.Main],aC v1 3 tI x6,eI v2 63 eM y4,aC v3 73 aQ i]) ?_ ?_
 refine Z4 ?_
 refine Tl (ι:=Nat × Int × List CodeIns) (fun i=>oD x6 i.1 i.2.1 i.2.2=_) (fun i=>i.1) (fun i=>[(2,fEq (ptr b2)),(7,fEq v1),(9,fEq (ptr b4)),(14,fI i.2.1)]) (fun i=>[aA b4 25 [fI (a0.Free.length:Int),fEq v2,fEq v3,fI y13],aA b2 25 [fI 0,fEq (.slice none 0 0),fEq (.slice none 0 0),fI 0],aA b1 37 [fSl aE a0.Free,fSl aG a0.Nodes,fSl aB a0.Defs,fI a0.Main],aC v1 3 tI x6,eI v2 63 eM y4,aC v3 73 aQ i.2.2]) (fuel,0,x7) H ?_
 clear H;rintro⟨k3,x17,x18⟩ H
 replace H:oD x6 k3 x17 x18=_:=H
 try dsimp only
 obtain _ | k3:=k3
 rw [oD]at H;cases H
 rw [oD]at H
 refine aI ?_
 revert H;refine I7 (fun c4 H=>?_) fun c4 H=>?_
 revert H;refine B3 fun o4 H Hr4=>?_
 refine aO (ι:=List CodeIns) (fun i=>o4=i) (fun i=>[(2,fEq (ptr b2)),(7,fEq v1),(9,fEq (ptr b4)),(14,fI x17)]) (fun i=>[aA b4 25 [fI (a0.Free.length:Int),fEq v2,fEq v3,fI y13],aA b2 25 [fI 0,fEq (.slice none 0 0),fEq (.slice none 0 0),fI 0],aA b1 37 [fSl aE a0.Free,fSl aG a0.Nodes,fSl aB a0.Defs,fI a0.Main],aC v1 3 tI x6,eI v2 63 eM y4,aC v3 73 aQ i]) ?_ ?_
 revert H;refine B5 fun y14 h16 H=>?_
 refine Z1 ?_
 refine Yy (gS 0 rfl hh (fa rfl) rfl) ?_
 refine Yo 5 rfl (fZ rfl rfl hh (sc rfl) (cB h16) rfl) ?_
 revert H;refine bs fun y15 h17 H=>?_
 refine Tc (r09_on_w _ _ h17) ?_
 refine Z1 ?_
 revert H;refine cs (fun c5 H=>?_) fun c5 H=>?_
 revert H;refine B1 fun y16 h18 H=>?_
 revert H;refine bs fun y17 h19 H=>?_
 revert H;refine bs fun y18 h20 H=>?_
 apply bE (ods:=[_,_,_,_,_,_,_,_,_,_,_,_,_,_,_]) 15 0 6 bD rfl rfl rfl
 refine ND ?_
 refine M8 ?_
 intros
 refine My (gS 2 rfl hh (fa rfl) rfl) fun _=>?_
 refine Mo 5 rfl (fZ rfl rfl hh (sc rfl) (cB h18) rfl) fun _=>?_
 refine M1 ?_
 intros
 refine Mo 3 rfl (fZ rfl rfl hh (sc rfl) (cB h19) rfl) fun _=>?_
 refine M1 ?_
 intros
 refine My (gS 2 rfl hh (fa rfl) rfl) fun _=>?_
 refine lP (od:=odC [5] true (dN) [aC v3 73 aQ (x18.set x17.toNat ({ y18 with B:=y17 }))]) (p:=5) (z':={ y18 with B:=y17 }) rfl (fun _=>rfl) (fun _=>rfl) trivial rfl rfl rfl rfl (has rfl) (has rfl) (aD trivial) (sz rfl) (cB h20) rfl rfl (fun _=>?_)
 refine Z4 ?_
 exact Tm (x18.set x17.toNat ({ y18 with B:=y17 })) (ij H)
 exact fk
 kernel_rfl
 refine Z4 ?_
 exact Tm (x18) (ij H)
 clear H;intro x19 hi;subst o4;have H:=Hr4;clear Hr4;try dsimp only at H
 try dsimp only
 revert H;refine B2 fun z3 h21 H=>?_
 refine Z3 ?_
 exact Tm ((k3,z3,x19)) ⟨H,ls⟩
 refine Z6 ?_
 exact Tm (x18) (ij H)
 clear H;intro x14 hi;subst o3;have H:=Hr3;clear Hr3;try dsimp only at H
 try dsimp only
 revert H;refine bs fun o5 H Hr5=>?_
 refine aO (ι:=List ScopeDef) (fun i=>o5=i) (fun i=>[(2,fEq (ptr b2)),(7,fEq v1),(9,fEq (ptr b4))]) (fun i=>[aA b4 25 [fI (a0.Free.length:Int),fEq v2,fEq v3,fI y13],aA b2 25 [fI 0,fEq (.slice none 0 0),fEq (.slice none 0 0),fI 0],aA b1 37 [fSl aE a0.Free,fSl aG a0.Nodes,fSl aB a0.Defs,fI a0.Main],aC v1 3 tI x6,eI v2 63 eM i,aC v3 73 aQ x14]) ?_ ?_
 refine Z4 ?_
 refine Tl (ι:=Nat × Int × List ScopeDef) (fun i=>oV fuel x6 i.1 i.2.1 i.2.2=_) (fun i=>i.1) (fun i=>[(2,fEq (ptr b2)),(7,fEq v1),(9,fEq (ptr b4)),(15,fI i.2.1)]) (fun i=>[aA b4 25 [fI (a0.Free.length:Int),fEq v2,fEq v3,fI y13],aA b2 25 [fI 0,fEq (.slice none 0 0),fEq (.slice none 0 0),fI 0],aA b1 37 [fSl aE a0.Free,fSl aG a0.Nodes,fSl aB a0.Defs,fI a0.Main],aC v1 3 tI x6,eI v2 63 eM i.2.2,aC v3 73 aQ x14]) (fuel,0,y4) H ?_
 clear H;rintro⟨k4,x23,x24⟩ H
 replace H:oV fuel x6 k4 x23 x24=_:=H
 try dsimp only
 obtain _ | k4:=k4
 rw [oV]at H;cases H
 rw [oV]at H
 refine aI ?_
 refine Z4 ?_
 refine Yo 4 rfl (o_lenG rfl hh (us rfl)) ?_
 revert H;refine I2 (fun c6 H=>?_) fun c6 H=>?_
 revert H;refine B3 fun o6 H Hr6=>?_
 refine aO (ι:=List ScopeDef) (fun i=>o6=i) (fun i=>[(2,fEq (ptr b2)),(7,fEq v1),(9,fEq (ptr b4)),(15,fI x23)]) (fun i=>[aA b4 25 [fI (a0.Free.length:Int),fEq v2,fEq v3,fI y13],aA b2 25 [fI 0,fEq (.slice none 0 0),fEq (.slice none 0 0),fI 0],aA b1 37 [fSl aE a0.Free,fSl aG a0.Nodes,fSl aB a0.Defs,fI a0.Main],aC v1 3 tI x6,eI v2 63 eM i,aC v3 73 aQ x14]) ?_ ?_
 revert H;refine B1 fun o7 H Hr7=>?_
 refine aO (ι:=List ScopeDef) (fun i=>o7=i) (fun i=>[(2,fEq (ptr b2)),(7,fEq v1),(9,fEq (ptr b4)),(15,fI x23)]) (fun i=>[aA b4 25 [fI (a0.Free.length:Int),fEq v2,fEq v3,fI y13],aA b2 25 [fI 0,fEq (.slice none 0 0),fEq (.slice none 0 0),fI 0],aA b1 37 [fSl aE a0.Free,fSl aG a0.Nodes,fSl aB a0.Defs,fI a0.Main],aC v1 3 tI x6,eI v2 63 eM i,aC v3 73 aQ x14]) ?_ ?_
 refine Z4 ?_
 refine Tl (ι:=Nat × Int × List ScopeDef) (fun i=>oE x6 x23 i.1 i.2.1 i.2.2=_) (fun i=>i.1) (fun i=>[(2,fEq (ptr b2)),(7,fEq v1),(9,fEq (ptr b4)),(15,fI x23),(16,fI i.2.1)]) (fun i=>[aA b4 25 [fI (a0.Free.length:Int),fEq v2,fEq v3,fI y13],aA b2 25 [fI 0,fEq (.slice none 0 0),fEq (.slice none 0 0),fI 0],aA b1 37 [fSl aE a0.Free,fSl aG a0.Nodes,fSl aB a0.Defs,fI a0.Main],aC v1 3 tI x6,eI v2 63 eM i.2.2,aC v3 73 aQ x14]) (fuel,0,x24) H ?_
 clear H;rintro⟨k5,x29,x30⟩ H
 replace H:oE x6 x23 k5 x29 x30=_:=H
 try dsimp only
 obtain _ | k5:=k5
 rw [oE]at H;cases H
 rw [oE]at H
 refine aI ?_
 revert H;refine B5 fun y19 h22 H=>?_
 refine Yo 4 rfl (uH rfl hh hh (el rfl) h22) ?_
 refine Yy (gS 2 rfl hh (fa rfl) rfl) ?_
 refine bB ?_
 refine aFC (i:=x23.toNat) (k:=2) (y:=y19) (f:=(fun v=>aC v 114 aZ y19.Rules)) (cB h22) rfl (fun v7=>?_)
 refine aF 0 rfl (fun hc_v7=>?_)
 refine Yo 1 rfl (uT rfl rfl hh (sc rfl) (cB h22) rfl) ?_
 revert H;refine I3 (fun c7 H=>?_) fun c7 H=>?_
 refine Z3 ?_
 refine aI ?_
 revert H;refine B1 fun y20 h23 H=>?_
 revert H;refine bs fun y21 h24 H=>?_
 revert H;refine bs fun y22 h25 H=>?_
 revert H;refine bs fun y23 h26 H=>?_
 revert H;refine bs fun y24 h27 H=>?_
 apply bE (ods:=[_,_,_,_,_,_,_,_,_,_,_,_,_,_,_,_,_,_,_,_,_,_,_]) 23 0 7 bD rfl rfl rfl
 refine ND ?_
 refine M3 ?_
 intros
 refine Mo 1 rfl (uH rfl hh hh (el rfl) h23) fun _=>?_
 refine My (gS 2 rfl hh (fa rfl) rfl) fun _=>?_
 refine Mo 1 rfl (uT rfl rfl hh (sc rfl) (cB h23) rfl) fun _=>?_
 refine M5 ?_
 intros
 refine Mo 1 rfl (uH rfl hh hh (el rfl) h24) fun _=>?_
 refine My (gS 2 rfl hh (fa rfl) rfl) fun _=>?_
 refine Mo 1 rfl (uT rfl rfl hh (sc rfl) (cB h24) rfl) fun _=>?_
 refine M2 ?_
 intros
 refine My (gS 2 rfl hh (fa rfl) rfl) fun _=>?_
 refine Mo 0 rfl (fZ rfl rfl hh (sc rfl) (cB h25) rfl) fun _=>?_
 refine M1 ?_
 intros
 refine Mo 5 rfl (fZ rfl rfl hh (sc rfl) (cB h26) rfl) fun _=>?_
 refine M1 ?_
 intros
 refine My (gS 2 rfl hh (fa rfl) rfl) fun _=>?_
 refine lP (od:=odC [0] true (dN) [aC v7 114 aZ (y19.Rules.set x29.toNat ({ y24 with Node:=y23 }))]) (p:=0) (z':={ y24 with Node:=y23 }) rfl (fun _=>rfl) (fun _=>rfl) trivial rfl rfl rfl rfl (has rfl) (has rfl) (aD trivial) (sz rfl) (cB h27) rfl rfl (fun _=>?_)
 revert H;refine B6 fun z4 h28 H=>?_
 refine Z3 ?_
 refine aAq (o:=eM) (i:=x23.toNat) (k:=2) (y:=y19) (y':={ y19 with Rules:=y19.Rules.set x29.toNat ({ y24 with Node:=y23 }) }) (f:=(fun v=>aC v 114 aZ (y19.Rules.set x29.toNat ({ y24 with Node:=y23 })))) (hf:=(fun _=>jA)) (cB h22) rfl rfl ?_
 refine aH [1,2,3,4,0,5] (by decide) ?_
 exact Tm ((k5,z4,x30.set x23.toNat ({ y19 with Rules:=y19.Rules.set x29.toNat ({ y24 with Node:=y23 }) }))) ⟨H,ls⟩
 exact fk
 kernel_rfl
 refine Z6 ?_
 refine aAq (o:=eM) (i:=x23.toNat) (k:=2) (y:=y19) (y':={ y19 with Rules:=y19.Rules }) (f:=(fun v=>aC v 114 aZ y19.Rules)) (hf:=(fun _=>jA)) (cB h22) rfl rfl ?_
 refine aH [1,2,3,4,0,5] (by decide) ?_
 exact Tm (x30.set x23.toNat ({ y19 with Rules:=y19.Rules })) (ij H)
 clear H;intro x26 hi;subst o7;have H:=Hr7;clear Hr7;try dsimp only at H
 try dsimp only
 refine Z4 ?_
 refine Tl (ι:=Nat × Int × List ScopeDef) (fun i=>nA x6 x23 i.1 i.2.1 i.2.2=_) (fun i=>i.1) (fun i=>[(2,fEq (ptr b2)),(7,fEq v1),(9,fEq (ptr b4)),(15,fI x23),(17,fI i.2.1)]) (fun i=>[aA b4 25 [fI (a0.Free.length:Int),fEq v2,fEq v3,fI y13],aA b2 25 [fI 0,fEq (.slice none 0 0),fEq (.slice none 0 0),fI 0],aA b1 37 [fSl aE a0.Free,fSl aG a0.Nodes,fSl aB a0.Defs,fI a0.Main],aC v1 3 tI x6,eI v2 63 eM i.2.2,aC v3 73 aQ x14]) (fuel,0,x26) H ?_
 clear H;rintro⟨k6,x33,x34⟩ H
 replace H:nA x6 x23 k6 x33 x34=_:=H
 try dsimp only
 obtain _ | k6:=k6
 rw [nA]at H;cases H
 rw [nA]at H
 refine aI ?_
 revert H;refine B5 fun y25 h29 H=>?_
 refine Yo 4 rfl (uH rfl hh hh (el rfl) h29) ?_
 refine Yy (gS 1 rfl hh (fa rfl) rfl) ?_
 refine bB ?_
 refine aFC (i:=x23.toNat) (k:=1) (y:=y25) (f:=(fun v=>aC v 112 aY y25.Spots)) (cB h29) rfl (fun v8=>?_)
 refine aF 0 rfl (fun hc_v8=>?_)
 refine Yo 1 rfl (uT rfl rfl hh (sc rfl) (cB h29) rfl) ?_
 revert H;refine I3 (fun c8 H=>?_) fun c8 H=>?_
 refine Z3 ?_
 refine aI ?_
 revert H;refine B1 fun y26 h30 H=>?_
 revert H;refine bs fun y27 h31 H=>?_
 revert H;refine bs fun y28 h32 H=>?_
 revert H;refine bs fun y29 h33 H=>?_
 revert H;refine bs fun y30 h34 H=>?_
 apply bE (ods:=[_,_,_,_,_,_,_,_,_,_,_,_,_,_,_,_,_,_,_,_,_,_,_]) 23 0 7 bD rfl rfl rfl
 refine ND ?_
 refine M3 ?_
 intros
 refine Mo 1 rfl (uH rfl hh hh (el rfl) h30) fun _=>?_
 refine My (gS 1 rfl hh (fa rfl) rfl) fun _=>?_
 refine Mo 1 rfl (uT rfl rfl hh (sc rfl) (cB h30) rfl) fun _=>?_
 refine M5 ?_
 intros
 refine Mo 1 rfl (uH rfl hh hh (el rfl) h31) fun _=>?_
 refine My (gS 1 rfl hh (fa rfl) rfl) fun _=>?_
 refine Mo 1 rfl (uT rfl rfl hh (sc rfl) (cB h31) rfl) fun _=>?_
 refine M2 ?_
 intros
 refine My (gS 1 rfl hh (fa rfl) rfl) fun _=>?_
 refine Mo 0 rfl (fZ rfl rfl hh (sc rfl) (cB h32) rfl) fun _=>?_
 refine M1 ?_
 intros
 refine Mo 5 rfl (fZ rfl rfl hh (sc rfl) (cB h33) rfl) fun _=>?_
 refine M1 ?_
 intros
 refine My (gS 1 rfl hh (fa rfl) rfl) fun _=>?_
 refine lP (od:=odC [0] true (dN) [aC v8 112 aY (y25.Spots.set x33.toNat ({ y30 with Node:=y29 }))]) (p:=0) (z':={ y30 with Node:=y29 }) rfl (fun _=>rfl) (fun _=>rfl) trivial rfl rfl rfl rfl (has rfl) (has rfl) (aD trivial) (sz rfl) (cB h34) rfl rfl (fun _=>?_)
 revert H;refine B6 fun z5 h35 H=>?_
 refine Z3 ?_
 refine aAq (o:=eM) (i:=x23.toNat) (k:=1) (y:=y25) (y':={ y25 with Spots:=y25.Spots.set x33.toNat ({ y30 with Node:=y29 }) }) (f:=(fun v=>aC v 112 aY (y25.Spots.set x33.toNat ({ y30 with Node:=y29 })))) (hf:=(fun _=>jA)) (cB h29) rfl rfl ?_
 refine aH [1,2,3,4,0,5] (by decide) ?_
 exact Tm ((k6,z5,x34.set x23.toNat ({ y25 with Spots:=y25.Spots.set x33.toNat ({ y30 with Node:=y29 }) }))) ⟨H,ls⟩
 exact fk
 kernel_rfl
 refine Z7 ?_
 refine aAq (o:=eM) (i:=x23.toNat) (k:=1) (y:=y25) (y':={ y25 with Spots:=y25.Spots }) (f:=(fun v=>aC v 112 aY y25.Spots)) (hf:=(fun _=>jA)) (cB h29) rfl rfl ?_
 refine aH [1,2,3,4,0,5] (by decide) ?_
 exact Tm (x34.set x23.toNat ({ y25 with Spots:=y25.Spots })) (ij H)
 clear H;intro x25 hi;subst o6;have H:=Hr6;clear Hr6;try dsimp only at H
 try dsimp only
 revert H;refine B2 fun z6 h36 H=>?_
 refine Z3 ?_
 exact Tm ((k4,z6,x25)) ⟨H,ls⟩
 refine Z6 ?_
 exact Tm (x24) (ij H)
 clear H;intro x20 hi;subst o5;have H:=Hr5;clear Hr5;try dsimp only at H
 try dsimp only
 refine Z3 ?_
 refine bZ ?_
 refine dR (φs':=[fI (a0.Free.length:Int),fEq v2,fEq v3,fI y13]) trivial rfl rfl (has rfl) (has rfl) (aK (aD trivial) (aK (aD hc_v2) (aK (aD hc_v3) (aK (aD trivial) bY)))) (sz rfl) rfl rfl rfl ?_
 refine Z4 ?_
 refine bB ?_
 refine cJ (φ:=fSl aB x20) (v:=v2) [] (frz_rowD rfl aHE) (fun _ h=>nomatch h) ?_
 refine aM ?_
 refine bZ ?_
 refine fD (φs':=[fI (a0.Free.length:Int),fSl aB x20,fEq v3,fI y13]) (i:=1) rfl rfl ?_
 refine aM ?_
 refine bZ ?_
 refine fD (φs':=[fI (a0.Free.length:Int),fSl aB x20,fEq v3,fI y13]) (i:=1) rfl rfl ?_
 refine sB 188 (ψ:=eY [fI (a0.Free.length:Int),fEq v2,fEq v3,fI y13]) rfl (rE (i:=1) (φs:=[fI (a0.Free.length:Int),fEq v2,fEq v3,fI y13]) (φs':=[fI (a0.Free.length:Int),fSl aB x20,fEq v3,fI y13]) rfl rfl) ?_
 refine cI ?_
 refine bB ?_
 refine cJ (φ:=fSl aQ x14) (v:=v3) [] cW (fun _ h=>nomatch h) ?_
 refine aM ?_
 refine bZ ?_
 refine fD (φs':=[fI (a0.Free.length:Int),fSl aB x20,fSl aQ x14,fI y13]) (i:=2) rfl rfl ?_
 refine aM ?_
 refine bZ ?_
 refine fD (φs':=[fI (a0.Free.length:Int),fSl aB x20,fSl aQ x14,fI y13]) (i:=2) rfl rfl ?_
 refine sB 188 (ψ:=eY [fI (a0.Free.length:Int),fSl aB x20,fEq v3,fI y13]) rfl (rE (i:=2) (φs:=[fI (a0.Free.length:Int),fSl aB x20,fEq v3,fI y13]) (φs':=[fI (a0.Free.length:Int),fSl aB x20,fSl aQ x14,fI y13]) rfl rfl) ?_
 refine cI ?_
 refine bO ?_
 refine cJ (φ:=fSl tI x6) (v:=v1) [7,189,3] cW fz ?_
 refine cI ?_
 cases H
 refine aH [0] (by decide) ?_
 exact aEQ rfl (ag rfl) rfl (bA rfl) (bA rfl) (bA rfl) Ent.rfl rfl
 exact fk
 kernel_rfl
open Go.SX Go.SW Go.Dt
def qD (a0:ScopeDef) (a1:ScopeDef):Nat → Int → Option ((Unit) ⊕ (Bool))
| 0,_=>none
| k+1,x2=>
 if x2<(a0.Chans.length:Int)then
  (idx a0.Chans x2).bind fun y1=>
  (idx a1.Chans x2).bind fun y2=>
  bif decide (y1.At=y2.At) && decide (y1.Many=y2.Many)then
   (chk (x2+1)).bind fun z1=>
   qD a0 a1 k z1
  else
   (some false).bind fun r=>some (Sum.inr r)
 else
  some (Sum.inl ())
def qK (a0:ScopeDef) (a1:ScopeDef):Nat → Int → Option ((Unit) ⊕ (Bool))
| 0,_=>none
| k+1,x4=>
 if x4<(a0.Spots.length:Int)then
  (idx a0.Spots x4).bind fun y3=>
  (idx a1.Spots x4).bind fun y4=>
  bif decide (y3.In=y4.In) && decide (y3.Node=y4.Node)then
   (chk (x4+1)).bind fun z2=>
   qK a0 a1 k z2
  else
   (some false).bind fun r=>some (Sum.inr r)
 else
  some (Sum.inl ())
def pK (y5:ScopeRule) (y6:ScopeRule):Nat → Int → Option ((Unit) ⊕ ((Unit) ⊕ (Bool)))
| 0,_=>none
| k+1,x8=>
 if x8<(y5.Joins.length:Int)then
  (idx y5.Joins x8).bind fun y7=>
  (idx y6.Joins x8).bind fun y8=>
  if y7≠y8 then
   ((some false).bind fun r=>some (Sum.inr r)).bind fun r=>some (Sum.inr r)
  else
   (chk (x8+1)).bind fun z3=>
   pK y5 y6 k z3
 else
  some (Sum.inl ())
def pI (fuel:Nat) (a0:ScopeDef) (a1:ScopeDef):Nat → Int → Option ((Unit) ⊕ (Bool))
| 0,_=>none
| k+1,x6=>
 if x6<(a0.Rules.length:Int)then
  ((idx a0.Rules x6).bind fun y5=>
  (idx a1.Rules x6).bind fun y6=>
  if y5.At≠y6.At then
   ((some false).bind fun r=>some (Sum.inr r)).bind fun r=>some (Sum.inr r)
  else
   if y5.Node≠y6.Node then
    ((some false).bind fun r=>some (Sum.inr r)).bind fun r=>some (Sum.inr r)
   else
    if (y5.Joins.length:Int)≠(y6.Joins.length:Int)then
     ((some false).bind fun r=>some (Sum.inr r)).bind fun r=>some (Sum.inr r)
    else
     pK y5 y6 fuel 0).bind fun o=>match o with
  | Sum.inr r=>some r
  | Sum.inl _=>
  (chk (x6+1)).bind fun z4=>
  pI fuel a0 a1 k z4
 else
  some (Sum.inl ())
def vM (fuel:Nat) (a0:ScopeDef) (a1:ScopeDef):Option (Bool):=
 if (a0.Chans.length:Int)≠(a1.Chans.length:Int)then
  some false
 else
  if (a0.Spots.length:Int)≠(a1.Spots.length:Int)then
   some false
  else
   if (a0.Rules.length:Int)≠(a1.Rules.length:Int)then
    some false
   else
    (qD a0 a1 fuel 0).bind fun o=>match o with
    | Sum.inr r=>some r
    | Sum.inl _=>
    (qK a0 a1 fuel 0).bind fun o=>match o with
    | Sum.inr r=>some r
    | Sum.inl _=>
    (pI fuel a0 a1 fuel 0).bind fun o=>match o with
    | Sum.inr r=>some r
    | Sum.inl _=>
    some true
theorem aIl (fuel:Nat)  (a0:ScopeDef) (a1:ScopeDef) (r:Bool) (H:vM fuel a0 a1=some r):FnS Tryz.prog 90 [fSt aB a0,fSt aB a1] [] (aJ r) (fun _=>[]):=by
 unfold vM at H
 refine bS Tryz.func90 rfl Tryz.ntmps90 rfl (fun β=>?_)
 refine Z1 ?_
 refine Tn (cO rfl hh bW) fun b1=>?_
 refine Tn (cO rfl hh bW) fun b2=>?_
 refine Z2 ?_
 refine aI ?_
 revert H;refine I9 (fun c1 H=>?_) fun c1 H=>?_
 refine Z12 ?_
 refine Z11 ?_
 cases H
 refine aH [] (by decide) ?_
 exact To
 revert H;refine I9 (fun c2 H=>?_) fun c2 H=>?_
 refine Z12 ?_
 refine Z2 ?_
 cases H
 refine aH [] (by decide) ?_
 exact To
 revert H;refine I9 (fun c3 H=>?_) fun c3 H=>?_
 refine Z5 ?_
 cases H
 refine aH [] (by decide) ?_
 exact To
 revert H;refine B3 fun o1 H Hr1=>?_
 refine aO (ι:=Unit) (fun i=>o1=Sum.inl ()) (fun i=>[(2,fEq (ptr b1)),(3,fEq (ptr b2))]) (fun i=>[aA b2 63 [fSl aS a1.Chans,fSl aY a1.Spots,fSl aZ a1.Rules],aA b1 63 [fSl aS a0.Chans,fSl aY a0.Spots,fSl aZ a0.Rules]]) ?_ ?_
 refine Z4 ?_
 refine Tl (ι:=Nat × Int) (fun i=>qD a0 a1 i.1 i.2=_) (fun i=>i.1) (fun i=>[(2,fEq (ptr b1)),(3,fEq (ptr b2)),(5,fI i.2)]) (fun i=>[aA b2 63 [fSl aS a1.Chans,fSl aY a1.Spots,fSl aZ a1.Rules],aA b1 63 [fSl aS a0.Chans,fSl aY a0.Spots,fSl aZ a0.Rules]]) (fuel,0) H ?_
 clear H;rintro⟨k1,x2⟩ H
 replace H:qD a0 a1 k1 x2=_:=H
 try dsimp only
 obtain _ | k1:=k1
 rw [qD]at H;cases H
 rw [qD]at H
 refine aI ?_
 revert H;refine I7 (fun c4 H=>?_) fun c4 H=>?_
 refine Z3 ?_
 refine aI ?_
 refine Z1 ?_
 refine aI ?_
 revert H;refine bs fun y1 h1 H=>?_
 revert H;refine bs fun y2 h2 H=>?_
 apply bE (ods:=[_,_,_,_,_,_,_,_,_,_,_]) 11 0 2 bD rfl rfl rfl
 refine ND ?_
 refine M8 ?_
 intros
 refine M2 ?_
 intros
 refine My (aDG rfl hh hh rfl rfl aH0) fun _=>?_
 refine Z2 ?_
 revert H;refine cs (fun c5 H=>?_) fun c5 H=>?_
 revert H;refine B6 fun z1 h3 H=>?_
 refine Z3 ?_
 exact Tm ((k1,z1)) ⟨H,ls⟩
 revert H;refine B10 fun r1 H e1=>?_
 cases e1;cases Hr1
 cases H
 refine aH [] (by decide) ?_
 exact To
 exact fk
 kernel_rfl
 refine Z6 ?_
 exact Tm (()) (ij H)
 clear H;intro i hi;subst o1;have H:=Hr1;clear Hr1;try dsimp only at H
 try dsimp only
 revert H;refine bs fun o2 H Hr2=>?_
 refine aO (ι:=Unit) (fun i=>o2=Sum.inl ()) (fun i=>[(2,fEq (ptr b1)),(3,fEq (ptr b2))]) (fun i=>[aA b2 63 [fSl aS a1.Chans,fSl aY a1.Spots,fSl aZ a1.Rules],aA b1 63 [fSl aS a0.Chans,fSl aY a0.Spots,fSl aZ a0.Rules]]) ?_ ?_
 refine Z4 ?_
 refine Tl (ι:=Nat × Int) (fun i=>qK a0 a1 i.1 i.2=_) (fun i=>i.1) (fun i=>[(2,fEq (ptr b1)),(3,fEq (ptr b2)),(6,fI i.2)]) (fun i=>[aA b2 63 [fSl aS a1.Chans,fSl aY a1.Spots,fSl aZ a1.Rules],aA b1 63 [fSl aS a0.Chans,fSl aY a0.Spots,fSl aZ a0.Rules]]) (fuel,0) H ?_
 clear H;rintro⟨k2,x4⟩ H
 replace H:qK a0 a1 k2 x4=_:=H
 try dsimp only
 obtain _ | k2:=k2
 rw [qK]at H;cases H
 rw [qK]at H
 refine aI ?_
 revert H;refine I7 (fun c6 H=>?_) fun c6 H=>?_
 refine Z3 ?_
 refine aI ?_
 refine Z1 ?_
 refine aI ?_
 revert H;refine bs fun y3 h4 H=>?_
 revert H;refine bs fun y4 h5 H=>?_
 apply bE (ods:=[_,_,_,_,_,_,_,_,_,_,_]) 11 0 2 bD rfl rfl rfl
 refine ND ?_
 refine M8 ?_
 intros
 refine M2 ?_
 intros
 refine My (aDG rfl hh hh rfl rfl aGS) fun _=>?_
 refine Z2 ?_
 revert H;refine cs (fun c7 H=>?_) fun c7 H=>?_
 revert H;refine B6 fun z2 h6 H=>?_
 refine Z3 ?_
 exact Tm ((k2,z2)) ⟨H,ls⟩
 revert H;refine B10 fun r2 H e2=>?_
 cases e2;cases Hr2
 cases H
 refine aH [] (by decide) ?_
 exact To
 exact fk
 kernel_rfl
 refine Z6 ?_
 exact Tm (()) (ij H)
 clear H;intro i hi;subst o2;have H:=Hr2;clear Hr2;try dsimp only at H
 try dsimp only
 revert H;refine bs fun o3 H Hr3=>?_
 refine aO (ι:=Unit) (fun i=>o3=Sum.inl ()) (fun i=>[]) (fun i=>[aA b2 63 [fSl aS a1.Chans,fSl aY a1.Spots,fSl aZ a1.Rules],aA b1 63 [fSl aS a0.Chans,fSl aY a0.Spots,fSl aZ a0.Rules]]) ?_ ?_
 refine Z4 ?_
 refine Tl (ι:=Nat × Int) (fun i=>pI fuel a0 a1 i.1 i.2=_) (fun i=>i.1) (fun i=>[(2,fEq (ptr b1)),(3,fEq (ptr b2)),(7,fI i.2)]) (fun i=>[aA b2 63 [fSl aS a1.Chans,fSl aY a1.Spots,fSl aZ a1.Rules],aA b1 63 [fSl aS a0.Chans,fSl aY a0.Spots,fSl aZ a0.Rules]]) (fuel,0) H ?_
 clear H;rintro⟨k3,x6⟩ H
 replace H:pI fuel a0 a1 k3 x6=_:=H
 try dsimp only
 obtain _ | k3:=k3
 rw [pI]at H;cases H
 rw [pI]at H
 refine aI ?_
 revert H;refine I7 (fun c8 H=>?_) fun c8 H=>?_
 revert H;refine B3 fun o4 H Hr4=>?_
 refine aO (ι:=Unit) (fun i=>o4=Sum.inl ()) (fun i=>[(2,fEq (ptr b1)),(3,fEq (ptr b2)),(7,fI x6)]) (fun i=>[aA b2 63 [fSl aS a1.Chans,fSl aY a1.Spots,fSl aZ a1.Rules],aA b1 63 [fSl aS a0.Chans,fSl aY a0.Spots,fSl aZ a0.Rules]]) ?_ ?_
 refine Z1 ?_
 refine aI ?_
 revert H;refine bs fun y5 h7 H=>?_
 revert H;refine bs fun y6 h8 H=>?_
 apply bE (ods:=[_,_,_,_,_,_,_,_,_,_,_,_,_,_]) 14 2 4 bD rfl rfl rfl
 refine ND ?_
 refine M8 ?_
 intros
 refine M2 ?_
 intros
 refine Mn 2 (fun b3=>ptr b3) (fun b3=>aA b3 114 [fI 0,fEq (.slice none 0 0),fI 0]) rfl (cV rfl pY rfl) (fun b3 u1=>?_)
 refine Mn 3 (fun b4=>ptr b4) (fun b4=>aA b4 114 [fI 0,fEq (.slice none 0 0),fI 0]) rfl (cV rfl pY rfl) (fun b4 u2=>?_)
 refine tN (od:=od1 10 [2] true (fun b3 _=>dN) (fun b3 _=>[aA b3 114 [fI y5.At,fSl tI y5.Joins,fI y5.Node]])) (p:=2) (φs':=[fI y5.At,fSl tI y5.Joins,fI y5.Node]) rfl (fun _=>rfl) (fun _=>rfl) trivial rfl rfl rfl (has rfl) (has rfl) (aK (aD trivial) (aK (bU) (aK (aD trivial) bY))) (sz rfl) rfl rfl rfl (fun _=>?_)
 refine tN (od:=od1 11 [3] true (fun b4 _=>dN) (fun b4 _=>[aA b4 114 [fI y6.At,fSl tI y6.Joins,fI y6.Node]])) (p:=3) (φs':=[fI y6.At,fSl tI y6.Joins,fI y6.Node]) rfl (fun _=>rfl) (fun _=>rfl) trivial rfl rfl rfl (has rfl) (has rfl) (aK (aD trivial) (aK (bU) (aK (aD trivial) bY))) (sz rfl) rfl rfl rfl (fun _=>?_)
 refine Z2 ?_
 refine aI ?_
 revert H;refine I7 (fun c9 H=>?_) fun c9 H=>?_
 refine Z12 ?_
 revert H;refine B11 fun r3 H e3=>?_
 cases e3;cases Hr4
 revert H;refine B3 fun r4 H e4=>?_
 cases e4;cases Hr3
 cases H
 refine aH [] (by decide) ?_
 exact To
 revert H;refine I7 (fun c10 H=>?_) fun c10 H=>?_
 refine Z12 ?_
 revert H;refine B4 fun r5 H e5=>?_
 cases e5;cases Hr4
 revert H;refine B3 fun r6 H e6=>?_
 cases e6;cases Hr3
 cases H
 refine aH [] (by decide) ?_
 exact To
 revert H;refine I9 (fun c11 H=>?_) fun c11 H=>?_
 revert H;refine B7 fun r7 H e7=>?_
 cases e7;cases Hr4
 revert H;refine B3 fun r8 H e8=>?_
 cases e8;cases Hr3
 cases H
 refine aH [] (by decide) ?_
 exact To
 refine Z7 ?_
 refine Tl (ι:=Nat × Int) (fun i=>pK y5 y6 i.1 i.2=_) (fun i=>i.1) (fun i=>[(2,fEq (ptr b1)),(3,fEq (ptr b2)),(7,fI x6),(8,fEq (ptr b3)),(9,fEq (ptr b4)),(10,fI i.2)]) (fun i=>[aA b2 63 [fSl aS a1.Chans,fSl aY a1.Spots,fSl aZ a1.Rules],aA b1 63 [fSl aS a0.Chans,fSl aY a0.Spots,fSl aZ a0.Rules],aA b3 114 [fI y5.At,fSl tI y5.Joins,fI y5.Node],aA b4 114 [fI y6.At,fSl tI y6.Joins,fI y6.Node]]) (fuel,0) H ?_
 clear H;rintro⟨k4,x8⟩ H
 replace H:pK y5 y6 k4 x8=_:=H
 try dsimp only
 obtain _ | k4:=k4
 rw [pK]at H;cases H
 rw [pK]at H
 refine aI ?_
 revert H;refine I7 (fun c12 H=>?_) fun c12 H=>?_
 refine Z3 ?_
 refine aI ?_
 refine Z1 ?_
 refine aI ?_
 revert H;refine bs fun y7 h9 H=>?_
 revert H;refine bs fun y8 h10 H=>?_
 apply bE (ods:=[_,_,_,_,_,_,_,_,_,_,_]) 11 0 4 bD rfl rfl rfl
 refine ND ?_
 refine M8 ?_
 intros
 refine M3 ?_
 intros
 revert H;refine I2 (fun c13 H=>?_) fun c13 H=>?_
 revert H;refine B11 fun r9 H e9=>?_
 cases e9;cases Hr4
 revert H;refine B3 fun r10 H e10=>?_
 cases e10;cases Hr3
 cases H
 refine aH [] (by decide) ?_
 exact To
 revert H;refine B6 fun z3 h11 H=>?_
 refine Z3 ?_
 exact Tm ((k4,z3)) ⟨H,ls⟩
 exact fk
 kernel_rfl
 refine Z7 ?_
 refine aH [0,1] (by decide) ?_
 exact Tm (()) (ij H)
 exact fk
 kernel_rfl
 clear H;intro i hi;subst o4;have H:=Hr4;clear Hr4;try dsimp only at H
 try dsimp only
 revert H;refine B2 fun z4 h12 H=>?_
 refine Z3 ?_
 exact Tm ((k3,z4)) ⟨H,ls⟩
 refine Z6 ?_
 exact Tm (()) (ij H)
 clear H;intro i hi;subst o3;have H:=Hr3;clear Hr3;try dsimp only at H
 try dsimp only
 refine Z4 ?_
 cases H
 refine aH [] (by decide) ?_
 exact To
def pZ (fuel:Nat) (a0:List ScopeDef) (a1:List ScopeDef):Nat → Int → Option ((Unit) ⊕ (Bool))
| 0,_=>none
| k+1,x2=>
 if x2<(a0.length:Int)then
  (idx a0 x2).bind fun y1=>
  (idx a1 x2).bind fun y2=>
  (vM fuel y1 y2).bind fun y3=>
  bif y3 then
   (chk (x2+1)).bind fun z1=>
   pZ fuel a0 a1 k z1
  else
   (some false).bind fun r=>some (Sum.inr r)
 else
  some (Sum.inl ())
def aAd (fuel:Nat) (a0:List ScopeDef) (a1:List ScopeDef):Option (Bool):=
 if (a0.length:Int)≠(a1.length:Int)then
  some false
 else
  (pZ fuel a0 a1 fuel 0).bind fun o=>match o with
  | Sum.inr r=>some r
  | Sum.inl _=>
  some true
theorem aIj (fuel:Nat)  (a0:List ScopeDef) (a1:List ScopeDef) (r:Bool) (H:aAd fuel a0 a1=some r):FnS Tryz.prog 49 [fSl aB a0,fSl aB a1] [] (aJ r) (fun _=>[]):=by
 unfold aAd at H
 refine bS Tryz.func49 rfl Tryz.ntmps49 rfl (fun β=>?_)
 refine Z3 ?_
 refine aI ?_
 revert H;refine I7 (fun c1 H=>?_) fun c1 H=>?_
 refine Z5 ?_
 cases H
 exact To
 revert H;refine B3 fun o1 H Hr1=>?_
 refine aO (ι:=Unit) (fun i=>o1=Sum.inl ()) (fun i=>[]) (fun i=>[]) ?_ ?_
 refine Z4 ?_
 refine Tl (ι:=Nat × Int) (fun i=>pZ fuel a0 a1 i.1 i.2=_) (fun i=>i.1) (fun i=>[(0,fSl aB a0),(1,fSl aB a1),(5,fI i.2)]) (fun i=>[]) (fuel,0) H ?_
 clear H;rintro⟨k1,x2⟩ H
 replace H:pZ fuel a0 a1 k1 x2=_:=H
 try dsimp only
 obtain _ | k1:=k1
 rw [pZ]at H;cases H
 rw [pZ]at H
 refine aI ?_
 revert H;refine I6 (fun c2 H=>?_) fun c2 H=>?_
 refine Z3 ?_
 refine aI ?_
 refine Z1 ?_
 refine aI ?_
 revert H;refine bs fun y1 h1 H=>?_
 revert H;refine bs fun y2 h2 H=>?_
 revert H;refine bs fun y3 h3 H=>?_
 apply bE (ods:=[_,_,_,_,_,_,_,_,_,_]) 10 0 0 bD rfl rfl rfl
 refine ND ?_
 refine M8 ?_
 intros
 refine Nc (aIl _ _ _ _ h3) fun _=>?_
 refine M1 ?_
 intros
 refine Z2 ?_
 revert H;refine cs (fun c3 H=>?_) fun c3 H=>?_
 revert H;refine B6 fun z1 h4 H=>?_
 refine Z3 ?_
 exact Tm ((k1,z1)) ⟨H,ls⟩
 revert H;refine B10 fun r1 H e1=>?_
 cases e1;cases Hr1
 cases H
 exact To
 exact fk
 kernel_rfl
 refine Z6 ?_
 exact Tm (()) (ij H)
 clear H;intro i hi;subst o1;have H:=Hr1;clear Hr1;try dsimp only at H
 try dsimp only
 refine Z4 ?_
 cases H
 exact To
def qL (a0:CodeProg) (a1:CodeProg):Nat → Int → Option ((Unit) ⊕ (Bool))
| 0,_=>none
| k+1,x2=>
 if x2<(a0.Code.length:Int)then
  (idx a0.Code x2).bind fun y2=>
  (idx a1.Code x2).bind fun y3=>
  bif decide (y2.Op=y3.Op) && (decide (y2.A=y3.A) && decide (y2.B=y3.B))then
   (chk (x2+1)).bind fun z1=>
   qL a0 a1 k z1
  else
   (some false).bind fun r=>some (Sum.inr r)
 else
  some (Sum.inl ())
def xY (fuel:Nat) (a0:CodeProg) (a1:CodeProg):Option (Bool):=
 if a0.Free≠a1.Free then
  some false
 else
  if a0.Main≠a1.Main then
   some false
  else
   if (a0.Code.length:Int)≠(a1.Code.length:Int)then
    some false
   else
    (aAd fuel a0.Defs a1.Defs).bind fun y1=>
    bif y1 then
     (qL a0 a1 fuel 0).bind fun o=>match o with
     | Sum.inr r=>some r
     | Sum.inl _=>
     some true
    else
     some false
theorem aHR (fuel:Nat)  (a0:CodeProg) (a1:CodeProg) (r:Bool) (H:xY fuel a0 a1=some r):FnS Tryz.prog 16 [fSt yS a0,fSt yS a1] [] (aJ r) (fun _=>[]):=by
 unfold xY at H
 refine bS Tryz.func16 rfl Tryz.ntmps16 rfl (fun β=>?_)
 refine Z1 ?_
 refine Tn (cO rfl hh bW) fun b1=>?_
 refine Tn (cO rfl hh bW) fun b2=>?_
 refine Z2 ?_
 refine aI ?_
 revert H;refine I7 (fun c1 H=>?_) fun c1 H=>?_
 refine Z12 ?_
 refine Z12 ?_
 refine Z5 ?_
 cases H
 refine aH [] (by decide) ?_
 exact To
 revert H;refine I7 (fun c2 H=>?_) fun c2 H=>?_
 refine Z12 ?_
 refine Z10 ?_
 cases H
 refine aH [] (by decide) ?_
 exact To
 revert H;refine I9 (fun c3 H=>?_) fun c3 H=>?_
 refine Z12 ?_
 refine Z1 ?_
 cases H
 refine aH [] (by decide) ?_
 exact To
 revert H;refine B4 fun y1 h1 H=>?_
 refine Tc (aIj _ _ _ _ h1) ?_
 refine Z3 ?_
 revert H;refine cs (fun c4 H=>?_) fun c4 H=>?_
 revert H;refine B3 fun o1 H Hr1=>?_
 refine aO (ι:=Unit) (fun i=>o1=Sum.inl ()) (fun i=>[]) (fun i=>[aA b2 25 [fI a1.Free,fSl aB a1.Defs,fSl aQ a1.Code,fI a1.Main],aA b1 25 [fI a0.Free,fSl aB a0.Defs,fSl aQ a0.Code,fI a0.Main]]) ?_ ?_
 refine Z4 ?_
 refine Tl (ι:=Nat × Int) (fun i=>qL a0 a1 i.1 i.2=_) (fun i=>i.1) (fun i=>[(2,fEq (ptr b1)),(3,fEq (ptr b2)),(5,fI i.2)]) (fun i=>[aA b2 25 [fI a1.Free,fSl aB a1.Defs,fSl aQ a1.Code,fI a1.Main],aA b1 25 [fI a0.Free,fSl aB a0.Defs,fSl aQ a0.Code,fI a0.Main]]) (fuel,0) H ?_
 clear H;rintro⟨k1,x2⟩ H
 replace H:qL a0 a1 k1 x2=_:=H
 try dsimp only
 obtain _ | k1:=k1
 rw [qL]at H;cases H
 rw [qL]at H
 refine aI ?_
 revert H;refine I7 (fun c5 H=>?_) fun c5 H=>?_
 refine Z3 ?_
 refine aI ?_
 refine Z1 ?_
 refine aI ?_
 revert H;refine bs fun y2 h2 H=>?_
 revert H;refine bs fun y3 h3 H=>?_
 apply bE (ods:=[_,_,_,_,_,_,_,_,_,_,_]) 11 0 2 bD rfl rfl rfl
 refine ND ?_
 refine M8 ?_
 intros
 refine M2 ?_
 intros
 refine My (o_neqSt3 rfl hh hh rfl rfl aIs) fun _=>?_
 refine Z2 ?_
 revert H;refine cs (fun c6 H=>?_) fun c6 H=>?_
 revert H;refine B6 fun z1 h4 H=>?_
 refine Z3 ?_
 exact Tm ((k1,z1)) ⟨H,ls⟩
 revert H;refine B10 fun r1 H e1=>?_
 cases e1;cases Hr1
 cases H
 refine aH [] (by decide) ?_
 exact To
 exact fk
 kernel_rfl
 refine Z6 ?_
 exact Tm (()) (ij H)
 clear H;intro i hi;subst o1;have H:=Hr1;clear Hr1;try dsimp only at H
 try dsimp only
 refine Z4 ?_
 cases H
 refine aH [] (by decide) ?_
 exact To
 refine Z5 ?_
 cases H
 refine aH [] (by decide) ?_
 exact To
def zM (fuel:Nat) (a0:ScopeProg):Option (Bool):=
 (sI fuel (⟨a0.Free,a0.Nodes,a0.Defs,a0.Main⟩:ScopeProg)).bind fun y1=>
 (rV fuel (⟨a0.Free,a0.Nodes,a0.Defs,a0.Main⟩:ScopeProg)).bind fun y2=>
 (if y1.2=y2.2.2 then
  (xY fuel (⟨y1.1.Free,y1.1.Defs,y1.1.Code,y1.1.Main⟩:CodeProg) (⟨y2.1.Free,y2.1.Defs,y2.1.Code,y2.1.Main⟩:CodeProg)).bind fun y3=>
  bif y3 then
   (aBO).bind fun y4=>
   some y4
  else
   some false
 else
  some false).bind fun x1=>
 some x1
theorem aHl (fuel:Nat)  (a0:ScopeProg) (r:Bool) (H:zM fuel a0=some r):FnS Tryz.prog 4 [fSt fJ a0] [] (aJ r) (fun _=>[]):=by
 unfold zM at H
 refine bS Tryz.func4 rfl Tryz.ntmps4 rfl (fun β=>?_)
 refine Z1 ?_
 refine Tn (cO rfl hh bW) fun b1=>?_
 revert H;refine B4 fun y1 h1 H=>?_
 refine Tc (aG4 _ _ _ h1) ?_
 refine Z3 ?_
 refine Tn (cV rfl uP rfl) fun b2=>?_
 refine dR (φs':=[fI y1.1.Free,fSl aB y1.1.Defs,fSl aQ y1.1.Code,fI y1.1.Main]) trivial rfl rfl (has rfl) (has rfl) (aK (aD trivial) (aK (bU) (aK (bU) (aK (aD trivial) bY)))) (sz rfl) rfl rfl rfl ?_
 revert H;refine B4 fun y2 h2 H=>?_
 refine Tc (aF7 _ _ _ h2) ?_
 refine Z4 ?_
 refine Tn (cV rfl uP rfl) fun b3=>?_
 refine dR (φs':=[fI y2.1.Free,fSl aB y2.1.Defs,fSl aQ y2.1.Code,fI y2.1.Main]) trivial rfl rfl (has rfl) (has rfl) (aK (aD trivial) (aK (bU) (aK (bU) (aK (aD trivial) bY)))) (sz rfl) rfl rfl rfl ?_
 revert H;refine B3 fun o1 H Hr1=>?_
 refine aO (ι:=Bool) (fun i=>o1=i) (fun i=>[(2,aJ i)]) (fun i=>[aA b3 25 [fI y2.1.Free,fSl aB y2.1.Defs,fSl aQ y2.1.Code,fI y2.1.Main],aA b2 25 [fI y1.1.Free,fSl aB y1.1.Defs,fSl aQ y1.1.Code,fI y1.1.Main],aA b1 37 [fSl aE a0.Free,fSl aG a0.Nodes,fSl aB a0.Defs,fI a0.Main]]) ?_ ?_
 revert H;refine I5 (fun c1 H=>?_) fun c1 H=>?_
 revert H;refine B2 fun y3 h3 H=>?_
 refine Tc (aHR _ _ _ _ h3) ?_
 refine Z2 ?_
 revert H;refine cs (fun c2 H=>?_) fun c2 H=>?_
 revert H;refine bs fun y4 h4 H=>?_
 refine Tc (aGP _ h4) ?_
 refine Z3 ?_
 exact Tm (y4) (ij H)
 refine Z4 ?_
 exact Tm (false) (ij H)
 refine Z9 ?_
 exact Tm (false) (ij H)
 clear H;intro x1 hi;subst o1;have H:=Hr1;clear Hr1;try dsimp only at H
 try dsimp only
 refine Z1 ?_
 cases H
 refine aH [] (by decide) ?_
 exact To
open Go.SX Go.SW Go.Dt
theorem bsm {α γ:Type} {a:α} {f:α → Option γ}:(some a).bind f=f a:=by
 cases h:f a <;> simp [h]
theorem fR {α:Type} {xs:List α} {i:Nat} {y:α} (h:xs[i]? =some y):idx xs (i:Int)=some y:=by
 unfold idx;rw [if_pos (by omega)];simpa using h
theorem bL {α:Type} (pre suf:List α) (y:α):idx (pre++y :: suf) (pre.length:Int)=some y:=fR (by simp)
theorem aU {i:Int} (h:-9000000000000000000 ≤ i ∧ i ≤ 9000000000000000000):chk i=some i:=by unfold chk;rw [if_pos (by omega)]
theorem bX {α:Type} (pre suf:List α) (y:α):(pre.length:Int)<((pre++y :: suf).length:Int):=by simp;omega
theorem eB {α:Type} (pre suf:List α) (y:α):pre++y :: suf=(pre++[y])++suf:=by simp
theorem bN {α:Type} (pre:List α) (y:α):(pre.length:Int)+1=((pre++[y]).length:Int):=by simp
theorem yK (e:ScopeExp):(⟨e.Op,e.N,e.Kids⟩:ScopeExp)=e:=by cases e;rfl
def flaw:Value:= .iface 240 (.agg ([(.int .i64 2)]:List Value).toArray)
theorem eQ:bM true=some (.inl ()):=rfl
theorem cQ:bM false=some (.inr flaw):=rfl
mutual
def nE:ScopeExp → Nat
 | ⟨_,_,ks⟩=>1+nL ks
def nL:List ScopeExp → Nat
 | []=>0
 | k :: ks=>nE k+nL ks
end
mutual
def dE:ScopeExp → Nat
 | ⟨_,_,ks⟩=>1+dL ks
def dL:List ScopeExp → Nat
 | []=>0
 | k :: ks=>max (dE k) (dL ks)
end
def loc (s op n:Int) (l:Nat):Bool:=
 if op=1 then decide (-1000000000 ≤ n ∧ n ≤ 1000000000 ∧ l=0) else if op=2 then decide (0 ≤ n ∧ n<s ∧ l=0) else decide (3 ≤ op ∧ op ≤ 7 ∧ n=0 ∧ l=2)
mutual
def fE (s:Int):ScopeExp → Bool
 | ⟨op,n,ks⟩=>loc s op n ks.length && fL s ks
def fL (s:Int):List ScopeExp → Bool
 | []=>true
 | k :: ks=>fE s k && fL s ks
end
theorem rW (e:ScopeExp):1 ≤ nE e:=by cases e;simp only [nE];omega
theorem aAt:∀ l:List ScopeExp,l.length ≤ nL l
 | []=>by simp [nL]
 | k :: ks=>by have:=aAt ks;have:=rW k;simp only [nL,List.length_cons];omega
theorem rX:∀ {l:List ScopeExp} {e:ScopeExp},e∈l → nE e ≤ nL l
 | k :: ks,e,h=>by
  simp only [nL];cases h with
  | head=>omega
  | tail _ h=>have:=rX h;omega
def okE (s:Int) (e:ScopeExp):Bool:=fE s e && decide (dE e ≤ 12) && decide (nE e ≤ 60)
def exR (s d w:Int) (e:ScopeExp):Int ⊕ Value:=if fE s e=true ∧ d+dE e ≤ 13 ∧ w+nE e ≤ 60 then .inl (w+nE e) else .inr flaw
theorem aDV {rec:ScopeExp → Int → Int → Int → Option (Int ⊕ Value)} {op n d s:Int} (hd:0 ≤ d ∧ d ≤ 12):
 ∀ (suf pre:List ScopeExp) (k:Nat) (w:Int),suf.length<k → pre.length+suf.length ≤ 1000000000 → 0 ≤ w → w ≤ 60 → (∀ e∈suf,∀ w:Int,0 ≤ w → w ≤ 60 → rec e (d+1) w s=some (exR s (d+1) w e)) →
  nZ rec ⟨op,n,pre++suf⟩ d s k pre.length w=some (if fL s suf=true ∧ d+1+dL suf ≤ 13 ∧ w+nL suf ≤ 60 then .inl (w+nL suf) else .inr flaw)
 | [],pre,k+1,w,_,_,h0,h1,_=>by
  rw [nZ,if_neg (by simp),if_pos ⟨rfl,by simp [dL];omega,by simpa [nL]⟩];simp [nL]
 | e :: suf,pre,k+1,w,hk,hB,h0,h1,hr=>by
  rw [nZ,if_pos (bX _ _ _),bL];have hr1:=hr e (.head _) w h0 h1;simp only [List.length_cons]at hk hB;simp only [bsm,aU (i:=d+1) (by omega)];rw [yK,hr1];simp only [bsm,exR];have hn:=rW e;by_cases hc:fE s e=true ∧ d+1+dE e ≤ 13 ∧ w+nE e ≤ 60
  ·rw [if_pos hc];simp only [aU (i:=(pre.length:Int)+1) (by omega),bsm];rw [eB,bN,aDV hd suf (pre++[e]) k _ (by omega) (by simp;omega) (by omega) hc.2.2 (fun x hx=>hr x (.tail _ hx))];congr 1
   by_cases hs:fL s suf=true ∧ d+1+dL suf ≤ 13 ∧ w+nE e+nL suf ≤ 60
   ·rw [if_pos hs,if_pos ⟨by simp [fL,hc.1,hs.1],by simp only [dL];omega,by simp only [nL];omega⟩];simp only [nL,Int.natCast_add];congr 1;omega
   ·rw [if_neg hs,if_neg];rintro⟨g1,g2,g3⟩
    simp only [fL,Bool.and_eq_true]at g1;simp only [dL]at g2;simp only [nL]at g3;exact hs ⟨g1.2,by omega,by omega⟩
  ·rw [if_neg hc];dsimp only
   rw [if_neg];rintro⟨g1,g2,g3⟩
   simp only [fL,Bool.and_eq_true]at g1;simp only [dL]at g2;simp only [nL]at g3;exact hc ⟨g1.1,by omega,by omega⟩
theorem aC4:∀ (fuel:Nat) (e:ScopeExp) (d w s:Int),nE e<fuel → nE e ≤ 1000000000 → 0 ≤ d → d ≤ 1000 → 0 ≤ w → w ≤ 60 → mL fuel e d w s=some (exR s d w e)
 | fuel+1,⟨op,n,ks⟩,d,w,s,hf,hB,hd,hd2,hw,hw2=>by
  rw [mL];simp only [nE]at hf hB;have hlen:=aAt ks;simp only [aU (i:=w+1) (by omega),bsm];have hdE:dE ⟨op,n,ks⟩=1+dL ks:=by simp only [dE]
  have hnE:nE ⟨op,n,ks⟩=1+nL ks:=by simp only [nE]
  have hfE:fE s ⟨op,n,ks⟩=(loc s op n ks.length && fL s ks):=by simp only [fE]
  by_cases h1:w+1 ≤ 60 ∧ d ≤ 12
  ·by_cases h2:loc s op n ks.length=true
   ·have hloop:=aDV (rec:=mL fuel) (op:=op) (n:=n) (s:=s) ⟨hd,h1.2⟩ ks [] fuel (w+1) (by omega) (by simp;omega) (by omega) h1.1
     (fun e he w h0 h60=>aC4 fuel e (d+1) w s (by have:=rX he;omega) (by have:=rX he;omega) (by omega) (by omega) h0 h60)
    simp only [List.nil_append,List.length_nil,Int.natCast_zero]at hloop;have hres:(some (if fL s ks=true ∧ d+1+(dL ks:Int) ≤ 13 ∧ w+1+(nL ks:Int) ≤ 60 then Sum.inl (w+1+(nL ks:Int)) else Sum.inr flaw):Option (Int ⊕ Value))=some (exR s d w ⟨op,n,ks⟩):=by
     unfold exR;rw [hdE,hnE,hfE,h2];congr 1
     by_cases hc:fL s ks=true ∧ d+1+(dL ks:Int) ≤ 13 ∧ w+1+(nL ks:Int) ≤ 60
     ·rw [if_pos hc,if_pos ⟨by simp [hc.1],by omega,by omega⟩];congr 1;omega
     ·rw [if_neg hc,if_neg];rintro⟨g1,g2,g3⟩
      exact hc ⟨by simpa using g1,by omega,by omega⟩
    rw [← hres,← hloop];unfold loc at h2;rw [if_pos h1.1,decide_eq_true h1.2,eQ];simp only [bsm];by_cases o1:op=1
    ·rw [if_pos o1]at h2 ⊢;obtain⟨a,b,c⟩:=of_decide_eq_true h2;rw [if_pos a,if_pos b,decide_eq_true (by omega),eQ];rfl
    ·rw [if_neg o1]at h2 ⊢;by_cases o2:op=2
     ·rw [if_pos o2]at h2 ⊢;obtain⟨a,b,c⟩:=of_decide_eq_true h2;rw [if_pos a,if_pos b,decide_eq_true (by omega),eQ];rfl
     ·rw [if_neg o2]at h2 ⊢;obtain⟨a,b,c,e⟩:=of_decide_eq_true h2;have:((if op=3 then some (decide (op=3)) else if op=4 then some (decide (op=4)) else if op=5 then some (decide (op=5)) else if op=6 then some (decide (op=6)) else some (decide (op=7))):Option Bool)=some true:=by
       split;· simp_all
       split;· simp_all
       split;· simp_all
       split;· simp_all
       rw [decide_eq_true (by omega)]
      rw [this];simp only [bsm,cond_true];rw [if_pos c,decide_eq_true (by omega),eQ];rfl
   ·have hr:exR s d w ⟨op,n,ks⟩= .inr flaw:=by
     unfold exR;rw [if_neg];rintro⟨g,_⟩;rw [hfE]at g;simp [h2]at g
    rw [hr,if_pos h1.1,decide_eq_true h1.2,eQ];simp only [bsm];unfold loc at h2;by_cases o1:op=1
    ·rw [if_pos o1]at h2 ⊢;simp only [decide_eq_true_eq]at h2;by_cases a:-1000000000 ≤ n
     ·rw [if_pos a];by_cases b:n ≤ 1000000000
      ·rw [if_pos b,decide_eq_false (by omega),cQ];rfl
      ·rw [if_neg b,cQ];rfl
     ·rw [if_neg a,cQ];rfl
    ·rw [if_neg o1]at h2 ⊢;by_cases o2:op=2
     ·rw [if_pos o2]at h2 ⊢;simp only [decide_eq_true_eq]at h2;by_cases a:0 ≤ n
      ·rw [if_pos a];by_cases b:n<s
       ·rw [if_pos b,decide_eq_false (by omega),cQ];rfl
       ·rw [if_neg b,cQ];rfl
      ·rw [if_neg a,cQ];rfl
     ·rw [if_neg o2]at h2 ⊢;simp only [decide_eq_true_eq]at h2;have:((if op=3 then some (decide (op=3)) else if op=4 then some (decide (op=4)) else if op=5 then some (decide (op=5)) else if op=6 then some (decide (op=6)) else some (decide (op=7))):Option Bool)=some (decide (3 ≤ op ∧ op ≤ 7)):=by
       split;· simp_all
       split;· simp_all
       split;· simp_all
       split;· simp_all
       congr 1;rw [decide_eq_decide];omega
      rw [this];simp only [bsm];by_cases o3:3 ≤ op ∧ op ≤ 7
      ·rw [decide_eq_true o3];simp only [cond_true];by_cases a:n=0
       ·rw [if_pos a,decide_eq_false (by omega),cQ];rfl
       ·rw [if_neg a,cQ];rfl
      ·rw [decide_eq_false o3,cQ];rfl
  ·have hr:exR s d w ⟨op,n,ks⟩= .inr flaw:=by
    unfold exR;rw [if_neg];rintro⟨_,g2,g3⟩;rw [hdE]at g2;rw [hnE]at g3;omega
   rw [hr];by_cases h2:w+1 ≤ 60
   ·rw [if_pos h2,decide_eq_false (by omega),cQ];rfl
   ·rw [if_neg h2,cQ];rfl
theorem exp_eq {fuel:Nat} {e:ScopeExp} {s:Int} (hf:nE e<fuel) (hB:nE e ≤ 1000000000):xK fuel e s=some (if okE s e=true then .inl () else .inr flaw):=by
 rw [xK,yK,aC4 fuel e 1 0 s hf hB (by omega) (by omega) (by omega) (by omega)]
 simp only [bsm,exR]
 by_cases h:fE s e=true ∧ (1:Int)+dE e ≤ 13 ∧ (0:Int)+nE e ≤ 60
 ·have h':okE s e=true:=by
   simp only [okE,Bool.and_eq_true,decide_eq_true_eq];exact⟨⟨h.1,by omega⟩,by omega⟩
  rw [if_pos h,if_pos h']
 ·have h':¬ okE s e=true:=by
   simp only [okE,Bool.and_eq_true,decide_eq_true_eq];intro g;exact h ⟨g.1.1,by omega,by omega⟩
  rw [if_neg h,if_neg h']
theorem aFZ {rec:ScopeExp → Int → Option Int} {op n most:Int} (hm:-1000000000 ≤ most ∧ most ≤ 1000000000) (suf:List ScopeExp):
 ∀ (pre:List ScopeExp) (k:Nat) (w:Int),suf.length<k → pre.length+suf.length ≤ 1000000000 → 0 ≤ w → w+nL suf ≤ 1000000000 → (∀ e∈suf,∀ m:Int,-1000000000 ≤ m → m ≤ 1000000000 → ∃ v,rec e m=some v ∧ 0 ≤ v ∧ v ≤ nE e ∧ ((nE e:Int) ≤ m → v=nE e) ∧ (m<nE e → m<v)) →
  ∃ v,oL rec ⟨op,n,pre++suf⟩ most k w pre.length=some v ∧ 0 ≤ v ∧ v ≤ w+nL suf ∧ (w+(nL suf:Int) ≤ most → v=w+nL suf) ∧ (most<w+nL suf → most<v):=by
 induction suf with
 | nil=>
  intro pre k w hk _ h0 _ _;obtain _ | k:=k
  ·omega
  refine⟨w,?_,h0,by simp only [nL];omega,fun _=>by simp only [nL];omega,fun h=>by simp only [nL]at h;omega⟩
  rw [oL,if_neg (by simp)]
 | cons e suf ih=>
  intro pre k w hk hB h0 hW hr;obtain _ | k:=k
  ·omega
  simp only [List.length_cons]at hk hB;simp only [nL]at hW ⊢;rw [oL,if_pos (bX _ _ _)];by_cases hw:w ≤ most
  ·rw [if_pos hw];simp only [bL,bsm,aU (i:=most - w) (by omega)];obtain⟨v,h1,h2,h3,h4,h5⟩:=hr e (.head _) (most - w) (by omega) (by omega)
   simp only [h1,bsm,aU (i:=w+v) (by omega),aU (i:=(pre.length:Int)+1) (by omega)];rw [eB,bN];obtain⟨u,g1,g2,g3,g4,g5⟩:=ih (pre++[e]) k (w+v) (by omega) (by simp;omega) (by omega) (by omega) (fun x hx=>hr x (.tail _ hx))
   refine⟨u,g1,g2,by omega,fun h=>?_,fun h=>?_⟩
   ·have:=h4 (by omega);have:=g4 (by omega);omega
   ·by_cases hv:(nE e:Int) ≤ most - w
    ·have:=h4 hv;exact g5 (by omega)
    ·have:=h5 (by omega);exact g5 (by omega)
  ·rw [if_neg hw];exact⟨w,rfl,h0,by omega,fun h=>by omega,fun _=>by omega⟩
theorem nodes_eq (fuel:Nat):∀ (e:ScopeExp) (m:Int),nE e<fuel → nE e ≤ 1000000000 → -1000000000 ≤ m → m ≤ 1000000000 → ∃ v,lN fuel e m=some v ∧ 0 ≤ v ∧ v ≤ nE e ∧ ((nE e:Int) ≤ m → v=nE e) ∧ (m<nE e → m<v):=by
 induction fuel with
 | zero=>intro e m h;omega
 | succ fuel ih=>
  intro ⟨op,n,ks⟩ m hf hB h0 h1
  simp only [nE]at hf hB ⊢;have hlen:=aAt ks;obtain⟨v,g1,g2,g3,g4,g5⟩:=aFZ (rec:=lN fuel) (op:=op) (n:=n) ⟨h0,h1⟩ ks [] fuel 1 (by omega) (by simp;omega) (by omega) (by omega)
   (fun e he m h0 h1=>ih e m (by have:=rX he;omega) (by have:=rX he;omega) h0 h1)
  simp only [List.nil_append,List.length_nil,Int.natCast_zero]at g1;exact⟨v,by rw [lN,g1];rfl,g2,by omega,fun h=>by have:=g4 (by omega);omega,fun h=>g5 (by omega)⟩
theorem aGy {rec:ScopeExp → Option Int} {op n:Int} (suf:List ScopeExp):
 ∀ (pre:List ScopeExp) (k:Nat) (w:Int),suf.length<k → pre.length+suf.length ≤ 1000000000 → 0 ≤ w → (∀ e∈suf,rec e=some (dE e:Int)) →
  mS rec ⟨op,n,pre++suf⟩ k w pre.length=some (max w (dL suf:Int)):=by
 induction suf with
 | nil=>
  intro pre k w hk _ h0 _;obtain _ | k:=k
  ·omega
  rw [mS,if_neg (by simp)];simp only [dL];congr 1;omega
 | cons e suf ih=>
  intro pre k w hk hB h0 hr;obtain _ | k:=k
  ·omega
  simp only [List.length_cons]at hk hB;rw [mS,if_pos (bX _ _ _)];simp only [bL,bsm,hr e (.head _),aU (i:=(pre.length:Int)+1) (by omega)];rw [eB,bN,ih (pre++[e]) k _ (by omega) (by simp;omega) (by omega) (fun x hx=>hr x (.tail _ hx))];simp only [dL];congr 1;omega
theorem dE_le:(∀ e,dE e ≤ nE e) ∧ ∀ l,dL l ≤ nL l:=by
 refine⟨fun e=>?_,fun l=>?_⟩
 ·exact go e
 ·exact goL l
where
 go:∀ e,dE e ≤ nE e
  | ⟨_,_,ks⟩=>by have:=goL ks;simp only [dE,nE];omega
 goL:∀ l,dL l ≤ nL l
  | []=>by simp [dL]
  | k :: ks=>by have:=go k;have:=goL ks;simp only [dL,nL];omega
theorem depth_eq (fuel:Nat):∀ (e:ScopeExp),nE e<fuel → nE e ≤ 1000000000 → lO fuel e=some (dE e:Int):=by
 induction fuel with
 | zero=>intro e h;omega
 | succ fuel ih=>
  intro ⟨op,n,ks⟩ hf hB
  simp only [nE]at hf hB;have hlen:=aAt ks;have h:=aGy (rec:=lO fuel) (op:=op) (n:=n) ks [] fuel 0 (by omega) (by simp;omega) (by omega) (fun e he=>ih e (by have:=rX he;omega) (by have:=rX he;omega))
  simp only [List.nil_append,List.length_nil,Int.natCast_zero]at h;have hd:=dE_le.2 ks;rw [lO,h,show max (0:Int) (dL ks:Int)=dL ks from by omega];simp only [bsm,aU (i:=(dL ks:Int)+1) (by omega),dE];congr 1;omega
theorem aHn (fuel:Nat):∀ (e:ScopeExp) (s:Int),nE e<fuel → qQ fuel e s=some (fE s e):=by
 induction fuel with
 | zero=>intro e s h;omega
 | succ fuel ih=>
  intro ⟨op,n,ks⟩ s hf
  simp only [nE]at hf;rw [qQ];simp only [fE,loc];by_cases o1:op=1
  ·rw [if_pos o1,if_pos o1];by_cases c:(ks.length:Int)=0
   ·have hk:ks=[]:=List.eq_nil_of_length_eq_zero (by omega)
    subst hk;rw [if_pos c];by_cases a:-1000000000 ≤ n
    ·rw [if_pos a];simp [a,fL]
    ·rw [if_neg a];simp [a,fL]
   ·rw [if_neg c];have:¬ ks.length=0:=by omega
    simp [this]
  ·rw [if_neg o1,if_neg o1];by_cases o2:op=2
   ·rw [if_pos o2,if_pos o2];by_cases c:(ks.length:Int)=0
    ·have hk:ks=[]:=List.eq_nil_of_length_eq_zero (by omega)
     subst hk;rw [if_pos c];by_cases a:0 ≤ n
     ·rw [if_pos a];simp [a,fL]
     ·rw [if_neg a];simp [a,fL]
    ·rw [if_neg c];have:¬ ks.length=0:=by omega
     simp [this]
   ·rw [if_neg o2,if_neg o2];by_cases a:op<3
    ·rw [if_pos a];simp;intro _;omega
    ·rw [if_neg a];by_cases b:7<op
     ·rw [if_pos b];simp;intro _;omega
     ·rw [if_neg b];by_cases c:(ks.length:Int)≠2
      ·rw [if_pos c];simp;intro _ _ _;omega
      ·rw [if_neg c];by_cases e:n≠0
       ·rw [if_pos e];simp [e]
       ·rw [if_neg e];match ks,c,hf with
        | [x,y],_,hf=>
         simp only [nL]at hf;have h1:=ih x s (by omega)
         have h2:=ih y s (by omega)
         have i0:idx [x,y] 0=some x:=rfl;have i1:idx [x,y] 1=some y:=rfl;have:decide (3 ≤ op ∧ op ≤ 7 ∧ n=0 ∧ [x,y].length=2)=true:=decide_eq_true ⟨by omega,by omega,by omega,rfl⟩
         rw [this];simp only [i0,i1,h1,h2,bsm,fL,Bool.true_and,Bool.and_true];cases fE s x <;> simp
        | [],c,_=>simp at c
        | [_],c,_=>simp at c
        | _ :: _ :: _ :: _,c,_=>simp at c;omega
theorem aF5 {fuel:Nat} {e:ScopeExp} {s:Int} (hf:nE e<fuel) (hB:nE e ≤ 1000000000):wO fuel e s=some (okE s e):=by
 obtain⟨v,h1,h2,h3,h4,h5⟩:=nodes_eq fuel e 60 hf hB (by omega) (by omega)
 rw [wO,yK,h1,depth_eq fuel e hf hB,aHn fuel e s hf]
 simp only [bsm,okE]
 by_cases hn:(nE e:Int) ≤ 60
 ·rw [h4 hn,if_pos hn];by_cases hd:(dE e:Int) ≤ 12
  ·rw [if_pos hd];have h1:dE e ≤ 12:=by omega
   have h2:nE e ≤ 60:=by omega
   simp [h1,h2]
  ·rw [if_neg hd];have:¬ dE e ≤ 12:=by omega
   simp [this]
 ·have:=h5 (by omega)
  rw [if_neg (by omega)];have:¬ nE e ≤ 60:=by omega
  simp [this]
open Go.SX Go.SW Go.Dt
def gE (n:Nat) (c:ScopeChan):Bool:=decide (0 ≤ c.At ∧ c.At ≤ (n:Int) ∧ 0 ≤ c.Many ∧ c.Many ≤ 3)
def kT:Nat → List ScopeSpot → Bool
 | _,[]=>true
 | i,s :: l=>decide (0 ≤ s.In ∧ s.In ≤ (i:Int)) && kT (i+1) l
def mH (chans:List ScopeChan) (at_:Int):List Int → List Int → List Bool → Option (List Bool)
 | _,[],u=>some u
 | pre,c :: js,u=>match idx chans c with
  | some ch=>if ch.At=at_ ∧ c ∉ pre then mH chans at_ (pre++[c]) js (u.set c.toNat true) else none
  | none=>none
def okR (n:Nat) (r:ScopeRule):Prop:=0 ≤ r.At ∧ r.At ≤ (n:Int) ∧ 1 ≤ r.Joins.length ∧ r.Joins.length ≤ 3
instance {n:Nat} {r:ScopeRule}:Decidable (okR n r):=by unfold okR;infer_instance
def jB (chans:List ScopeChan) (n:Nat):List ScopeRule → List Bool → Option (List Bool)
 | [],u=>some u
 | r :: rs,u=>if okR n r then(mH chans r.At [] r.Joins u).bind (jB chans n rs) else none
def okU (o:Option (List Bool)):Bool:=match o with
 | some u=>u.all id
 | none=>false
def okD (d:ScopeDef):Bool:=decide (d.Chans.length ≤ 30 ∧ d.Spots.length ≤ 30 ∧ d.Rules.length ≤ 30) && d.Chans.all (gE d.Spots.length) && kT 0 d.Spots && okU (jB d.Chans d.Spots.length d.Rules (List.replicate d.Chans.length false))
def smD (d:ScopeDef):Prop:=d.Chans.length ≤ 2000000 ∧ d.Spots.length ≤ 2000000 ∧ d.Rules.length ≤ 2000000 ∧ ∀ r∈d.Rules,r.Joins.length ≤ 2000000
theorem fG {α:Type} {xs:List α} {i:Int} (h0:0 ≤ i) (h1:i<xs.length):∃ y,idx xs i=some y:=by
 unfold idx;rw [if_pos h0];exact⟨xs[i.toNat]'(by omega),by simp⟩
theorem aA3 {α:Type} {xs:List α} {i:Int} (h:¬ (0 ≤ i ∧ i<xs.length)):idx xs i=none:=by
 unfold idx;split
 ·simp;omega
 ·rfl
theorem aIL {c:Int} (suf:List Int):∀ (pre:List Int) (k:Nat),suf.length<k → pre.length+suf.length ≤ 3000000 → c ∉ pre →
 ∃ r,mI (pre++suf) c k pre.length=some r ∧ ((c∈suf ∧ ∃ i:Int,r= .inr i ∧ 0 ≤ i) ∨ (c ∉ suf ∧ r= .inl ())):=by
 induction suf with
 | nil=>
  intro pre k hk _ _;obtain _ | k:=k
  ·omega
  exact⟨_,by rw [mI,if_neg (by simp)], .inr ⟨by simp,rfl⟩⟩
 | cons e suf ih=>
  intro pre k hk hB hn;obtain _ | k:=k
  ·omega
  simp only [List.length_cons]at hk hB;by_cases he:c=e
  ·exact⟨_,by rw [mI,if_pos (bX _ _ _),bL,bsm,if_pos he];rfl, .inl ⟨by simp [he],_,rfl,by omega⟩⟩
  ·obtain⟨r,h1,h2⟩:=ih (pre++[e]) k (by omega) (by simp;omega) (by simp [hn,he])
   refine⟨r,?_,?_⟩
   ·rw [mI,if_pos (bX _ _ _),bL,bsm,if_neg he,aU (by omega),bsm,eB pre suf e,bN pre e];exact h1
   ·rcases h2 with⟨h2,h3⟩ | ⟨h2,h3⟩
    ·exact .inl ⟨by simp [h2],h3⟩
    ·exact .inr ⟨by simp [h2,he],h3⟩
theorem aIh {fuel:Nat} {l:List Int} {c:Int} (hf:l.length<fuel) (hB:l.length ≤ 3000000):yH fuel l c=some (decide (c∈l)):=by
 obtain⟨r,h1,h2⟩:=aIL (c:=c) l [] fuel hf (by simpa using hB) (by simp)
 simp only [List.nil_append,List.length_nil,Int.natCast_zero]at h1
 rw [yH,yU,h1]
 rcases h2 with⟨h2,i,rfl,h3⟩ | ⟨h2,rfl⟩
 ·simp [h2,h3]
 ·simp [h2]
theorem aCP {a:Int} {d:ScopeDef}:tB a d=some (if 0 ≤ a ∧ a ≤ (d.Spots.length:Int)then .inl () else .inr flaw):=by
 rw [tB]
 by_cases h:0 ≤ a
 ·rw [if_pos h];by_cases h2:a ≤ (d.Spots.length:Int)
  ·rw [decide_eq_true h2,eQ,if_pos ⟨h,h2⟩];rfl
  ·rw [decide_eq_false h2,cQ,if_neg (fun g=>h2 g.2)];rfl
 ·rw [if_neg h,cQ,if_neg (fun g=>h g.1)];rfl
theorem dl1 {sp:List ScopeSpot} {ru:List ScopeRule} (suf:List ScopeChan):∀ (pre:List ScopeChan) (k:Nat),suf.length<k → pre.length+suf.length ≤ 3000000 →
 oH ⟨pre++suf,sp,ru⟩ k pre.length=some (if suf.all (gE sp.length)=true then .inl () else .inr (.inr flaw)):=by
 induction suf with
 | nil=>
  intro pre k hk _;obtain _ | k:=k
  ·omega
  rw [oH,if_neg (by simp),if_pos (by rfl)]
 | cons e suf ih=>
  intro pre k hk hB;obtain _ | k:=k
  ·omega
  simp only [List.length_cons]at hk hB;rw [oH,if_pos (bX _ _ _)];dsimp only
  rw [bL,bsm,aCP,bsm];simp only [List.all_cons,Bool.and_eq_true];by_cases h1:0 ≤ e.At ∧ e.At ≤ (sp.length:Int)
  ·rw [if_pos h1];dsimp only
   by_cases h2:0 ≤ e.Many
   ·rw [if_pos h2];by_cases h3:e.Many ≤ 3
    ·rw [decide_eq_true h3,eQ,bsm,bsm];dsimp only
     rw [aU (by omega),bsm,eB pre suf e,bN pre e,ih (pre++[e]) k (by omega) (by simp;omega)];have:gE sp.length e=true:=decide_eq_true ⟨h1.1,h1.2,h2,h3⟩;simp [this]
    ·have hn:¬ (gE sp.length e=true ∧ suf.all (gE sp.length)=true):=by
      rintro⟨g,_⟩;exact h3 (of_decide_eq_true g).2.2.2
     rw [decide_eq_false h3,cQ,if_neg hn];rfl
   ·have hn:¬ (gE sp.length e=true ∧ suf.all (gE sp.length)=true):=by
     rintro⟨g,_⟩;exact h2 (of_decide_eq_true g).2.2.1
    rw [if_neg h2,cQ,if_neg hn];rfl
  ·have hn:¬ (gE sp.length e=true ∧ suf.all (gE sp.length)=true):=by
    rintro⟨g,_⟩;exact h1 ⟨(of_decide_eq_true g).1,(of_decide_eq_true g).2.1⟩
   rw [if_neg h1,if_neg hn];rfl
theorem dl2 {ch:List ScopeChan} {ru:List ScopeRule} (suf:List ScopeSpot):∀ (pre:List ScopeSpot) (k:Nat),suf.length<k → pre.length+suf.length ≤ 3000000 →
 nM ⟨ch,pre++suf,ru⟩ k pre.length=some (if kT pre.length suf=true then .inl () else .inr (.inr flaw)):=by
 induction suf with
 | nil=>
  intro pre k hk _;obtain _ | k:=k
  ·omega
  rw [nM,if_neg (by simp),if_pos (by rfl)]
 | cons e suf ih=>
  intro pre k hk hB;obtain _ | k:=k
  ·omega
  simp only [List.length_cons]at hk hB;rw [nM,if_pos (bX _ _ _)];dsimp only
  rw [bL,bsm];simp only [kT,Bool.and_eq_true,decide_eq_true_eq];by_cases h2:0 ≤ e.In
  ·rw [if_pos h2];by_cases h3:e.In ≤ (pre.length:Int)
   ·rw [decide_eq_true h3,eQ,bsm,bsm];dsimp only
    rw [aU (by omega),bsm,eB pre suf e,bN pre e,ih (pre++[e]) k (by omega) (by simp;omega)];simp [h2,h3]
   ·rw [decide_eq_false h3,cQ,if_neg (fun g=>h3 g.1.2)];rfl
  ·rw [if_neg h2,cQ,if_neg (fun g=>h2 g.1.1)];rfl
def Like (g:aN Int Bool) (u:List Bool):Prop:=(∀ i:Nat,g.get i=if u[i]? =some true then some true else none) ∧ g.size=u.countP id
theorem like_upd {g:aN Int Bool} {u:List Bool} {c:Int} (h:Like g u) (h0:0 ≤ c) (h1:c<u.length):Like (aN.upd g c true) (u.set c.toNat true):=by
 obtain⟨n,rfl⟩:∃ n:Nat,c=n:=⟨c.toNat,by omega⟩
 have hn:n<u.length:=by omega
 simp only [Int.toNat_natCast]
 refine⟨fun i=>?_,?_⟩
 ·simp only [aN.upd];by_cases hi:(i:Int)=n
  ·have:i=n:=by omega
   subst this;rw [if_pos rfl];simp [hn]
  ·rw [if_neg hi,h.1 i];have:n≠i:=by omega
   simp [this]
 ·simp only [aN.upd];rw [h.1 n,List.countP_set (h:=hn),h.2];have hge:u[n]? =some u[n]:=by simp [hn]
  rw [hge];cases hu:u[n]with
  | false=>simp
  | true=>
   have hpos:0<u.countP id:=List.countP_pos_iff.2 ⟨u[n],List.getElem_mem hn,by simpa using hu⟩
   simp;omega
theorem dl4 {ch:List ScopeChan} {sp:List ScopeSpot} {ru:List ScopeRule} {a nd:Int} (suf:List Int) {fuel:Nat}:∀ (pre:List Int) (k:Nat) (g:aN Int Bool) (u:List Bool),suf.length<k → pre.length+suf.length<fuel → pre.length+suf.length ≤ 3000000 → u.length=ch.length → Like g u →
 (∃ u' g',mH ch a pre suf u=some u' ∧ u'.length=ch.length ∧ Like g' u' ∧ jK fuel ⟨ch,sp,ru⟩ ⟨a,pre++suf,nd⟩ k pre.length g=some (.inl g')) ∨
 (mH ch a pre suf u=none ∧ jK fuel ⟨ch,sp,ru⟩ ⟨a,pre++suf,nd⟩ k pre.length g=some (.inr (.inr (.inr flaw)))):=by
 induction suf with
 | nil=>
  intro pre k g u hk _ _ hl hg;obtain _ | k:=k
  ·omega
  exact .inl ⟨u,g,rfl,hl,hg,by rw [jK,if_neg (by simp)]⟩
 | cons e suf ih=>
  intro pre k g u hk hf hB hl hg;obtain _ | k:=k
  ·omega
  simp only [List.length_cons]at hk hB hf;rw [jK,if_pos (bX _ _ _)];dsimp only
  rw [bL,bsm];simp only [mH];by_cases h1:0 ≤ e ∧ e<(ch.length:Int)
  ·obtain⟨y,hy⟩:=fG h1.1 h1.2;rw [if_pos h1.1,if_pos h1.2,hy,bsm];dsimp only
   by_cases h2:y.At=a
   ·rw [if_pos h2];have hs:slc (pre++e :: suf) 0 pre.length=some pre:=by
     unfold slc;rw [if_pos ⟨by omega,by omega,by simp;omega⟩];simp
    rw [hs,bsm,aIh (by omega) (by omega),bsm];by_cases h3:e∈pre
    ·rw [decide_eq_true h3,if_neg (fun q=>q.2 h3)];exact .inr ⟨rfl,by rw [show(!true)=false from rfl,cQ];rfl⟩
    ·rw [decide_eq_false h3,if_pos ⟨h2,h3⟩,show(!false)=true from rfl,eQ,bsm,bsm];dsimp only
     rw [aU (by omega),bsm,eB pre suf e,bN pre e];exact ih (pre++[e]) k _ _ (by omega) (by simp;omega) (by simp;omega) (by simpa using hl) (like_upd hg h1.1 (by omega))
   ·rw [if_neg h2,cQ,if_neg (fun q=>h2 q.1)];exact .inr ⟨rfl,rfl⟩
  ·rw [aA3 h1];refine .inr ⟨rfl,?_⟩;by_cases h0:0 ≤ e
   ·rw [if_pos h0,if_neg (fun q=>h1 ⟨h0,q⟩),cQ];rfl
   ·rw [if_neg h0,cQ];rfl
theorem dl3 {ch:List ScopeChan} {sp:List ScopeSpot} {fuel:Nat} (suf:List ScopeRule):∀ (pre:List ScopeRule) (k:Nat) (g:aN Int Bool) (u:List Bool),suf.length<k → pre.length+suf.length ≤ 3000000 → 2000000<fuel → (∀ r∈suf,r.Joins.length ≤ 2000000) → u.length=ch.length → Like g u →
 (∃ u' g',jB ch sp.length suf u=some u' ∧ u'.length=ch.length ∧ Like g' u' ∧ mN fuel ⟨ch,sp,pre++suf⟩ k pre.length g=some (.inl g')) ∨
 (jB ch sp.length suf u=none ∧ mN fuel ⟨ch,sp,pre++suf⟩ k pre.length g=some (.inr (.inr flaw))):=by
 induction suf with
 | nil=>
  intro pre k g u hk _ _ _ hl hg;obtain _ | k:=k
  ·omega
  exact .inl ⟨u,g,rfl,hl,hg,by rw [mN,if_neg (by simp)]⟩
 | cons e suf ih=>
  intro pre k g u hk hB hf hJ hl hg;obtain _ | k:=k
  ·omega
  simp only [List.length_cons]at hk hB;have hj:=hJ e (.head _);rw [mN,if_pos (bX _ _ _)];dsimp only
  rw [bL,bsm,aCP,bsm];simp only [jB];by_cases h1:0 ≤ e.At ∧ e.At ≤ (sp.length:Int)
  ·rw [if_pos h1];dsimp only
   by_cases h2:0<(e.Joins.length:Int)
   ·rw [if_pos h2];by_cases h3:(e.Joins.length:Int) ≤ 3
    ·rw [decide_eq_true h3,eQ,bsm,if_pos (show okR sp.length e from⟨h1.1,h1.2,by omega,by omega⟩)];have h4:=dl4 (ch:=ch) (sp:=sp) (ru:=pre++e :: suf) (a:=e.At) (nd:=e.Node) e.Joins (fuel:=fuel) [] fuel g u (by omega) (by simp;omega) (by simp;omega) hl hg
     simp only [List.nil_append,List.length_nil,Int.natCast_zero]at h4;rcases h4 with⟨u',g',a1,a2,a3,a4⟩ | ⟨a1,a4⟩
     ·rw [a1,bsm];have:((jK fuel ⟨ch,sp,pre++e :: suf⟩ e fuel 0 g)=some (.inl g')):=a4;dsimp only
      rw [bsm];dsimp only
      rw [this,bsm];dsimp only
      rw [aU (by omega),bsm,eB pre suf e,bN pre e];exact ih (pre++[e]) k g' u' (by omega) (by simp;omega) hf (fun r hr=>hJ r (.tail _ hr)) a2 a3
     ·rw [a1];have:((jK fuel ⟨ch,sp,pre++e :: suf⟩ e fuel 0 g)=some (.inr (.inr (.inr flaw)))):=a4;refine .inr ⟨rfl,?_⟩;dsimp only
      rw [bsm];dsimp only
      rw [this];rfl
    ·rw [decide_eq_false h3,cQ,if_neg (show ¬ okR sp.length e from fun q=>h3 (by have:=q.2.2.2;omega))];exact .inr ⟨rfl,rfl⟩
   ·rw [if_neg h2,cQ,if_neg (show ¬ okR sp.length e from fun q=>h2 (by have:=q.2.2.1;omega))];exact .inr ⟨rfl,rfl⟩
  ·rw [if_neg h1,if_neg (show ¬ okR sp.length e from fun q=>h1 ⟨q.1,q.2.1⟩)];exact .inr ⟨rfl,rfl⟩
theorem def_eq {fuel:Nat} {d:ScopeDef} (hf:3000000 ≤ fuel) (hs:smD d):tJ fuel d=some (if okD d=true then .inl () else .inr flaw):=by
 obtain⟨ch,sp,ru⟩:=d
 obtain⟨s1,s2,s3,s4⟩:=hs
 dsimp only at s1 s2 s3 s4
 rw [tJ]
 dsimp only
 have e1:=dl1 (sp:=sp) (ru:=ru) ch [] fuel (by omega) (by simp;omega)
 have e2:=dl2 (ch:=ch) (ru:=ru) sp [] fuel (by omega) (by simp;omega)
 have e3:=dl3 (ch:=ch) (sp:=sp) (fuel:=fuel) ru [] fuel aN.none (List.replicate ch.length false) (by omega) (by simp;omega) (by omega) s4 (by simp) ⟨fun i=>by simp [aN.none,List.getElem?_replicate],by simp [aN.none,List.countP_replicate]⟩
 simp only [List.nil_append,List.length_nil,Int.natCast_zero]at e1 e2 e3
 by_cases l1:ch.length ≤ 30
 ·rw [if_pos (by omega)];by_cases l2:sp.length ≤ 30
  ·rw [if_pos (by omega)];by_cases l3:ru.length ≤ 30
   ·rw [decide_eq_true (by omega),eQ,bsm,bsm];dsimp only
    rw [e1,bsm];have hok:okD ⟨ch,sp,ru⟩=(ch.all (gE sp.length) && kT 0 sp && okU (jB ch sp.length ru (List.replicate ch.length false))):=by
     simp only [okD];rw [decide_eq_true ⟨l1,l2,l3⟩];simp
    rw [hok];cases h1:ch.all (gE sp.length)with
    | false=>simp
    | true=>
     simp only [if_true,Bool.true_and];rw [e2,bsm];cases h2:kT 0 sp with
     | false=>simp
     | true=>
      simp only [if_true,Bool.true_and];rcases e3 with⟨u,g,a1,a2,a3,a4⟩ | ⟨a1,a4⟩
      ·rw [a4,bsm];dsimp only
       rw [a1];have hc:((g.size:Int)=(ch.length:Int)) ↔ okU (some u)=true:=by
        show _ ↔ u.all id=true
        rw [a3.2,← a2,List.all_eq_true];constructor
        ·intro h;exact List.countP_eq_length.1 (by omega)
        ·intro h;have:=List.countP_eq_length.2 h;omega
       by_cases hh:(g.size:Int)=(ch.length:Int)
       ·rw [decide_eq_true hh,eQ,if_pos (hc.1 hh)];rfl
       ·rw [decide_eq_false hh,cQ,if_neg (fun q=>hh (hc.2 q))];rfl
      ·rw [a4,bsm,a1];simp [okU]
   ·rw [decide_eq_false (by omega),cQ,if_neg];rfl
    intro g;simp only [okD,Bool.and_eq_true,decide_eq_true_eq]at g;exact l3 g.1.1.1.2.2
  ·rw [if_neg (by omega),cQ,if_neg];rfl
   intro g;simp only [okD,Bool.and_eq_true,decide_eq_true_eq]at g;exact l2 g.1.1.1.2.1
 ·rw [if_neg (by omega),cQ,if_neg];rfl
  intro g;simp only [okD,Bool.and_eq_true,decide_eq_true_eq]at g;exact l1 g.1.1.1.1
theorem rl1 {sp:List ScopeSpot} {ru:List ScopeRule} (suf:List ScopeChan):∀ (pre:List ScopeChan) (k:Nat),suf.length<k → pre.length+suf.length ≤ 3000000 →
 mX ⟨pre++suf,sp,ru⟩ k pre.length=some (if suf.all (gE sp.length)=true then .inl () else .inr false):=by
 induction suf with
 | nil=>
  intro pre k hk _;obtain _ | k:=k
  ·omega
  rw [mX,if_neg (by simp),if_pos (by rfl)]
 | cons e suf ih=>
  intro pre k hk hB;obtain _ | k:=k
  ·omega
  simp only [List.length_cons]at hk hB;have hall:(e :: suf).all (gE sp.length)=(gE sp.length e && suf.all (gE sp.length)):=rfl;rw [mX,if_pos (bX _ _ _),hall];dsimp only
  rw [bL,bsm];by_cases hc:gE sp.length e=true
  ·obtain⟨c1,c2,c3,c4⟩:=of_decide_eq_true hc;rw [if_neg (by omega),bsm,if_neg (by omega),bsm,if_neg (by omega),bsm,if_neg (by omega),aU (by omega),bsm,eB pre suf e,bN pre e,ih (pre++[e]) k (by omega) (by simp;omega),hc,Bool.true_and]
  ·have hf:gE sp.length e=false:=by simpa using hc
   rw [hf,Bool.false_and,if_neg (show ¬ (false=true)from Bool.false_ne_true)];have hd:¬ (0 ≤ e.At ∧ e.At ≤ (sp.length:Int) ∧ 0 ≤ e.Many ∧ e.Many ≤ 3):=of_decide_eq_false hf;by_cases c1:e.At<0
   ·rw [if_pos c1];rfl
   ·rw [if_neg c1,bsm];by_cases c2:(sp.length:Int)<e.At
    ·rw [if_pos c2];rfl
    ·rw [if_neg c2,bsm];by_cases c3:e.Many<0
     ·rw [if_pos c3];rfl
     ·rw [if_neg c3,bsm,if_pos (by omega)];rfl
theorem rl2 {ch:List ScopeChan} {ru:List ScopeRule} (suf:List ScopeSpot):∀ (pre:List ScopeSpot) (k:Nat),suf.length<k → pre.length+suf.length ≤ 3000000 →
 nY ⟨ch,pre++suf,ru⟩ k pre.length=some (if kT pre.length suf=true then .inl () else .inr false):=by
 induction suf with
 | nil=>
  intro pre k hk _;obtain _ | k:=k
  ·omega
  rw [nY,if_neg (by simp),if_pos (by rfl)]
 | cons e suf ih=>
  intro pre k hk hB;obtain _ | k:=k
  ·omega
  simp only [List.length_cons]at hk hB;have hall:kT pre.length (e :: suf)=(decide (0 ≤ e.In ∧ e.In ≤ (pre.length:Int)) && kT (pre.length+1) suf):=rfl;rw [nY,if_pos (bX _ _ _),hall];dsimp only
  rw [bL,bsm];by_cases hc:0 ≤ e.In ∧ e.In ≤ (pre.length:Int)
  ·have hp:(pre++[e]).length=pre.length+1:=by simp
   rw [if_neg (by omega),bsm,if_neg (by omega),aU (by omega),bsm,eB pre suf e,bN pre e,ih (pre++[e]) k (by omega) (by simp;omega),decide_eq_true hc,Bool.true_and,hp]
  ·rw [decide_eq_false hc,Bool.false_and,if_neg (show ¬ (false=true)from Bool.false_ne_true)];by_cases c1:e.In<0
   ·rw [if_pos c1];rfl
   ·rw [if_neg c1,bsm,if_pos (by omega)];rfl
theorem rl5 {a nd c:Int} {js:List Int} (suf:List Int):∀ (pre:List Int) (k:Nat) (post:List Int),js=pre++suf++post → suf.length<k → pre.length+suf.length ≤ 3000000 →
 mT ⟨a,js,nd⟩ (pre.length+suf.length:Nat) c k pre.length=some (if c∈suf then .inr (.inr (.inr (.inr false))) else .inl ()):=by
 induction suf with
 | nil=>
  intro pre k post _ hk _;obtain _ | k:=k
  ·omega
  rw [mT,if_neg (by simp),if_neg (by simp)]
 | cons e suf ih=>
  intro pre k post hj hk hB;obtain _ | k:=k
  ·omega
  simp only [List.length_cons]at hk hB;have hi:idx js (pre.length:Int)=some e:=by rw [hj];exact fR (by simp)
  rw [mT,if_pos (by simp;omega)];dsimp only
  rw [hi,bsm];by_cases hc:e=c
  ·rw [if_pos hc,if_pos (by simp [hc])];rfl
  ·have h:=ih (pre++[e]) k post (by simp [hj]) (by omega) (by simp;omega)
   have hl:(pre++[e]).length+suf.length=pre.length+(e :: suf).length:=by simp;omega
   rw [hl]at h;have hm:(c∈e :: suf) ↔ c∈suf:=by simp [Ne.symm hc]
   rw [if_neg hc,aU (by omega),bsm,bN pre e,h];by_cases hs:c∈suf
   ·rw [if_pos hs,if_pos (hm.2 hs)]
   ·rw [if_neg hs,if_neg (fun q=>hs (hm.1 q))]
theorem rl4 {ch:List ScopeChan} {sp:List ScopeSpot} {ru:List ScopeRule} {a nd:Int} (suf:List Int) {fuel:Nat}:∀ (pre:List Int) (k:Nat) (u:List Bool),suf.length<k → pre.length+suf.length<fuel → pre.length+suf.length ≤ 3000000 → u.length=ch.length →
 (∃ u',mH ch a pre suf u=some u' ∧ u'.length=ch.length ∧ kE fuel ⟨ch,sp,ru⟩ ⟨a,pre++suf,nd⟩ k u pre.length=some (.inl u')) ∨
 (mH ch a pre suf u=none ∧ kE fuel ⟨ch,sp,ru⟩ ⟨a,pre++suf,nd⟩ k u pre.length=some (.inr (.inr false))):=by
 induction suf with
 | nil=>
  intro pre k u hk _ _ hl;obtain _ | k:=k
  ·omega
  exact .inl ⟨u,rfl,hl,by rw [kE,if_neg (by simp)]⟩
 | cons e suf ih=>
  intro pre k u hk hf hB hl;obtain _ | k:=k
  ·omega
  simp only [List.length_cons]at hk hB hf;rw [kE,if_pos (bX _ _ _)];dsimp only
  rw [bL,bsm];simp only [mH];by_cases h1:0 ≤ e ∧ e<(ch.length:Int)
  ·obtain⟨y,hy⟩:=fG h1.1 h1.2;obtain⟨b,hb⟩:=fG (xs:=u) h1.1 (by omega)
   rw [hy,if_neg (show ¬ e<0 by omega),if_neg (show ¬ (ch.length:Int) ≤ e by omega),bsm];dsimp only
   by_cases h2:y.At=a
   ·have h5:=rl5 (a:=a) (nd:=nd) (c:=e) (js:=pre++e :: suf) pre [] fuel (e :: suf) (by simp) (by omega) (by simp;omega)
    simp only [List.length_nil,Nat.zero_add,Int.natCast_zero]at h5;rw [if_neg (show ¬ (y.At≠a)from fun q=>q h2),h5,bsm];by_cases h3:e∈pre
    ·rw [if_pos h3,if_neg (show ¬ (y.At=a ∧ e ∉ pre)from fun q=>q.2 h3)];exact .inr ⟨rfl,rfl⟩
    ·rw [if_neg h3,if_pos (show y.At=a ∧ e ∉ pre from⟨h2,h3⟩)];dsimp only
     rw [hb,bsm,bsm];dsimp only
     rw [aU (by omega),bsm,eB pre suf e,bN pre e];exact ih (pre++[e]) k _ (by omega) (by simp;omega) (by simp;omega) (by simpa using hl)
   ·rw [if_pos (show y.At≠a from h2),if_neg (show ¬ (y.At=a ∧ e ∉ pre)from fun q=>h2 q.1)];exact .inr ⟨rfl,rfl⟩
  ·rw [aA3 h1];refine .inr ⟨rfl,?_⟩;by_cases h0:e<0
   ·rw [if_pos h0];rfl
   ·rw [if_neg h0,if_pos (by omega)];rfl
theorem rl3 {ch:List ScopeChan} {sp:List ScopeSpot} {fuel:Nat} (suf:List ScopeRule):∀ (pre:List ScopeRule) (k:Nat) (u:List Bool),suf.length<k → pre.length+suf.length ≤ 3000000 → 2000000<fuel → (∀ r∈suf,r.Joins.length ≤ 2000000) → u.length=ch.length →
 (∃ u',jB ch sp.length suf u=some u' ∧ u'.length=ch.length ∧ lM fuel ⟨ch,sp,pre++suf⟩ k u pre.length=some (.inl u')) ∨
 (jB ch sp.length suf u=none ∧ lM fuel ⟨ch,sp,pre++suf⟩ k u pre.length=some (.inr false)):=by
 induction suf with
 | nil=>
  intro pre k u hk _ _ _ hl;obtain _ | k:=k
  ·omega
  exact .inl ⟨u,rfl,hl,by rw [lM,if_neg (by simp)]⟩
 | cons e suf ih=>
  intro pre k u hk hB hf hJ hl;obtain _ | k:=k
  ·omega
  simp only [List.length_cons]at hk hB;have hj:=hJ e (.head _);rw [lM,if_pos (bX _ _ _)];dsimp only
  rw [bL,bsm];simp only [jB];by_cases h1:okR sp.length e
  ·obtain⟨c1,c2,c3,c4⟩:=h1;rw [if_pos (show okR sp.length e from⟨c1,c2,c3,c4⟩),if_neg (show ¬ e.At<0 by omega),if_neg (show ¬ (sp.length:Int)<e.At by omega),if_neg (show ¬ (e.Joins.length:Int)<1 by omega),if_neg (show ¬ 3<(e.Joins.length:Int) by omega)];have h4:=rl4 (ch:=ch) (sp:=sp) (ru:=pre++e :: suf) (a:=e.At) (nd:=e.Node) e.Joins (fuel:=fuel) [] fuel u (by omega) (by simp;omega) (by simp;omega) hl
   simp only [List.nil_append,List.length_nil,Int.natCast_zero]at h4;rcases h4 with⟨u',a1,a2,a4⟩ | ⟨a1,a4⟩
   ·have:((kE fuel ⟨ch,sp,pre++e :: suf⟩ e fuel u 0)=some (.inl u')):=a4;rw [a1,bsm,this,bsm];dsimp only
    rw [aU (by omega),bsm,eB pre suf e,bN pre e];exact ih (pre++[e]) k u' (by omega) (by simp;omega) hf (fun r hr=>hJ r (.tail _ hr)) a2
   ·have:((kE fuel ⟨ch,sp,pre++e :: suf⟩ e fuel u 0)=some (.inr (.inr false))):=a4;rw [a1,this];exact .inr ⟨rfl,rfl⟩
  ·rw [if_neg h1];refine .inr ⟨rfl,?_⟩;unfold okR at h1;by_cases c1:e.At<0
   ·rw [if_pos c1];rfl
   ·rw [if_neg c1];by_cases c2:(sp.length:Int)<e.At
    ·rw [if_pos c2];rfl
    ·rw [if_neg c2];by_cases c3:(e.Joins.length:Int)<1
     ·rw [if_pos c3];rfl
     ·rw [if_neg c3,if_pos (by omega)];rfl
theorem rl6 (suf:List Bool):∀ (pre:List Bool) (k:Nat),suf.length<k → pre.length+suf.length ≤ 3000000 → oB (pre++suf) k pre.length=some (if suf.all id=true then .inl () else .inr false):=by
 induction suf with
 | nil=>
  intro pre k hk _;obtain _ | k:=k
  ·omega
  rw [oB,if_neg (by simp),if_pos (by rfl)]
 | cons e suf ih=>
  intro pre k hk hB;obtain _ | k:=k
  ·omega
  simp only [List.length_cons]at hk hB;rw [oB,if_pos (bX _ _ _),bL,bsm];cases e with
  | false=>
   rw [cond_false,show(false :: suf).all id=false from rfl,if_neg Bool.false_ne_true];rfl
  | true=>
   rw [cond_true,aU (by omega),bsm,eB pre suf true,bN pre true,ih (pre++[true]) k (by omega) (by simp;omega),show(true :: suf).all id=suf.all id from by simp]
theorem rdef_eq {fuel:Nat} {d:ScopeDef} (hf:3000000 ≤ fuel) (hs:smD d):xL fuel d=some (okD d):=by
 obtain⟨ch,sp,ru⟩:=d
 obtain⟨s1,s2,s3,s4⟩:=hs
 dsimp only at s1 s2 s3 s4
 rw [xL]
 dsimp only
 have e1:=rl1 (sp:=sp) (ru:=ru) ch [] fuel (by omega) (by simp;omega)
 have e2:=rl2 (ch:=ch) (ru:=ru) sp [] fuel (by omega) (by simp;omega)
 have e3:=rl3 (ch:=ch) (sp:=sp) (fuel:=fuel) ru [] fuel (List.replicate ch.length false) (by omega) (by simp;omega) (by omega) s4 (by simp)
 simp only [List.nil_append,List.length_nil,Int.natCast_zero]at e1 e2 e3
 have hmk:mk false (ch.length:Int)=some (List.replicate ch.length false):=by unfold mk;rw [if_pos (by omega)];simp
 have hok:okD ⟨ch,sp,ru⟩=(decide (ch.length ≤ 30 ∧ sp.length ≤ 30 ∧ ru.length ≤ 30) && ch.all (gE sp.length) && kT 0 sp && okU (jB ch sp.length ru (List.replicate ch.length false))):=rfl
 by_cases l1:30<ch.length
 ·rw [if_pos (by omega),hok,decide_eq_false (by omega)];simp
 ·rw [if_neg (by omega)];by_cases l2:30<sp.length
  ·rw [if_pos (by omega),hok,decide_eq_false (by omega)];simp
  ·rw [if_neg (by omega)];by_cases l3:30<ru.length
   ·rw [if_pos (by omega),hok,decide_eq_false (by omega)];simp
   ·rw [if_neg (by omega),e1,bsm,hok,decide_eq_true (by omega)];cases h1:ch.all (gE sp.length)with
    | false=>simp
    | true=>
     simp only [if_true,Bool.true_and];rw [e2,bsm];cases h2:kT 0 sp with
     | false=>simp
     | true=>
      simp only [if_true,Bool.true_and];rw [hmk,bsm];rcases e3 with⟨u,a1,a2,a4⟩ | ⟨a1,a4⟩
      ·have h6:=rl6 u [] fuel (by omega) (by simp;omega)
       simp only [List.nil_append,List.length_nil,Int.natCast_zero]at h6;rw [a4,bsm,a1];dsimp only
       rw [h6,bsm];have:okU (some u)=u.all id:=rfl;rw [this];cases u.all id <;> simp
      ·rw [a4,bsm,a1];simp [okU]
open Go.SX Go.SW Go.Dt
structure VS where
 sz:List Int
 met:List Bool
 dfs:List Bool
def shp (op:Int):Option (Nat × Nat):=
 if op=1 ∨ op=7 then some (0,0) else if op=3 then some (2,0) else if op=2 then some (0,1) else if op=5 then some (2,2) else if op=6 ∨ op=8 then some (1,3) else if op=4 then some (1,4) else none
def okM (p:ScopeProg) (s:VS) (x:ScopeNode) (size:Int):Nat → Prop
 | 0=>x.N=0 ∧ x.Args.length=0
 | 1=>(0 ≤ x.N ∧ x.N<size) ∧ x.Args.length ≤ 3
 | 2=>x.N=0 ∧ x.Args.length=1
 | 3=>(0 ≤ x.N ∧ x.N<size) ∧ x.Args.length=0
 | _=>(0 ≤ x.N ∧ x.N<(p.Defs.length:Int) ∧ idx s.dfs x.N=some false) ∧ x.Args.length=0
def okN (p:ScopeProg) (s:VS) (x:ScopeNode) (size:Int):Prop:=(∃ k c,shp x.Op=some (k,c) ∧ x.Kids.length=k ∧ okM p s x size c) ∧ x.Args.all (okE size)=true
def own (d:ScopeDef):Int:=(d.Chans.length:Int)+(d.Spots.length:Int)
def brs (ch:List ScopeChan):List Int → Int
 | []=>0
 | c :: js=>(match idx ch c with | some y=>y.Many | none=>0)+brs ch js
def cD (g:VS → Int → Int → Option VS):VS → List (Int × Int) → Option VS
 | s,[]=>some s
 | s,x :: l=>(g s x.1 x.2).bind fun s=>cD g s l
open Classical in
noncomputable def vis (p:ScopeProg):Nat → VS → Int → Int → Option VS
 | 0,_,_,_=>none
 | f+1,s,n,size=>
  if 0 ≤ n ∧ n<(p.Nodes.length:Int) ∧ idx s.met n=some false then
   (idx p.Nodes n).bind fun x=>
   if okN p s x size then
    if x.Op=4 then
     (idx p.Defs x.N).bind fun d=>
     if okD d=true then
      (cD (vis p f) ⟨s.sz.set n.toNat size,s.met.set n.toNat true,s.dfs.set x.N.toNat true⟩ (d.Rules.map fun r=>(r.Node,size+own d+brs d.Chans r.Joins))).bind fun s1=>
      (cD (vis p f) s1 (d.Spots.map fun y=>(y.Node,size+own d))).bind fun s2=>
      cD (vis p f) s2 (x.Kids.map fun k=>(k,size+own d))
     else none
    else cD (vis p f) ⟨s.sz.set n.toNat size,s.met.set n.toNat true,s.dfs⟩ (x.Kids.map fun k=>(k,size))
   else none
  else none
def unm (s:VS):Nat:=s.met.countP (fun b=>!b)
structure WS (p:ScopeProg) (s:VS):Prop where
 sz:s.sz.length=p.Nodes.length
 met:s.met.length=p.Nodes.length
 dfs:s.dfs.length=p.Defs.length
structure SmP (p:ScopeProg):Prop where
 nodes:p.Nodes.length ≤ 2000000
 defs:p.Defs.length ≤ 2000000
 free:p.Free.length ≤ 2000000
 names:∀ x∈p.Free,x.size ≤ 2000000
 args:∀ x∈p.Nodes,x.Args.length ≤ 2000000 ∧ x.Kids.length ≤ 2000000 ∧ ∀ e∈x.Args,nE e ≤ 2000000
 dfs:∀ d∈p.Defs,smD d
theorem jL {α:Type} {xs:List α} {i:Int} {y:α} (h:idx xs i=some y):y∈xs:=List.mem_of_getElem? (cB h)
theorem aFo {ch:List ScopeChan} {a:Int}:∀ (js pre:List Int) (u u':List Bool),mH ch a pre js u=some u' → ∀ c∈js,∃ y,idx ch c=some y
 | [],_,_,_,_,c,h=>by cases h
 | e :: js,pre,u,u',h,c,hc=>by
  simp only [mH]at h;cases he:idx ch e with
  | none=>rw [he]at h;cases h
  | some y=>
   rw [he]at h;dsimp only at h
   split at h
   ·cases hc with
    | head=>exact⟨y,he⟩
    | tail _ hc=>exact aFo js _ _ _ h c hc
   ·cases h
theorem aDI {ch:List ScopeChan} {n:Nat}:∀ (rs:List ScopeRule) (u u':List Bool),jB ch n rs u=some u' → ∀ r∈rs,okR n r ∧ ∀ c∈r.Joins,∃ y,idx ch c=some y
 | [],_,_,_,r,h=>by cases h
 | e :: rs,u,u',h,r,hr=>by
  simp only [jB]at h;split at h
  ·rename_i h1;obtain⟨u1,h2,h3⟩:=bind_some h;cases hr with
   | head=>exact⟨h1,aFo _ _ _ _ h2⟩
   | tail _ hr=>exact aDI rs _ _ h3 r hr
  ·cases h
theorem qM {d:ScopeDef} (h:okD d=true):d.Chans.length ≤ 30 ∧ d.Spots.length ≤ 30 ∧ d.Rules.length ≤ 30 ∧ (∀ c∈d.Chans,0 ≤ c.Many ∧ c.Many ≤ 3) ∧ ∀ r∈d.Rules,r.Joins.length ≤ 3 ∧ ∀ c∈r.Joins,∃ y,idx d.Chans c=some y ∧ 0 ≤ y.Many ∧ y.Many ≤ 3:=by
 simp only [okD,Bool.and_eq_true,decide_eq_true_eq]at h
 obtain⟨⟨⟨h1,h2⟩,h3⟩,h4⟩:=h
 have hm:∀ c∈d.Chans,0 ≤ c.Many ∧ c.Many ≤ 3:=fun c hc=>by
  have:=of_decide_eq_true (List.all_eq_true.1 h2 c hc);exact⟨this.2.2.1,this.2.2.2⟩
 refine⟨h1.1,h1.2.1,h1.2.2,hm,fun r hr=>?_⟩
 cases hu:jB d.Chans d.Spots.length d.Rules (List.replicate d.Chans.length false)with
 | none=>rw [hu]at h4;cases h4
 | some u=>
  obtain⟨g1,g2⟩:=aDI _ _ _ hu r hr;exact⟨g1.2.2.2,fun c hc=>let ⟨y,hy⟩:=g2 c hc;⟨y,hy,hm y (jL hy)⟩⟩
theorem aAB {ch:List ScopeChan}:∀ {js:List Int},(∀ c∈js,∃ y,idx ch c=some y ∧ 0 ≤ y.Many ∧ y.Many ≤ 3) → 0 ≤ brs ch js ∧ brs ch js ≤ 3*js.length
 | [],_=>by simp [brs]
 | c :: js,h=>by
  obtain⟨y,h1,h2,h3⟩:=h c (.head _);have:=aAB (js:=js) fun c hc=>h c (.tail _ hc)
  simp only [brs,h1,List.length_cons];omega
theorem aHH {ch:List ScopeChan} {sp:List ScopeSpot} {ru:List ScopeRule} {a nd:Int} (suf:List Int):∀ (pre:List Int) (k:Nat) (w:Int),suf.length<k → pre.length+suf.length ≤ 1000 → 0 ≤ w → w ≤ 100000 → (∀ c∈suf,∃ y,idx ch c=some y ∧ 0 ≤ y.Many ∧ y.Many ≤ 3) → w+3*suf.length ≤ 100000 →
 oF ⟨ch,sp,ru⟩ ⟨a,pre++suf,nd⟩ k w pre.length=some (w+brs ch suf):=by
 induction suf with
 | nil=>
  intro pre k w hk _ _ _ _ _;obtain _ | k:=k
  ·omega
  rw [oF,if_neg (by simp)];simp [brs]
 | cons e suf ih=>
  intro pre k w hk hB h0 h1 hm hw;obtain _ | k:=k
  ·omega
  simp only [List.length_cons]at hk hB hw;obtain⟨y,g1,g2,g3⟩:=hm e (.head _);rw [oF,if_pos (bX _ _ _)];dsimp only
  rw [bL,bsm,g1,bsm,aU (by omega),bsm,aU (by omega),bsm,eB pre suf e,bN pre e,ih (pre++[e]) k _ (by omega) (by simp;omega) (by omega) (by omega) (fun c hc=>hm c (.tail _ hc)) (by omega)];simp only [brs,g1];congr 1;omega
theorem aGQ {fuel:Nat} {d:ScopeDef} {r:ScopeRule} (hf:3000 ≤ fuel) (h:okD d=true) (hr:r∈d.Rules):xJ fuel d r=some (brs d.Chans r.Joins):=by
 obtain⟨_,_,_,_,h5⟩:=qM h
 obtain⟨g1,g2⟩:=h5 r hr
 have:=aHH (ch:=d.Chans) (sp:=d.Spots) (ru:=d.Rules) (a:=r.At) (nd:=r.Node) r.Joins [] fuel 0 (by omega) (by simp;omega) (by omega) (by omega) g2 (by omega)
 simp only [List.nil_append,List.length_nil,Int.natCast_zero]at this
 rw [xJ,this,bsm];congr 1;omega
def jY (p:ScopeProg) (o:Option VS):Scope_looker ⊕ Value:=match o with
 | some s=> .inl ⟨p,s.sz,s.met,s.dfs⟩
 | none=> .inr flaw
structure Vis (p:ScopeProg) (f:Nat) (rec:Scope_looker → Int → Int → Option (Scope_looker ⊕ Value)):Prop where
 run:∀ (s:VS) (n z:Int),WS p s → unm s ≤ f → 0 ≤ z → z+80*f ≤ 100000 → rec ⟨p,s.sz,s.met,s.dfs⟩ n z=some (jY p (vis p f s n z))
structure VisO (p:ScopeProg) (f:Nat):Prop where
 out:∀ (s:VS) (n z:Int) (s':VS),WS p s → unm s ≤ f → vis p f s n z=some s' → WS p s' ∧ unm s'+1 ≤ unm s
theorem lV {p:ScopeProg} {f:Nat} (h:VisO p f):∀ (l:List (Int × Int)) (s s':VS),WS p s → unm s ≤ f → cD (vis p f) s l=some s' → WS p s' ∧ unm s' ≤ unm s
 | [],s,s',hs,_,e=>by cases e;exact⟨hs,Nat.le_refl _⟩
 | x :: l,s,s',hs,hu,e=>by
  obtain⟨s1,e1,e2⟩:=bind_some e;obtain⟨h1,h2⟩:=h.out _ _ _ _ hs hu e1;obtain⟨h3,h4⟩:=lV h l s1 s' h1 (by omega) e2
  exact⟨h3,by omega⟩
section
variable {p:ScopeProg} {f:Nat} {rec:Scope_looker → Int → Int → Option (Scope_looker ⊕ Value)}
theorem ln4 (hv:Vis p f rec) (ho:VisO p f) {op nn:Int} {ar:List ScopeExp} {z:Int} (hz:0 ≤ z ∧ z+80*f ≤ 100000) (suf:List Int):∀ (pre:List Int) (k:Nat) (s:VS),suf.length<k → pre.length+suf.length ≤ 3000000 → WS p s → unm s ≤ f →
 mM rec ⟨op,nn,ar,pre++suf⟩ z k pre.length p.Free p.Nodes p.Defs p.Main s.sz s.met s.dfs=some (jY p (cD (vis p f) s (suf.map fun k=>(k,z)))):=by
 induction suf with
 | nil=>
  intro pre k s hk _ hs hu;obtain _ | k:=k
  ·omega
  rw [mM,if_neg (by simp)];rfl
 | cons e suf ih=>
  intro pre k s hk hB hs hu;obtain _ | k:=k
  ·omega
  simp only [List.length_cons]at hk hB;rw [mM,if_pos (bX _ _ _)];dsimp only
  rw [bL,bsm];have h1:=hv.run s e z hs hu hz.1 hz.2;rw [show(⟨⟨p.Free,p.Nodes,p.Defs,p.Main⟩,s.sz,s.met,s.dfs⟩:Scope_looker)=⟨p,s.sz,s.met,s.dfs⟩from rfl,h1,bsm];simp only [List.map_cons,cD];cases hc:vis p f s e z with
  | none=>rfl
  | some s1=>
   obtain⟨h2,h3⟩:=ho.out _ _ _ _ hs hu hc;simp only [jY];rw [aU (by omega),bsm,eB pre suf e,bN pre e,bsm];exact ih (pre++[e]) k s1 (by omega) (by simp;omega) h2 (by omega)
theorem ln3 (hv:Vis p f rec) (ho:VisO p f) {ch:List ScopeChan} {ru:List ScopeRule} {z:Int} (hz:0 ≤ z ∧ z+80*f ≤ 100000) (suf:List ScopeSpot):∀ (pre:List ScopeSpot) (k:Nat) (s:VS),suf.length<k → pre.length+suf.length ≤ 3000000 → WS p s → unm s ≤ f →
 mB rec ⟨ch,pre++suf,ru⟩ z k pre.length p.Free p.Nodes p.Defs p.Main s.sz s.met s.dfs=some (match cD (vis p f) s (suf.map fun y=>(y.Node,z))with
  | some s'=> .inl (z,p.Free,p.Nodes,p.Defs,p.Main,s'.sz,s'.met,s'.dfs)
  | none=> .inr (.inr flaw)):=by
 induction suf with
 | nil=>
  intro pre k s hk _ hs hu;obtain _ | k:=k
  ·omega
  rw [mB,if_neg (by simp)];rfl
 | cons e suf ih=>
  intro pre k s hk hB hs hu;obtain _ | k:=k
  ·omega
  simp only [List.length_cons]at hk hB;rw [mB,if_pos (bX _ _ _)];dsimp only
  rw [bL,bsm];have h1:=hv.run s e.Node z hs hu hz.1 hz.2;rw [show(⟨⟨p.Free,p.Nodes,p.Defs,p.Main⟩,s.sz,s.met,s.dfs⟩:Scope_looker)=⟨p,s.sz,s.met,s.dfs⟩from rfl,h1,bsm];simp only [List.map_cons,cD];cases hc:vis p f s e.Node z with
  | none=>rfl
  | some s1=>
   obtain⟨h2,h3⟩:=ho.out _ _ _ _ hs hu hc;simp only [jY];rw [aU (by omega),bsm,eB pre suf e,bN pre e,bsm];exact ih (pre++[e]) k s1 (by omega) (by simp;omega) h2 (by omega)
theorem ln2 (hv:Vis p f rec) (ho:VisO p f) {fuel:Nat} {d:ScopeDef} (hd:okD d=true) (hf:3000 ≤ fuel) {z:Int} (hz:0 ≤ z ∧ z+9+80*f ≤ 100000) (suf:List ScopeRule):∀ (pre:List ScopeRule) (k:Nat) (s:VS),d.Rules=pre++suf → suf.length<k → pre.length+suf.length ≤ 3000000 → WS p s → unm s ≤ f →
 mA fuel rec d z k pre.length p.Free p.Nodes p.Defs p.Main s.sz s.met s.dfs=some (match cD (vis p f) s (suf.map fun r=>(r.Node,z+brs d.Chans r.Joins))with
  | some s'=> .inl (p.Free,p.Nodes,p.Defs,p.Main,s'.sz,s'.met,s'.dfs)
  | none=> .inr (.inr (.inr flaw))):=by
 induction suf with
 | nil=>
  intro pre k s he hk _ hs hu;obtain _ | k:=k
  ·omega
  rw [mA,he,if_neg (by simp)];rfl
 | cons e suf ih=>
  intro pre k s he hk hB hs hu;obtain _ | k:=k
  ·omega
  simp only [List.length_cons]at hk hB;have hmem:e∈d.Rules:=by rw [he];simp
  obtain⟨_,_,_,_,h5⟩:=qM hd;obtain⟨g1,g2⟩:=h5 e hmem;have hb:=aAB g2;rw [mA,he,if_pos (bX _ _ _),← he,show idx d.Rules (pre.length:Int)=some e from by rw [he];exact bL _ _ _,bsm,
   show(⟨e.At,e.Joins,e.Node⟩:ScopeRule)=e from rfl,show(⟨d.Chans,d.Spots,d.Rules⟩:ScopeDef)=d from rfl,aGQ hf hd hmem,bsm,aU (by omega),bsm]
  have h1:=hv.run s e.Node (z+brs d.Chans e.Joins) hs hu (by omega) (by omega)
  rw [show(⟨⟨p.Free,p.Nodes,p.Defs,p.Main⟩,s.sz,s.met,s.dfs⟩:Scope_looker)=⟨p,s.sz,s.met,s.dfs⟩from rfl,h1,bsm];simp only [List.map_cons,cD];cases hc:vis p f s e.Node (z+brs d.Chans e.Joins)with
  | none=>rfl
  | some s1=>
   obtain⟨h2,h3⟩:=ho.out _ _ _ _ hs hu hc;simp only [jY];rw [aU (by omega),bsm,bN pre e,bsm];exact ih (pre++[e]) k s1 (by rw [he];simp) (by omega) (by simp;omega) h2 (by omega)
end
theorem ln1 {fuel:Nat} (hf:3000000 ≤ fuel) {op nn:Int} {ks:List Int} {z:Int} (suf:List ScopeExp):∀ (pre:List ScopeExp) (k:Nat),suf.length<k → pre.length+suf.length ≤ 3000000 → (∀ e∈suf,nE e ≤ 2000000) →
 lT fuel z ⟨op,nn,pre++suf,ks⟩ k pre.length=some (if suf.all (okE z)=true then .inl () else .inr (.inr flaw)):=by
 induction suf with
 | nil=>
  intro pre k hk _ _;obtain _ | k:=k
  ·omega
  rw [lT,if_neg (by simp),if_pos (by rfl)]
 | cons e suf ih=>
  intro pre k hk hB he;obtain _ | k:=k
  ·omega
  simp only [List.length_cons]at hk hB;have hn:=he e (.head _);rw [lT,if_pos (bX _ _ _),show(e :: suf).all (okE z)=(okE z e && suf.all (okE z))from rfl];dsimp only
  rw [bL,bsm,yK,exp_eq (by omega) (by omega),bsm];cases h1:okE z e with
  | false=>rfl
  | true=>
   rw [Bool.true_and,if_pos rfl];dsimp only
   rw [aU (by omega),bsm,eB pre suf e,bN pre e];exact ih (pre++[e]) k (by omega) (by simp;omega) (fun x hx=>he x (.tail _ hx))
open Go.SX Go.SW Go.Dt
theorem aBo {s:VS} {p:ScopeProg} {n:Int} {z:Int} {dfs:List Bool} (h0:0 ≤ n) (hm:idx s.met n=some false):unm ⟨s.sz.set n.toNat z,s.met.set n.toNat true,dfs⟩+1=unm s:=by
 obtain⟨j,rfl,hj,hlt⟩:=uB hm
 simp only [unm,Int.toNat_natCast]
 rw [List.countP_set (h:=hlt)]
 have hv:s.met[j]=false:=by
  have:=List.getElem?_eq_getElem hlt;rw [hj]at this;exact(Option.some.inj this).symm
 have hpos:0<s.met.countP (fun b=>!b):=List.countP_pos_iff.2 ⟨s.met[j],List.getElem_mem hlt,by rw [hv];rfl⟩
 rw [hv];simp;omega
theorem rP {p:ScopeProg} {s:VS} (h:WS p s) {i j:Nat} {z:Int}:WS p ⟨s.sz.set i z,s.met.set i true,s.dfs⟩ ∧ WS p ⟨s.sz.set i z,s.met.set i true,s.dfs.set j true⟩:=
 ⟨⟨by simp [h.sz],by simp [h.met],h.dfs⟩,⟨by simp [h.sz],by simp [h.met],by simp [h.dfs]⟩⟩
theorem visO (p:ScopeProg) (f:Nat):VisO p f:=by
 induction f with
 | zero=>exact⟨fun s n z s' _ _ h=>by simp [vis]at h⟩
 | succ f ih=>
  refine⟨fun s n z s' hs hu h=>?_⟩
  simp only [vis]at h;split at h
  ·rename_i hc;obtain⟨x,_,h⟩:=bind_some h;have hun:=fun dfs=>aBo (p:=p) (z:=z) (dfs:=dfs) hc.1 hc.2.2
   split at h
   ·split at h
    ·obtain⟨d,_,h⟩:=bind_some h;split at h
     ·obtain⟨s1,e1,h⟩:=bind_some h;obtain⟨s2,e2,e3⟩:=bind_some h;have:=hun (s.dfs.set x.N.toNat true);obtain⟨a1,a2⟩:=lV ih _ _ _ (rP hs).2 (by omega) e1
      obtain⟨b1,b2⟩:=lV ih _ _ _ a1 (by omega) e2
      obtain⟨c1,c2⟩:=lV ih _ _ _ b1 (by omega) e3
      exact⟨c1,by omega⟩
     ·cases h
    ·have:=hun s.dfs;obtain⟨a1,a2⟩:=lV ih _ _ _ (rP hs (j:=0)).1 (by omega) h
     exact⟨a1,by omega⟩
   ·cases h
  ·cases h
def lC (fuel:Nat) (a0:Scope_looker) (a1 a2:Int) (y7:ScopeNode) (x2:Int):Option (Scope_looker ⊕ Value):=
 (bM (decide ((y7.Args.length:Int)=x2))).bind fun y26=>
 match y26 with
 | Sum.inr pv15=>some (Sum.inr pv15)
 | Sum.inl _=>
 (lT fuel a2 y7 fuel 0).bind fun o=>match o with
 | Sum.inr r=>some r
 | Sum.inl _=>
 (if y7.Op=4 then
  (idx a0.defs y7.N).bind fun _=>
  (idx a0.p.Defs y7.N).bind fun y30=>
  (tJ fuel (⟨y30.Chans,y30.Spots,y30.Rules⟩:ScopeDef)).bind fun y31=>
  match y31 with
  | Sum.inr pv17=>(some (Sum.inr pv17)).bind fun r=>some (Sum.inr r)
  | Sum.inl _=>
  (uR (⟨y30.Chans,y30.Spots,y30.Rules⟩:ScopeDef)).bind fun y32=>
  (chk (a2+y32)).bind fun z2=>
  (mA fuel (fC fuel) y30 z2 fuel 0 a0.p.Free a0.p.Nodes a0.p.Defs a0.p.Main (a0.sizes.set a1.toNat a2) (a0.met.set a1.toNat true) (a0.defs.set y7.N.toNat true)).bind fun o=>match o with
  | Sum.inr r=>some r
  | Sum.inl (x17,x18,x19,x20,x21,x22,x23)=>
  mB (fC fuel) y30 z2 fuel 0 x17 x18 x19 x20 x21 x22 x23
 else
  some (Sum.inl (a2,a0.p.Free,a0.p.Nodes,a0.p.Defs,a0.p.Main,a0.sizes.set a1.toNat a2,a0.met.set a1.toNat true,a0.defs))).bind fun o=>match o with
 | Sum.inr r=>some r
 | Sum.inl (x9,x10,x11,x12,x13,x14,x15,x16)=>
 mM (fC fuel) y7 x9 fuel 0 x10 x11 x12 x13 x14 x15 x16
theorem own_eq {d:ScopeDef} (h:d.Chans.length ≤ 2000000) (h2:d.Spots.length ≤ 2000000):uR d=some (own d):=by
 rw [uR,aU (by omega),bsm];rfl
section
variable {p:ScopeProg} {f m:Nat}
noncomputable def rest (p:ScopeProg) (f:Nat) (s:VS) (n z:Int) (x:ScopeNode):Option VS:=
 if x.Op=4 then
  (idx p.Defs x.N).bind fun d=>
  if okD d=true then
   (cD (vis p f) ⟨s.sz.set n.toNat z,s.met.set n.toNat true,s.dfs.set x.N.toNat true⟩ (d.Rules.map fun r=>(r.Node,z+own d+brs d.Chans r.Joins))).bind fun s1=>
   (cD (vis p f) s1 (d.Spots.map fun y=>(y.Node,z+own d))).bind fun s2=>
   cD (vis p f) s2 (x.Kids.map fun k=>(k,z+own d))
  else none
 else cD (vis p f) ⟨s.sz.set n.toNat z,s.met.set n.toNat true,s.dfs⟩ (x.Kids.map fun k=>(k,z))
theorem tail_bad {a0:Scope_looker} {n z:Int} {x:ScopeNode} {x2:Int} (h:¬ (x.Args.length:Int)=x2):lC m a0 n z x x2=some (.inr flaw):=by
 rw [lC,decide_eq_false h,cQ];rfl
theorem tail_eq (hp:SmP p) (hm:3000000 ≤ m) (hv:Vis p f (fC m)) {s:VS} (hs:WS p s) {n z:Int} {x:ScopeNode} (hx:x∈p.Nodes) (hun:∀ dfs,unm ⟨s.sz.set n.toNat z,s.met.set n.toNat true,dfs⟩ ≤ f) (hz:0 ≤ z ∧ z+69+80*f ≤ 100000)
 (hN:x.Op=4 → 0 ≤ x.N ∧ x.N<(p.Defs.length:Int)) {x2:Int} (h2:(x.Args.length:Int)=x2):
 lC m ⟨p,s.sz,s.met,s.dfs⟩ n z x x2=some (jY p (if x.Args.all (okE z)=true then rest p f s n z x else none)):=by
 obtain⟨op,nn,ar,ks⟩:=x
 obtain⟨g1,g2,g3⟩:=hp.args _ hx
 dsimp only at g1 g2 g3 h2 hN
 have ho:=visO p f
 rw [lC,decide_eq_true h2,eQ,bsm]
 dsimp only
 have e1:=ln1 (fuel:=m) hm (op:=op) (nn:=nn) (ks:=ks) (z:=z) ar [] m (by omega) (by simp;omega) g3
 simp only [List.nil_append,List.length_nil,Int.natCast_zero]at e1
 rw [e1,bsm]
 cases hall:ar.all (okE z)with
 | false=>rfl
 | true=>
  rw [if_pos rfl,if_pos rfl];dsimp only
  by_cases h4:op=4
  ·subst h4;obtain⟨n0,n1⟩:=hN rfl;obtain⟨d,hd⟩:=fG n0 n1;obtain⟨b,hb⟩:=fG (xs:=s.dfs) n0 (by rw [hs.dfs];exact n1)
   have hsm:=hp.dfs d (jL hd);have hres:rest p f s n z ⟨4,nn,ar,ks⟩=if okD d=true then
    (cD (vis p f) ⟨s.sz.set n.toNat z,s.met.set n.toNat true,s.dfs.set nn.toNat true⟩ (d.Rules.map fun r=>(r.Node,z+own d+brs d.Chans r.Joins))).bind fun s1=>
    (cD (vis p f) s1 (d.Spots.map fun y=>(y.Node,z+own d))).bind fun s2=>cD (vis p f) s2 (ks.map fun k=>(k,z+own d))
    else none:=by
    rw [rest,if_pos rfl];dsimp only;rw [hd,bsm]
   rw [hres,if_pos rfl,hb,bsm,hd,bsm,show(⟨d.Chans,d.Spots,d.Rules⟩:ScopeDef)=d from rfl,def_eq hm hsm,bsm];cases hok:okD d with
   | false=>rfl
   | true=>
    rw [if_pos rfl,if_pos rfl];dsimp only
    obtain⟨k1,k2,k3,_,_⟩:=qM hok;have hown:0 ≤ own d ∧ own d ≤ 60:=by unfold own;omega
    rw [own_eq (by omega) (by omega),bsm,aU (by omega),bsm];have e2:=ln2 hv ho (fuel:=m) hok (by omega) (z:=z+own d) ⟨by omega,by omega⟩ d.Rules [] m ⟨s.sz.set n.toNat z,s.met.set n.toNat true,s.dfs.set nn.toNat true⟩ rfl (by omega) (by simp;omega) (rP hs).2 (hun _)
    simp only [List.length_nil,Int.natCast_zero]at e2;rw [e2,bsm];cases c2:cD (vis p f) ⟨s.sz.set n.toNat z,s.met.set n.toNat true,s.dfs.set nn.toNat true⟩ (d.Rules.map fun r=>(r.Node,z+own d+brs d.Chans r.Joins))with
    | none=>rfl
    | some s1=>
     obtain⟨w1,u1⟩:=lV ho _ _ _ (rP hs).2 (hun _) c2;have hu1:=hun (s.dfs.set nn.toNat true);dsimp only
     rw [bsm];have e3:=ln3 hv ho (ch:=d.Chans) (ru:=d.Rules) (z:=z+own d) ⟨by omega,by omega⟩ d.Spots [] m s1 (by omega) (by simp;omega) w1 (by omega)
     simp only [List.nil_append,List.length_nil,Int.natCast_zero]at e3;rw [show(⟨d.Chans,d.Spots,d.Rules⟩:ScopeDef)=d from rfl]at e3;rw [e3,bsm];cases c3:cD (vis p f) s1 (d.Spots.map fun y=>(y.Node,z+own d))with
     | none=>rfl
     | some s2=>
      obtain⟨w2,u2⟩:=lV ho _ _ _ w1 (by omega) c3
      dsimp only
      rw [bsm];have e4:=ln4 hv ho (op:=4) (nn:=nn) (ar:=ar) (z:=z+own d) ⟨by omega,by omega⟩ ks [] m s2 (by omega) (by simp;omega) w2 (by omega)
      simp only [List.nil_append,List.length_nil,Int.natCast_zero]at e4;exact e4
  ·rw [if_neg h4,bsm];dsimp only
   have hres:rest p f s n z ⟨op,nn,ar,ks⟩=cD (vis p f) ⟨s.sz.set n.toNat z,s.met.set n.toNat true,s.dfs⟩ (ks.map fun k=>(k,z)):=by
    rw [rest,if_neg h4]
   rw [hres];have e4:=ln4 hv ho (op:=op) (nn:=nn) (ar:=ar) (z:=z) ⟨by omega,by omega⟩ ks [] m ⟨s.sz.set n.toNat z,s.met.set n.toNat true,s.dfs⟩ (by omega) (by simp;omega) (rP hs (j:=0)).1 (hun _)
   simp only [List.nil_append,List.length_nil,Int.natCast_zero]at e4;exact e4
theorem aEq {s:VS} (hs:WS p s) {n z:Int} (h:¬ (0 ≤ n ∧ n<(p.Nodes.length:Int) ∧ idx s.met n=some false)):fC (m+1) ⟨p,s.sz,s.met,s.dfs⟩ n z=some (.inr flaw):=by
 rw [fC]
 by_cases h0:0 ≤ n
 ·rw [if_pos h0];by_cases h1:n<(p.Nodes.length:Int)
  ·obtain⟨b,hb⟩:=fG (xs:=s.met) h0 (by rw [hs.met];exact h1)
   dsimp only
   rw [if_pos h1,hb,bsm];cases b with
   | false=>exact absurd ⟨h0,h1,hb⟩ h
   | true=>rfl
  ·dsimp only
   rw [if_neg h1,cQ];rfl
 ·rw [if_neg h0,cQ];rfl
end
open Go.SX Go.SW Go.Dt
theorem aGk {op:Int} (h:op=1 ∨ op=7):jI op=some (.iface 271 (.int .i64 0)):=by
 rcases h with rfl | rfl <;> rfl
theorem aHz:jI 3=some (.iface 271 (.int .i64 2)):=rfl
theorem aHG:jI 2=some (.iface 259 (.agg ⟨[]⟩)):=rfl
theorem aGz:jI 5=some (.iface 262 (.agg ⟨[]⟩)):=rfl
theorem aHp {op:Int} (h:op=6 ∨ op=8):jI op=some (.iface 260 (.agg ⟨[]⟩)):=by
 rcases h with rfl | rfl <;> rfl
theorem aHU:jI 4=some (.iface 261 (.agg ⟨[]⟩)):=rfl
theorem aHv {op:Int} (h:shp op=none):jI op=some .nilIface:=by
 unfold shp at h
 rw [jI]
 split at h;· cases h
 split at h;· cases h
 split at h;· cases h
 split at h;· cases h
 split at h;· cases h
 split at h;· cases h
 rename_i h1 h2 h3 h4 h5 h6
 rw [if_neg (by omega),bsm,decide_eq_false (by omega),cond_false,if_neg h2,if_neg h3,if_neg h4,if_neg (by omega),bsm,decide_eq_false (by omega),cond_false,if_neg h6]
def iL (m:Nat) (a0:Scope_looker) (a1 a2:Int) (y7:ScopeNode) (y8:Value):Option (Scope_looker ⊕ Value):=
 ((iN y8).bind fun x1=>
 bif !x1 then
  (lI y8).bind fun y9=>
  (bM (decide ((y7.Kids.length:Int)=y9))).bind fun y10=>
  match y10 with
  | Sum.inr pv4=>(some (Sum.inr pv4)).bind fun r=>some (Sum.inr r)
  | Sum.inl _=>
  some (Sum.inl ())
 else
  (bM false).bind fun y11=>
  match y11 with
  | Sum.inr pv5=>(some (Sum.inr pv5)).bind fun r=>some (Sum.inr r)
  | Sum.inl _=>
  some (Sum.inl ())).bind fun o=>match o with
 | Sum.inr r=>some r
 | Sum.inl _=>
 ((eR 259 (.agg #[]) y8).bind fun y12=>
 match y12 with
 | (_,x3)=>
 bif x3 then
  if 0 ≤ y7.N then
   (bM (decide (y7.N<a2))).bind fun y13=>
   match y13 with
   | Sum.inr pv6=>(some (Sum.inr pv6)).bind fun r=>some (Sum.inr r)
   | Sum.inl _=>
   some (Sum.inl (min (y7.Args.length:Int) 3))
  else
   (bM false).bind fun y14=>
   match y14 with
   | Sum.inr pv7=>(some (Sum.inr pv7)).bind fun r=>some (Sum.inr r)
   | Sum.inl _=>
   some (Sum.inl (min (y7.Args.length:Int) 3))
 else
  (eR 260 (.agg #[]) y8).bind fun y15=>
  match y15 with
  | (_,x4)=>
  bif x4 then
   if 0 ≤ y7.N then
    (bM (decide (y7.N<a2))).bind fun y16=>
    match y16 with
    | Sum.inr pv8=>(some (Sum.inr pv8)).bind fun r=>some (Sum.inr r)
    | Sum.inl _=>
    some (Sum.inl 0)
   else
    (bM false).bind fun y17=>
    match y17 with
    | Sum.inr pv9=>(some (Sum.inr pv9)).bind fun r=>some (Sum.inr r)
    | Sum.inl _=>
    some (Sum.inl 0)
  else
   (eR 261 (.agg #[]) y8).bind fun y18=>
   match y18 with
   | (_,x5)=>
   bif x5 then
    if 0 ≤ y7.N then
     if y7.N<(a0.p.Defs.length:Int)then
      (idx a0.defs y7.N).bind fun y19=>
      (bM (!y19)).bind fun y20=>
      match y20 with
      | Sum.inr pv10=>(some (Sum.inr pv10)).bind fun r=>some (Sum.inr r)
      | Sum.inl _=>
      some (Sum.inl 0)
     else
      (bM false).bind fun y21=>
      match y21 with
      | Sum.inr pv11=>(some (Sum.inr pv11)).bind fun r=>some (Sum.inr r)
      | Sum.inl _=>
      some (Sum.inl 0)
    else
     (bM false).bind fun y22=>
     match y22 with
     | Sum.inr pv12=>(some (Sum.inr pv12)).bind fun r=>some (Sum.inr r)
     | Sum.inl _=>
     some (Sum.inl 0)
   else
    (eR 262 (.agg #[]) y8).bind fun y23=>
    match y23 with
    | (_,x6)=>
    bif x6 then
     (bM (decide (y7.N=0))).bind fun y24=>
     match y24 with
     | Sum.inr pv13=>(some (Sum.inr pv13)).bind fun r=>some (Sum.inr r)
     | Sum.inl _=>
     some (Sum.inl 1)
    else
     (bM (decide (y7.N=0))).bind fun y25=>
     match y25 with
     | Sum.inr pv14=>(some (Sum.inr pv14)).bind fun r=>some (Sum.inr r)
     | Sum.inl _=>
     some (Sum.inl 0)).bind fun o=>match o with
 | Sum.inr r=>some r
 | Sum.inl x2=>lC m a0 a1 a2 y7 x2
section
variable {p:ScopeProg} {f m:Nat}
theorem rM {s:VS} (hs:WS p s) {n z:Int} {x:ScopeNode} (h:0 ≤ n ∧ n<(p.Nodes.length:Int) ∧ idx s.met n=some false) (hx:idx p.Nodes n=some x) {v:Value} (hv:jI x.Op=some v):
 fC (m+1) ⟨p,s.sz,s.met,s.dfs⟩ n z=iL m ⟨p,s.sz,s.met,s.dfs⟩ n z x v:=by
 obtain⟨h0,h1,h2⟩:=h
 obtain⟨b,hb⟩:=fG (xs:=s.sz) h0 (by rw [hs.sz];exact h1)
 rw [fC,if_pos h0]
 dsimp only
 rw [if_pos h1,h2,bsm,show(!false)=true from rfl,eQ,bsm,bsm]
 dsimp only
 rw [bsm,hb,bsm,hx,bsm,hv,bsm]
 rfl
theorem mid_nil {a0:Scope_looker} {n z:Int} {x:ScopeNode}:iL m a0 n z x .nilIface=some (.inr flaw):=rfl
theorem vA {a0:Scope_looker} {n z:Int} {x:ScopeNode} {v:Value} {k:Int} (hn:iN v=some false) (hk:lI v=some k) (h:¬ (x.Kids.length:Int)=k):iL m a0 n z x v=some (.inr flaw):=by
 rw [iL,hn,bsm,show(!false)=true from rfl,cond_true,hk,bsm,decide_eq_false h,cQ];rfl
theorem aEM {a0:Scope_looker} {n z:Int} {x:ScopeNode} {k:Int} (h:(x.Kids.length:Int)=k):iL m a0 n z x (.iface 271 (.int .i64 k))=if x.N=0 then lC m a0 n z x 0 else some (.inr flaw):=by
 rw [iL,show iN (.iface 271 (.int .i64 k))=some false from rfl,bsm,show(!false)=true from rfl,cond_true,show lI (.iface 271 (.int .i64 k))=some k from rfl,bsm,decide_eq_true h,eQ,bsm,bsm]
 dsimp only
 rw [show eR 259 (.agg #[]) (.iface 271 (.int .i64 k))=some (.agg #[],false)from rfl,bsm]
 dsimp only
 rw [cond_false,show eR 260 (.agg #[]) (.iface 271 (.int .i64 k))=some (.agg #[],false)from rfl,bsm]
 dsimp only
 rw [cond_false,show eR 261 (.agg #[]) (.iface 271 (.int .i64 k))=some (.agg #[],false)from rfl,bsm]
 dsimp only
 rw [cond_false,show eR 262 (.agg #[]) (.iface 271 (.int .i64 k))=some (.agg #[],false)from rfl,bsm]
 dsimp only
 rw [cond_false]
 by_cases h0:x.N=0
 ·rw [decide_eq_true h0,eQ,if_pos h0];rfl
 ·rw [decide_eq_false h0,cQ,if_neg h0];rfl
theorem aGB {a0:Scope_looker} {n z:Int} {x:ScopeNode} (h:(x.Kids.length:Int)=0):iL m a0 n z x (.iface 259 (.agg ⟨[]⟩))=if 0 ≤ x.N ∧ x.N<z then lC m a0 n z x (min (x.Args.length:Int) 3) else some (.inr flaw):=by
 rw [iL,show iN (.iface 259 (.agg ⟨[]⟩))=some false from rfl,bsm,show(!false)=true from rfl,cond_true,show lI (.iface 259 (.agg ⟨[]⟩))=some 0 from rfl,bsm,decide_eq_true h,eQ,bsm,bsm]
 dsimp only
 rw [show eR 259 (.agg #[]) (.iface 259 (.agg ⟨[]⟩))=some (.agg #[],true)from rfl,bsm]
 dsimp only
 rw [cond_true]
 by_cases h0:0 ≤ x.N
 ·rw [if_pos h0];by_cases h1:x.N<z
  ·rw [decide_eq_true h1,eQ,if_pos ⟨h0,h1⟩];rfl
  ·rw [decide_eq_false h1,cQ,if_neg (fun q=>h1 q.2)];rfl
 ·rw [if_neg h0,cQ,if_neg (fun q=>h0 q.1)];rfl
theorem aIe {a0:Scope_looker} {n z:Int} {x:ScopeNode} (h:(x.Kids.length:Int)=1):iL m a0 n z x (.iface 260 (.agg ⟨[]⟩))=if 0 ≤ x.N ∧ x.N<z then lC m a0 n z x 0 else some (.inr flaw):=by
 rw [iL,show iN (.iface 260 (.agg ⟨[]⟩))=some false from rfl,bsm,show(!false)=true from rfl,cond_true,show lI (.iface 260 (.agg ⟨[]⟩))=some 1 from rfl,bsm,decide_eq_true h,eQ,bsm,bsm]
 dsimp only
 rw [show eR 259 (.agg #[]) (.iface 260 (.agg ⟨[]⟩))=some (.agg #[],false)from rfl,bsm]
 dsimp only
 rw [cond_false,show eR 260 (.agg #[]) (.iface 260 (.agg ⟨[]⟩))=some (.agg #[],true)from rfl,bsm]
 dsimp only
 rw [cond_true]
 by_cases h0:0 ≤ x.N
 ·rw [if_pos h0];by_cases h1:x.N<z
  ·rw [decide_eq_true h1,eQ,if_pos ⟨h0,h1⟩];rfl
  ·rw [decide_eq_false h1,cQ,if_neg (fun q=>h1 q.2)];rfl
 ·rw [if_neg h0,cQ,if_neg (fun q=>h0 q.1)];rfl
theorem aGV {a0:Scope_looker} {n z:Int} {x:ScopeNode} (h:(x.Kids.length:Int)=2):iL m a0 n z x (.iface 262 (.agg ⟨[]⟩))=if x.N=0 then lC m a0 n z x 1 else some (.inr flaw):=by
 rw [iL,show iN (.iface 262 (.agg ⟨[]⟩))=some false from rfl,bsm,show(!false)=true from rfl,cond_true,show lI (.iface 262 (.agg ⟨[]⟩))=some 2 from rfl,bsm,decide_eq_true h,eQ,bsm,bsm]
 dsimp only
 rw [show eR 259 (.agg #[]) (.iface 262 (.agg ⟨[]⟩))=some (.agg #[],false)from rfl,bsm]
 dsimp only
 rw [cond_false,show eR 260 (.agg #[]) (.iface 262 (.agg ⟨[]⟩))=some (.agg #[],false)from rfl,bsm]
 dsimp only
 rw [cond_false,show eR 261 (.agg #[]) (.iface 262 (.agg ⟨[]⟩))=some (.agg #[],false)from rfl,bsm]
 dsimp only
 rw [cond_false,show eR 262 (.agg #[]) (.iface 262 (.agg ⟨[]⟩))=some (.agg #[],true)from rfl,bsm]
 dsimp only
 rw [cond_true]
 by_cases h0:x.N=0
 ·rw [decide_eq_true h0,eQ,if_pos h0];rfl
 ·rw [decide_eq_false h0,cQ,if_neg h0];rfl
theorem aGF {s:VS} (hs:WS p s) {n z:Int} {x:ScopeNode} (h:(x.Kids.length:Int)=1):iL m ⟨p,s.sz,s.met,s.dfs⟩ n z x (.iface 261 (.agg ⟨[]⟩))=if 0 ≤ x.N ∧ x.N<(p.Defs.length:Int) ∧ idx s.dfs x.N=some false then lC m ⟨p,s.sz,s.met,s.dfs⟩ n z x 0 else some (.inr flaw):=by
 rw [iL,show iN (.iface 261 (.agg ⟨[]⟩))=some false from rfl,bsm,show(!false)=true from rfl,cond_true,show lI (.iface 261 (.agg ⟨[]⟩))=some 1 from rfl,bsm,decide_eq_true h,eQ,bsm,bsm]
 dsimp only
 rw [show eR 259 (.agg #[]) (.iface 261 (.agg ⟨[]⟩))=some (.agg #[],false)from rfl,bsm]
 dsimp only
 rw [cond_false,show eR 260 (.agg #[]) (.iface 261 (.agg ⟨[]⟩))=some (.agg #[],false)from rfl,bsm]
 dsimp only
 rw [cond_false,show eR 261 (.agg #[]) (.iface 261 (.agg ⟨[]⟩))=some (.agg #[],true)from rfl,bsm]
 dsimp only
 rw [cond_true]
 by_cases h0:0 ≤ x.N
 ·rw [if_pos h0];by_cases h1:x.N<(p.Defs.length:Int)
  ·obtain⟨b,hb⟩:=fG (xs:=s.dfs) h0 (by rw [hs.dfs];exact h1)
   rw [if_pos h1,hb,bsm];cases b with
   | false=>rw [if_pos ⟨h0,h1,rfl⟩];rfl
   | true=>rw [if_neg (fun q=>by cases q.2.2)];rfl
  ·rw [if_neg h1,cQ,if_neg (fun q=>h1 q.2.1)];rfl
 ·rw [if_neg h0,cQ,if_neg (fun q=>h0 q.1)];rfl
theorem vis_go {s:VS} {n z:Int} {x:ScopeNode} (h:0 ≤ n ∧ n<(p.Nodes.length:Int) ∧ idx s.met n=some false) (hx:idx p.Nodes n=some x):(okN p s x z → vis p (f+1) s n z=rest p f s n z x) ∧ (¬ okN p s x z → vis p (f+1) s n z=none):=by
 constructor
 ·intro ho;simp only [vis];rw [if_pos h,hx,bsm,if_pos ho];rfl
 ·intro ho;simp only [vis];rw [if_pos h,hx,bsm,if_neg ho]
theorem node_go (hp:SmP p) (hm:3000000 ≤ m) (hv:Vis p f (fC m)) {s:VS} (hs:WS p s) {n z:Int} (hu:unm s ≤ f+1) (hz:0 ≤ z ∧ z+69+80*f ≤ 100000) (h:0 ≤ n ∧ n<(p.Nodes.length:Int) ∧ idx s.met n=some false):
 fC (m+1) ⟨p,s.sz,s.met,s.dfs⟩ n z=some (jY p (vis p (f+1) s n z)):=by
 obtain⟨x,hx⟩:=fG h.1 h.2.1
 obtain⟨v1,v2⟩:=vis_go (f:=f) (z:=z) h hx
 have hun:∀ dfs,unm ⟨s.sz.set n.toNat z,s.met.set n.toNat true,dfs⟩ ≤ f:=fun dfs=>by
  have:=aBo (p:=p) (z:=z) (dfs:=dfs) h.1 h.2.2;omega
 have hN:∀ {c k:Nat},shp x.Op=some (k,c) → okM p s x z c → x.Op=4 → 0 ≤ x.N ∧ x.N<(p.Defs.length:Int):=fun {c k} h1 h2 h4=>by
  rw [h4]at h1;have:(1,4)=(k,c):=Option.some.inj h1;cases this;exact⟨h2.1.1,h2.1.2.1⟩
 have fin:∀ {k c:Nat} (x2:Int),shp x.Op=some (k,c) → (x.Kids.length:Int)=k → ((x.Args.length:Int)=x2 → okM p s x z c) → (okM p s x z c → (x.Args.length:Int)=x2) → lC m ⟨p,s.sz,s.met,s.dfs⟩ n z x x2=some (jY p (vis p (f+1) s n z)):=fun {k c} x2 h1 h2 h3 h4=>by
  by_cases ha:(x.Args.length:Int)=x2
  ·rw [tail_eq hp hm hv hs (jL hx) hun hz (hN h1 (h3 ha)) ha];congr 2
   by_cases hall:x.Args.all (okE z)=true
   ·rw [if_pos hall,v1 ⟨⟨k,c,h1,by omega,h3 ha⟩,hall⟩]
   ·rw [if_neg hall,v2 (fun q=>hall q.2)]
  ·rw [tail_bad ha,v2];rfl
   rintro⟨⟨k',c',g1,_,g3⟩,_⟩
   rw [h1]at g1;cases g1
   exact ha (h4 g3)
 have bad:∀ {k c:Nat},shp x.Op=some (k,c) → ¬ ((x.Kids.length:Int)=k ∧ okM p s x z c) → some (jY p (vis p (f+1) s n z))=some (.inr flaw):=fun {k c} h1 h2=>by
  rw [v2];rfl
  rintro⟨⟨k',c',g1,g2,g3⟩,_⟩
  rw [h1]at g1;cases g1
  exact h2 ⟨by omega,g3⟩
 by_cases o1:x.Op=1 ∨ x.Op=7
 ·have hsh:shp x.Op=some (0,0):=by unfold shp;rw [if_pos o1]
  rw [rM hs h hx (aGk o1)];by_cases hk:(x.Kids.length:Int)=0
  ·rw [aEM hk];by_cases hn:x.N=0
   ·rw [if_pos hn];exact fin 0 hsh hk (fun q=>⟨hn,by omega⟩) (fun q=>by have:=q.2;omega)
   ·rw [if_neg hn,bad hsh (fun q=>hn q.2.1)]
  ·rw [vA rfl rfl hk,bad hsh (fun q=>hk q.1)]
 ·by_cases o3:x.Op=3
  ·have hsh:shp x.Op=some (2,0):=by unfold shp;rw [if_neg o1,if_pos o3]
   rw [rM hs h hx (by rw [o3];exact aHz)];by_cases hk:(x.Kids.length:Int)=2
   ·rw [aEM hk];by_cases hn:x.N=0
    ·rw [if_pos hn];exact fin 0 hsh hk (fun q=>⟨hn,by omega⟩) (fun q=>by have:=q.2;omega)
    ·rw [if_neg hn,bad hsh (fun q=>hn q.2.1)]
   ·rw [vA rfl rfl hk,bad hsh (fun q=>hk q.1)]
  ·by_cases o2:x.Op=2
   ·have hsh:shp x.Op=some (0,1):=by unfold shp;rw [if_neg o1,if_neg o3,if_pos o2]
    rw [rM hs h hx (by rw [o2];exact aHG)];by_cases hk:(x.Kids.length:Int)=0
    ·rw [aGB hk];by_cases hn:0 ≤ x.N ∧ x.N<z
     ·rw [if_pos hn];exact fin _ hsh hk (fun q=>⟨hn,by omega⟩) (fun q=>by have:=q.2;omega)
     ·rw [if_neg hn,bad hsh (fun q=>hn q.2.1)]
    ·rw [vA rfl rfl hk,bad hsh (fun q=>hk q.1)]
   ·by_cases o5:x.Op=5
    ·have hsh:shp x.Op=some (2,2):=by unfold shp;rw [if_neg o1,if_neg o3,if_neg o2,if_pos o5]
     rw [rM hs h hx (by rw [o5];exact aGz)];by_cases hk:(x.Kids.length:Int)=2
     ·rw [aGV hk];by_cases hn:x.N=0
      ·rw [if_pos hn];exact fin 1 hsh hk (fun q=>⟨hn,by omega⟩) (fun q=>by have:=q.2;omega)
      ·rw [if_neg hn,bad hsh (fun q=>hn q.2.1)]
     ·rw [vA rfl rfl hk,bad hsh (fun q=>hk q.1)]
    ·by_cases o6:x.Op=6 ∨ x.Op=8
     ·have hsh:shp x.Op=some (1,3):=by unfold shp;rw [if_neg o1,if_neg o3,if_neg o2,if_neg o5,if_pos o6]
      rw [rM hs h hx (aHp o6)];by_cases hk:(x.Kids.length:Int)=1
      ·rw [aIe hk];by_cases hn:0 ≤ x.N ∧ x.N<z
       ·rw [if_pos hn];exact fin 0 hsh hk (fun q=>⟨hn,by omega⟩) (fun q=>by have:=q.2;omega)
       ·rw [if_neg hn,bad hsh (fun q=>hn q.2.1)]
      ·rw [vA rfl rfl hk,bad hsh (fun q=>hk q.1)]
     ·by_cases o4:x.Op=4
      ·have hsh:shp x.Op=some (1,4):=by unfold shp;rw [if_neg o1,if_neg o3,if_neg o2,if_neg o5,if_neg o6,if_pos o4]
       rw [rM hs h hx (by rw [o4];exact aHU)];by_cases hk:(x.Kids.length:Int)=1
       ·rw [aGF hs hk];by_cases hn:0 ≤ x.N ∧ x.N<(p.Defs.length:Int) ∧ idx s.dfs x.N=some false
        ·rw [if_pos hn];exact fin 0 hsh hk (fun q=>⟨hn,by omega⟩) (fun q=>by have:=q.2;omega)
        ·rw [if_neg hn,bad hsh (fun q=>hn q.2.1)]
       ·rw [vA rfl rfl hk,bad hsh (fun q=>hk q.1)]
      ·have hsh:shp x.Op=none:=by unfold shp;rw [if_neg o1,if_neg o3,if_neg o2,if_neg o5,if_neg o6,if_neg o4]
       rw [rM hs h hx (aHv hsh),mid_nil,v2];rfl
       rintro⟨⟨k',c',g1,_⟩,_⟩
       rw [hsh]at g1;cases g1
end
theorem zI {p:ScopeProg} {f:Nat} {s:VS} {n z:Int} (h:¬ (0 ≤ n ∧ n<(p.Nodes.length:Int) ∧ idx s.met n=some false)):vis p f s n z=none:=by
 cases f with
 | zero=>rfl
 | succ f=>simp only [vis];rw [if_neg h]
theorem aER {s:VS} {n:Int} (h:idx s.met n=some false):0<unm s:=List.countP_pos_iff.2 ⟨false,jL h,rfl⟩
theorem pvis {p:ScopeProg} (hp:SmP p) {b:Nat} (hb:3000000 ≤ b) (f:Nat):Vis p f (fC (b+f+1)):=by
 induction f with
 | zero=>
  refine⟨fun s n z hs hu h0 h1=>?_⟩
  have h:¬ (0 ≤ n ∧ n<(p.Nodes.length:Int) ∧ idx s.met n=some false):=fun q=>by have:=aER q.2.2;omega
  rw [aEq hs h,zI h];rfl
 | succ f ih=>
  refine⟨fun s n z hs hu h0 h1=>?_⟩
  by_cases h:0 ≤ n ∧ n<(p.Nodes.length:Int) ∧ idx s.met n=some false
  ·exact node_go hp (m:=b+f+1) (by omega) ih hs hu ⟨h0,by omega⟩ h
  ·rw [aEq hs h,zI h];rfl
end Go.Proofs.YtjahnkcjbglnoaaGreatDoor
