/- Parts of the proof: lemmas, and the steps through the program. -/
import Derived.Test.YtgidgoahhepmlaaGreatFb1
import Derived.Test.YtgidgoahhepmlaaGreatProg
import Derived.Shelf.Sort.Plain
import Derived.Shelf.Slices.CompactI
import Derived.Shelf.Slices.In.SortNone
set_option linter.unusedVariables false
set_option linter.unusedSimpArgs false
set_option maxRecDepth 100000
set_option maxHeartbeats 2000000
namespace Go.Proofs.YtgidgoahhepmlaaGreat
open Go.SX Go.SW Go.Dt
attribute [local irreducible] Code.wpIn wpListIn Exit.then Exit.inBlock
def qG {σ:Type} (rec_scope_looker_below_1_1:Int->(Int->σ->Option σ)->σ->Ad->Option (σ × Bool)) (Y:Int->σ->Option σ) (w1:Ad) (y3:AO):Nat->Int->σ->Option ((σ) ⊕ ((σ) ⊕ (σ × Bool)))
| 0,_,_=>none
| k+1,x5,x6=>
 if x5<(y3.AP.length:Int)then
  (idx y3.AP x5).bind fun y4=>
  (rec_scope_looker_below_1_1 y4.AV Y x6 w1).bind fun y5=>
  bif y5.2 then
   (chk (x5+1)).bind fun z1=>
   qG rec_scope_looker_below_1_1 Y w1 y3 k z1 y5.1
  else
   ((some (y5.1,false)).bind fun r=>some (Sum.inr r)).bind fun r=>some (Sum.inr r)
 else
  some (Sum.inl x6)
def pN {σ:Type} (rec_scope_looker_below_1_1:Int->(Int->σ->Option σ)->σ->Ad->Option (σ × Bool)) (Y:Int->σ->Option σ) (w1:Ad) (y6:AO):Nat->Int->σ->Option ((σ) ⊕ (σ × Bool))
| 0,_,_=>none
| k+1,x9,x10=>
 if x9<(y6.AR.length:Int)then
  (idx y6.AR x9).bind fun y7=>
  (rec_scope_looker_below_1_1 y7.AV Y x10 w1).bind fun y8=>
  bif y8.2 then
   (chk (x9+1)).bind fun z2=>
   pN rec_scope_looker_below_1_1 Y w1 y6 k z2 y8.1
  else
   (some (y8.1,false)).bind fun r=>some (Sum.inr r)
 else
  some (Sum.inl x10)
def pY {σ:Type} (rec_scope_looker_below_1_1:Int->(Int->σ->Option σ)->σ->Ad->Option (σ × Bool)) (Y:Int->σ->Option σ) (w1:Ad) (y2:AW):Nat->Int->σ->Option ((σ) ⊕ (σ × Bool))
| 0,_,_=>none
| k+1,x14,x15=>
 if x14<(y2.AM.length:Int)then
  (idx y2.AM x14).bind fun y9=>
  (rec_scope_looker_below_1_1 y9 Y x15 w1).bind fun y10=>
  bif y10.2 then
   (chk (x14+1)).bind fun z3=>
   pY rec_scope_looker_below_1_1 Y w1 y2 k z3 y10.1
  else
   (some (y10.1,false)).bind fun r=>some (Sum.inr r)
 else
  some (Sum.inl x15)
def iF {σ:Type}:Nat->Int->(Int->σ->Option σ)->σ->Ad->Option (σ × Bool)
| 0,_,_,_,_=>none
| AA+1,a0,Y,s0,w1=>
 (Y a0 s0).bind fun y1=>
 (idx w1.p.AD a0).bind fun y2=>
 (if y2.Op=4 then
  ((idx w1.p.AE y2.N).bind fun y3=>
  qG (iF AA) Y w1 y3 AA 0 y1).bind fun o=>match o with
  | Sum.inr r=>some r
  | Sum.inl x2=>
  (idx w1.p.AE y2.N).bind fun y6=>
  pN (iF AA) Y w1 y6 AA 0 x2
 else
  some (Sum.inl y1)).bind fun o=>match o with
 | Sum.inr r=>some r
 | Sum.inl x1=>
 (pY (iF AA) Y w1 y2 AA 0 x1).bind fun o=>match o with
 | Sum.inr r=>some r
 | Sum.inl x11=>
 some (x11,true)
theorem aK6:∀ (AA:Nat),(∀ {σ:Type} (q0:Nat) (J:σ->Tk) (q2:Nat) (a0:Int) (Y:Int->σ->Option σ) (s0:σ) (w1:Ad) (r:σ × Bool) (H:iF AA a0 Y s0 w1=some r),FnS Tryz.prog 155 [fI a0,fEq (.pointer (some ⟨q0,0,none⟩)),aG (fX bZ) w1,fEq (.pointer (some ⟨q2,0,none⟩))] [aA q0 234 [jM Tryz.prog (fun (x:Int)=>[fI x]) Y J],J s0,aA q2 234 [cB 155 [fEq (.pointer (some ⟨q0,0,none⟩)),aG (fX bZ) w1,fEq (.pointer (some ⟨q2,0,none⟩))]]] (aK r.2) (fun _=>[aA q0 234 [jM Tryz.prog (fun (x:Int)=>[fI x]) Y J],J r.1,aA q2 234 [cB 155 [fEq (.pointer (some ⟨q0,0,none⟩)),aG (fX bZ) w1,fEq (.pointer (some ⟨q2,0,none⟩))]]])):=by
 intro AA
 induction AA with
 | zero=>exact fun q0 J q2 a0 Y s0 w1 r H=>(by rw [iF]at H;cases H)
 | succ AA ih=>
 have ih_scope_looker_below_1_1:=@ih
 refine ?_
 intro σ q0 J q2 a0 Y s0 w1 r H
 rw [iF]at H
 refine bG Tryz.func155 rfl Tryz.ntmps155 rfl (fun β=>?_)
 refine Z3 ?_
 refine aI ?_
 refine Z3 ?_
 refine cK ?_
 revert H;refine bs fun y1 h1 H=>?_
 refine T_callY a0 a2g rfl rfl rfl (has rfl) (aN.cons (has rfl) aN.nil) h1 ?_
 revert H;refine B12 fun y2 h2 H=>?_
 refine Z2 ?_
 refine Tn (bN rfl rP rfl) fun b1=>?_
 refine cG (φs':=[fI y2.Op,fI y2.N,fSl aO y2.AU,fSl tI y2.AM]) a2g rfl rfl (has rfl) (has rfl) (aF (aH a2g) (aF (aH a2g) (aF (aS) (aF (aS) bF)))) (sz rfl) rfl rfl rfl ?_
 revert H;refine B1 fun o1 H Hr1=>?_
 refine aR (ι:=σ) (fun i=>o1=Sum.inl i) (fun i=>[(1,fEq (ptr q0)),(3,fEq (ptr q2)),(6,fEq (ptr b1))]) (fun i=>[aA b1 65 [fI y2.Op,fI y2.N,fSl aO y2.AU,fSl tI y2.AM],aA q0 234 [jM Tryz.prog (fun (x:Int)=>[fI x]) Y J],aA q2 234 [cB 155 [fEq (ptr q0),aG (fX bZ) w1,fEq (ptr q2)]],J i]) ?_ ?_
 revert H;refine I5 (fun c1 H=>?_) fun c1 H=>?_
 revert H;refine B1 fun o2 H Hr2=>?_
 refine aR (ι:=σ) (fun i=>o2=Sum.inl i) (fun i=>[(1,fEq (ptr q0)),(2,aG (fX bZ) w1),(3,fEq (ptr q2)),(6,fEq (ptr b1))]) (fun i=>[aA b1 65 [fI y2.Op,fI y2.N,fSl aO y2.AU,fSl tI y2.AM],aA q0 234 [jM Tryz.prog (fun (x:Int)=>[fI x]) Y J],aA q2 234 [cB 155 [fEq (ptr q0),aG (fX bZ) w1,fEq (ptr q2)]],J i]) ?_ ?_
 refine aI ?_
 revert H;refine bs fun y3 h3 H=>?_
 apply bL (ods:=[_,_,_,_,_,_,_,_,_,_,_,_]) 12 0 4 bK rfl rfl rfl
 refine ND ?_
 refine M8 ?_
 intros
 refine M4 ?_
 intros
 refine Z3 ?_
 refine aE [0,2,3,1] (by decide) ?_
 refine Tl (ι:=Nat × Int × σ) (fun i=>qG (iF AA) Y w1 y3 i.1 i.2.1 i.2.2=_) (fun i=>i.1) (fun i=>[(1,fEq (ptr q0)),(2,aG (fX bZ) w1),(3,fEq (ptr q2)),(6,fEq (ptr b1)),(37,fSl aY y3.AP),(38,fI (y3.AP.length:Int)),(39,fI i.2.1)]) (fun i=>[aA b1 65 [fI y2.Op,fI y2.N,fSl aO y2.AU,fSl tI y2.AM],aA q0 234 [jM Tryz.prog (fun (x:Int)=>[fI x]) Y J],aA q2 234 [cB 155 [fEq (ptr q0),aG (fX bZ) w1,fEq (ptr q2)]],J i.2.2]) (AA,0,y1) H ?_
 clear H;rintro⟨k1,x5,x6⟩ H
 replace H:qG (iF AA) Y w1 y3 k1 x5 x6=_:=H
 try dsimp only
 obtain _ | k1:=k1
 rw [qG]at H;cases H
 rw [qG]at H
 refine Z3 ?_
 refine aI ?_
 revert H;refine is (fun c2 H=>?_) fun c2 H=>?_
 refine Z3 ?_
 refine aI ?_
 revert H;refine B2 fun y4 h4 H=>?_
 refine Z2 ?_
 refine Tn (bN rfl rU rfl) fun b2=>?_
 refine cG (φs':=[fI y4.At,fSl tI y4.AY,fI y4.AV]) a2g rfl rfl (has rfl) (has rfl) (aF (aH a2g) (aF (aS) (aF (aH a2g) bF))) (sz rfl) rfl rfl rfl ?_
 refine Z5 ?_
 refine cY ?_
 refine aZ ?_
 refine aZ ?_
 revert H;refine bs fun y5 h5 H=>?_
 refine iB a2g rfl rfl rfl (has rfl) (aN.cons (has rfl) aN.nil) rfl (cb rfl) (ih_scope_looker_below_1_1 q0 J q2 y4.AV Y x6 w1 y5 h5) rfl ?_
 refine Z2 ?_
 revert H;refine cs (fun c3 H=>?_) fun c3 H=>?_
 revert H;refine B5 fun z1 h6 H=>?_
 refine Z3 ?_
 refine aE [4,0,2,1] (by decide) ?_
 exact Tm ((k1,z1,y5.1)) ⟨H,ls⟩
 revert H;refine B10 fun r1 H e1=>?_
 cases e1;cases Hr2
 revert H;refine B1 fun r2 H e2=>?_
 cases e2;cases Hr1
 cases H
 refine aE [0,1,2] (by decide) ?_
 exact To
 refine Z6 ?_
 exact Tm (x6) (ij H)
 exact fk
 kernel_rfl
 clear H;intro x2 hi;subst o2;have H:=Hr2;clear Hr2;try dsimp only at H
 try dsimp only
 refine aI ?_
 revert H;refine bs fun y6 h7 H=>?_
 apply bL (ods:=[_,_,_,_,_,_,_,_,_,_,_,_]) 12 0 4 bK rfl rfl rfl
 refine ND ?_
 refine M8 ?_
 intros
 refine M4 ?_
 intros
 refine Z3 ?_
 refine Tl (ι:=Nat × Int × σ) (fun i=>pN (iF AA) Y w1 y6 i.1 i.2.1 i.2.2=_) (fun i=>i.1) (fun i=>[(1,fEq (ptr q0)),(3,fEq (ptr q2)),(6,fEq (ptr b1)),(58,fSl bD y6.AR),(59,fI (y6.AR.length:Int)),(60,fI i.2.1)]) (fun i=>[aA b1 65 [fI y2.Op,fI y2.N,fSl aO y2.AU,fSl tI y2.AM],aA q0 234 [jM Tryz.prog (fun (x:Int)=>[fI x]) Y J],aA q2 234 [cB 155 [fEq (ptr q0),aG (fX bZ) w1,fEq (ptr q2)]],J i.2.2]) (AA,0,x2) H ?_
 clear H;rintro⟨k2,x9,x10⟩ H
 replace H:pN (iF AA) Y w1 y6 k2 x9 x10=_:=H
 try dsimp only
 obtain _ | k2:=k2
 rw [pN]at H;cases H
 rw [pN]at H
 refine Z3 ?_
 refine aI ?_
 revert H;refine is (fun c4 H=>?_) fun c4 H=>?_
 refine Z3 ?_
 refine aI ?_
 revert H;refine B2 fun y7 h8 H=>?_
 refine Z2 ?_
 refine Tn (bN rfl xB rfl) fun b3=>?_
 refine cG (φs':=[fI y7.In,fI y7.AV]) a2g rfl rfl (has rfl) (has rfl) (aF (aH a2g) (aF (aH a2g) bF)) (sz rfl) rfl rfl rfl ?_
 refine Z5 ?_
 refine cY ?_
 refine aZ ?_
 refine aZ ?_
 revert H;refine bs fun y8 h9 H=>?_
 refine iB a2g rfl rfl rfl (has rfl) (aN.cons (has rfl) aN.nil) rfl (cb rfl) (ih_scope_looker_below_1_1 q0 J q2 y7.AV Y x10 w1 y8 h9) rfl ?_
 refine Z2 ?_
 revert H;refine cs (fun c5 H=>?_) fun c5 H=>?_
 revert H;refine B5 fun z2 h10 H=>?_
 refine Z3 ?_
 refine aE [4,0,2,1] (by decide) ?_
 exact Tm ((k2,z2,y8.1)) ⟨H,ls⟩
 revert H;refine B10 fun r3 H e3=>?_
 cases e3;cases Hr1
 cases H
 refine aE [0,1,2] (by decide) ?_
 exact To
 refine Z6 ?_
 exact Tm (x10) (ij H)
 exact fk
 kernel_rfl
 refine Z3 ?_
 refine aE [0,2,3,1] (by decide) ?_
 exact Tm (y1) (ij H)
 clear H;intro x1 hi;subst o1;have H:=Hr1;clear Hr1;try dsimp only at H
 try dsimp only
 revert H;refine bs fun o3 H Hr3=>?_
 refine aR (ι:=σ) (fun i=>o3=Sum.inl i) (fun i=>[(1,fEq (ptr q0)),(3,fEq (ptr q2))]) (fun i=>[aA b1 65 [fI y2.Op,fI y2.N,fSl aO y2.AU,fSl tI y2.AM],aA q0 234 [jM Tryz.prog (fun (x:Int)=>[fI x]) Y J],aA q2 234 [cB 155 [fEq (ptr q0),aG (fX bZ) w1,fEq (ptr q2)]],J i]) ?_ ?_
 refine Z7 ?_
 refine Tl (ι:=Nat × Int × σ) (fun i=>pY (iF AA) Y w1 y2 i.1 i.2.1 i.2.2=_) (fun i=>i.1) (fun i=>[(1,fEq (ptr q0)),(3,fEq (ptr q2)),(71,fSl tI y2.AM),(72,fI (y2.AM.length:Int)),(73,fI i.2.1)]) (fun i=>[aA b1 65 [fI y2.Op,fI y2.N,fSl aO y2.AU,fSl tI y2.AM],aA q0 234 [jM Tryz.prog (fun (x:Int)=>[fI x]) Y J],aA q2 234 [cB 155 [fEq (ptr q0),aG (fX bZ) w1,fEq (ptr q2)]],J i.2.2]) (AA,0,x1) H ?_
 clear H;rintro⟨k3,x14,x15⟩ H
 replace H:pY (iF AA) Y w1 y2 k3 x14 x15=_:=H
 try dsimp only
 obtain _ | k3:=k3
 rw [pY]at H;cases H
 rw [pY]at H
 refine Z3 ?_
 refine aI ?_
 revert H;refine is (fun c6 H=>?_) fun c6 H=>?_
 refine Z3 ?_
 refine aI ?_
 revert H;refine B2 fun y9 h11 H=>?_
 refine Z7 ?_
 refine dK ?_
 refine cY ?_
 refine cY ?_
 revert H;refine bs fun y10 h12 H=>?_
 refine iB a2g rfl rfl rfl (has rfl) (aN.cons (has rfl) aN.nil) rfl (cb rfl) (ih_scope_looker_below_1_1 q0 J q2 y9 Y x15 w1 y10 h12) rfl ?_
 refine Z2 ?_
 revert H;refine cs (fun c7 H=>?_) fun c7 H=>?_
 revert H;refine B5 fun z3 h13 H=>?_
 refine Z3 ?_
 refine aE [3,0,2,1] (by decide) ?_
 exact Tm ((k3,z3,y10.1)) ⟨H,ls⟩
 revert H;refine B10 fun r4 H e4=>?_
 cases e4;cases Hr3
 cases H
 refine aE [0,1,2] (by decide) ?_
 exact To
 refine Z6 ?_
 exact Tm (x15) (ij H)
 clear H;intro x11 hi;subst o3;have H:=Hr3;clear Hr3;try dsimp only at H
 try dsimp only
 refine Z4 ?_
 cases H
 refine aE [1,3,2] (by decide) ?_
 exact To
def aBu {σ:Type} (AA:Nat) (Y:Int->σ->Option σ) (s0:σ) (w0:Ad) (w1:Int):Option (σ):=
 (iF AA w1 Y s0 w0).bind fun y1=>
 some y1.1
theorem aI3 (AA:Nat) {σ:Type} (J:σ->Tk) (Y:Int->σ->Option σ) (s0:σ) (w0:Ad) (w1:Int) (r:σ) (H:aBu AA Y s0 w0 w1=some r):FnS Tryz.prog 154 [jM Tryz.prog (fun (x:Int)=>[fI x]) Y J,aG (fX bZ) w0,aG tI w1] [J s0] (dF []) (fun _=>[J r]):=by
 unfold aBu at H
 refine bG Tryz.func154 rfl Tryz.ntmps154 rfl (fun β=>?_)
 refine Z1 ?_
 refine Tn (bU rfl (has rfl) (cJ (aIJ))) fun b1=>?_
 refine Z2 ?_
 refine Tn (bN rfl aKD rfl) fun b2=>?_
 refine Z2 ?_
 refine Yy (oB rfl (aN.cons hh (aN.cons hh (aN.cons hh aN.nil)))) ?_
 refine cC (φs':=[cB 155 [fEq (ptr b1),aG (fX bZ) w0,fEq (ptr b2)]]) a2g rfl rfl (has rfl) (has rfl) (aDD) (sz rfl) rfl rfl ?_
 refine Z4 ?_
 refine dK ?_
 refine dK ?_
 revert H;refine bs fun y1 h1 H=>?_
 refine iB a2g rfl rfl rfl (has rfl) (aN.cons (has rfl) aN.nil) rfl (cb rfl) (aK6 AA b1 J b2 w1 Y s0 w0 y1 h1) rfl ?_
 refine Z1 ?_
 cases H
 refine aE [1] (by decide) ?_
 exact eP (.inr rfl) rfl rfl
def aBG (a0:Ad) (a1:Int):Option (Ad × Int):=
 some (a0,a1)
theorem aIK  (a0:Ad) (a1:Int) (r:Ad × Int) (H:aBG a0 a1=some r):FnS Tryz.prog 122 [aG bZ a0,fI a1] [] (cB 154 [aG (fX bZ) r.1,aG tI r.2]) (fun _=>[]):=by
 unfold aBG at H
 refine bG Tryz.func122 rfl Tryz.ntmps122 rfl (fun β=>?_)
 refine Z1 ?_
 refine Tn (bU rfl (has rfl) (cJ (aC3))) fun b1=>?_
 refine Tn (bU rfl (has rfl) (cJ (aH a2g))) fun b2=>?_
 refine Z3 ?_
 refine cK ?_
 refine cE (φ:=aG (fX bZ) a0) (v:=ptr b1) [2] (fQ aP.rfl) fz ?_
 refine cD ?_
 refine cE (φ:=aG tI a1) (v:=ptr b2) [3] (fQ aP.rfl) fz ?_
 refine cD ?_
 refine Yy (oB rfl (aN.cons hh (aN.cons hh aN.nil))) ?_
 refine Z3 ?_
 cases H
 exact To
def lV (rec_scope_asks:(aL Int Bool)->AS->Option (aL Int Bool)) (a1:AS):Nat->Int->(aL Int Bool)->Option (aL Int Bool)
| 0,_,_=>none
| k+1,x4,x5=>
 if x4<(a1.AM.length:Int)then
  (idx a1.AM x4).bind fun y1=>
  (rec_scope_asks x5 (⟨y1.Op,y1.N,y1.AM⟩:AS)).bind fun y2=>
  (chk (x4+1)).bind fun z1=>
  lV rec_scope_asks a1 k z1 y2
 else
  some x5
def kU:Nat->(aL Int Bool)->AS->Option (aL Int Bool)
| 0,_,_=>none
| AA+1,a0,a1=>
 (if a1.Op=2 then
  some (aL.upd a0 a1.N true)
 else
  some a0).bind fun x1=>
 lV (kU AA) a1 AA 0 x1
theorem aLu:∀ (AA:Nat),(∀ (p0:Nat) (a0:aL Int Bool) (a1:AS) (r:aL Int Bool) (H:kU AA a0 a1=some r),FnS Tryz.prog 124 [fEq (.map (some p0)),fSt aO a1] [dU bX (fun y=>aK y) p0 a0] (dF []) (fun _=>[dU bX (fun y=>aK y) p0 r])):=by
 intro AA
 induction AA with
 | zero=>exact fun p0 a0 a1 r H=>(by rw [kU]at H;cases H)
 | succ AA ih=>
 have ih_scope_asks:=@ih
 refine ?_
 intro p0 a0 a1 r H
 rw [kU]at H
 refine bG Tryz.func124 rfl Tryz.ntmps124 rfl (fun β=>?_)
 refine Z1 ?_
 refine Tn (bU rfl hh bS) fun b1=>?_
 revert H;refine B1 fun o1 H Hr1=>?_
 refine aR (ι:=aL Int Bool) (fun i=>o1=i) (fun i=>[(0,fEq (.map (some p0))),(3,fEq (ptr b1))]) (fun i=>[aA b1 71 [fI a1.Op,fI a1.N,cU a1.AM],dU bX (fun y=>aK y) p0 i]) ?_ ?_
 revert H;refine I5 (fun c1 H=>?_) fun c1 H=>?_
 refine Z5 ?_
 refine cK ?_
 refine gW (k:=a1.N) (y:=true) a2g (.inl rfl) rfl (has rfl) (has rfl) rfl (has rfl) rfl wM ?_
 refine Z1 ?_
 refine aE [1,0] (by decide) ?_
 exact Tm (aL.upd a0 a1.N true) (ij H)
 refine Z3 ?_
 exact Tm (a0) (ij H)
 clear H;intro x1 hi;subst o1;have H:=Hr1;clear Hr1;try dsimp only at H
 try dsimp only
 refine Z2 ?_
 refine Yo 0 rfl (bB rfl hh (sc rfl) rfl (eS eG)) ?_
 refine Z4 ?_
 refine Tl (ι:=Nat × Int × aL Int Bool) (fun i=>lV (kU AA) a1 i.1 i.2.1 i.2.2=_) (fun i=>i.1) (fun i=>[(0,fEq (.map (some p0))),(13,fSl aO a1.AM),(14,fI (a1.AM.length:Int)),(15,fI i.2.1)]) (fun i=>[aA b1 71 [fI a1.Op,fI a1.N,cU a1.AM],dU bX (fun y=>aK y) p0 i.2.2]) (AA,0,x1) H ?_
 clear H;rintro⟨k1,x4,x5⟩ H
 replace H:lV (kU AA) a1 k1 x4 x5=_:=H
 try dsimp only
 obtain _ | k1:=k1
 rw [lV]at H;cases H
 rw [lV]at H
 refine Z3 ?_
 refine aI ?_
 revert H;refine is (fun c2 H=>?_) fun c2 H=>?_
 refine Z3 ?_
 refine aI ?_
 revert H;refine B2 fun y1 h1 H=>?_
 refine Z2 ?_
 refine Tn (bN rfl iP rfl) fun b2=>?_
 refine cG (φs':=[fI y1.Op,fI y1.N,cU y1.AM]) a2g rfl rfl (has rfl) (has rfl) (aF (aH a2g) (aF (aH a2g) (aF (lE) bF))) (sz rfl) rfl rfl rfl ?_
 refine Z4 ?_
 refine dK ?_
 revert H;refine bs fun y2 h2 H=>?_
 refine Tc (ih_scope_asks _ _ _ _ h2) ?_
 revert H;refine B4 fun z1 h3 H=>?_
 refine Z3 ?_
 refine aE [2,0] (by decide) ?_
 exact Tm ((k1,z1,y2)) ⟨H,ls⟩
 refine Z5 ?_
 cases H
 refine aE [1] (by decide) ?_
 exact eP (.inr rfl) rfl rfl
def mP (AA:Nat) (y3:AW):Nat->Int->(aL Int Bool)->Option (aL Int Bool)
| 0,_,_=>none
| k+1,x10,x11=>
 if x10<(y3.AU.length:Int)then
  (idx y3.AU x10).bind fun y7=>
  (kU AA x11 (⟨y7.Op,y7.N,y7.AM⟩:AS)).bind fun y8=>
  (chk (x10+1)).bind fun z1=>
  mP AA y3 k z1 y8
 else
  some x11
def rY (AA:Nat) (a0:Ad) (x1:Int) (x3:aL Int Bool):Option (aL Int Bool):=
 (idx a0.p.AD x1).bind fun y3=>
 ((iR y3.Op).bind fun y4=>
 (eA 207 (.agg #[]) y4).bind fun y5=>
 match y5 with
 | (u1,x6)=>
 (eA 208 (.agg #[]) y4).bind fun y6=>
 match y6 with
 | (u2,x7)=>
 bif x6 then
  some (aL.upd x3 y3.N true)
 else
  bif x7 then
   some (aL.upd x3 y3.N true)
  else
   some x3).bind fun x5=>
 mP AA y3 AA 0 x5
def oS (y2:aL Int Bool) (y9:Int):Nat->(List Int)->Int->Option (List Int)
| 0,_,_=>none
| k+1,x15,x16=>
 if x16<y9 then
  (bif ((y2.get x16).getD false)then
   (dG (x15++[x16])).bind fun z2=>
   some z2
  else
   some x15).bind fun x17=>
  (chk (x16+1)).bind fun z3=>
  oS y2 y9 k x17 z3
 else
  some x15
def uY (AA:Nat) (a0:Ad) (a1:Int):Option (List Int):=
 (aBG a0 a1).bind fun y1=>
 (aBu AA (fun (x:Int) (t:aL Int Bool)=>rY AA a0 x t) (aL.none:aL Int Bool) y1.1 y1.2).bind fun y2=>
 ((idx a0.Af a1).bind fun y9=>
 oS y2 y9 AA [] 0).bind fun x12=>
 some x12
theorem aJP (AA:Nat)  (a0:Ad) (a1:Int) (r:List Int) (H:uY AA a0 a1=some r):FnS Tryz.prog 87 [aG bZ a0,fI a1] [] (fSl tI r) (fun _=>[]):=by
 unfold uY at H
 refine aBW Tryz.func87 rfl Tryz.ntmps87 rfl (fun β=>?_)
 refine Z1 ?_
 refine Tn (bU rfl (has rfl) (cJ (aC3))) fun b1=>?_
 refine Z3 ?_
 refine Tn (aBz (fun y=>aK y) bX rfl) fun b2=>?_
 refine Tn (bN rfl aJo rfl) fun b3=>?_
 refine cC (φs':=[fEq (.map (some b2))]) a2g rfl rfl (has rfl) (has rfl) (aH a2g) (sz rfl) rfl rfl ?_
 refine Z1 ?_
 refine aI ?_
 revert H;refine B3 fun y1 h1 H=>?_
 refine Tc (aIK _ _ _ h1) ?_
 refine Z2 ?_
 refine aE [0,2,1] (by decide) ?_
 refine T_sub [(0,aG bZ a0),(1,fI a1),(2,fEq (ptr b1)),(4,fEq (.slice none 0 0)),(12,fEq (.map (some b2))),(5,fEq (ptr b3)),(13,aG bZ a0),(14,fI a1),(15,cB 154 [aG (fX bZ) y1.1,aG tI y1.2])] (Sc (Sc (Sc (Sc (Sc (Sc (Sc (Sc (Sc eM.nil))))))))) ?_
 revert H;refine bs fun y2 h2 H=>?_
 refine aIp (s:=(aL.none:aL Int Bool)) (s':=y2) (fun (x:Int)=>[fI x]) (fun (x:Int) (t:aL Int Bool)=>rY AA a0 x t) (fun (t:aL Int Bool)=>[aA b3 201 [fEq (.map (some b2))],aA b1 129 [aG bZ a0],dU bX (fun y=>aK y) b2 t]) (has rfl) (cb rfl) rfl (fun _=>rfl) rfl (fun J=>aI3 AA J (fun (x:Int) (t:aL Int Bool)=>rY AA a0 x t) (aL.none:aL Int Bool) y1.1 y1.2 y2 h2) (fun β l rec x1 t t' hs hp hY=>?_) (fun rb=>?_)
 generalize t=x3 at *
 have H:rY AA a0 x1 x3=some t':=hY;clear hY;unfold rY at H;try dsimp only at H
 show T β _ _ (aBL [16] ((fun (x:Int)=>[fI x]) x1) [(0,aG bZ a0),(1,fI a1),(2,fEq (ptr b1)),(4,fEq (.slice none 0 0)),(12,fEq (.map (some b2))),(5,fEq (ptr b3)),(13,aG bZ a0),(14,fI a1),(15,cB 154 [aG (fX bZ) y1.1,aG tI y1.2])]) (tObj l (.loop rec) :: [aA b3 201 [fEq (.map (some b2))],aA b1 129 [aG bZ a0],dU bX (fun y=>aK y) b2 x3]) _
 refine Z3 ?_
 refine T_begin hs ?_
 revert H;refine B8 fun y3 h3 H=>?_
 refine Z2 ?_
 refine Tn (bN rfl rP rfl) fun b4=>?_
 refine cG (φs':=[fI y3.Op,fI y3.N,fSl aO y3.AU,fSl tI y3.AM]) a2g rfl rfl (has rfl) (has rfl) (aF (aH a2g) (aF (aH a2g) (aF (aS) (aF (aS) bF)))) (sz rfl) rfl rfl rfl ?_
 revert H;refine B1 fun o1 H Hr1=>?_
 refine aR (ι:=aL Int Bool) (fun i=>o1=i) (fun i=>[(0,aG bZ a0),(1,fI a1),(2,fEq (ptr b1)),(4,fEq (.slice none 0 0)),(12,fEq (.map (some b2))),(5,fEq (ptr b3)),(13,aG bZ a0),(14,fI a1),(15,cB 154 [aG (fX bZ) y1.1,aG tI y1.2]),(7,fEq (ptr b4))]) (fun i=>[aA b4 65 [fI y3.Op,fI y3.N,fSl aO y3.AU,fSl tI y3.AM],aA b3 201 [fEq (.map (some b2))],aA b1 129 [aG bZ a0],dU bX (fun y=>aK y) b2 i,tObj l (busy rec)]) ?_ ?_
 revert H;refine B3 fun y4 h4 H=>?_
 refine Tc (aG7 _ _ h4) ?_
 revert H;refine B3 fun y5 h5 H=>?_
 obtain⟨u1,x6⟩:=y5;dsimp only at H
 refine Yy (tO rfl (gC rfl nR) aCC aES h5) ?_
 revert H;refine B2 fun y6 h6 H=>?_
 obtain⟨u2,x7⟩:=y6;dsimp only at H
 refine Yy (tO rfl (gC rfl nR) aDp aFf h6) ?_
 refine Z2 ?_
 revert H;refine cs (fun c1 H=>?_) fun c1 H=>?_
 refine Z7 ?_
 refine aZ ?_
 refine gW (k:=y3.N) (y:=true) a2g (.inl rfl) rfl (has rfl) (has rfl) rfl (has rfl) rfl wM ?_
 refine Z3 ?_
 refine aE [1,3,4,0,2] (by decide) ?_
 exact Tm (aL.upd x3 y3.N true) (ij H)
 refine Z2 ?_
 revert H;refine cs (fun c2 H=>?_) fun c2 H=>?_
 refine Z5 ?_
 refine aZ ?_
 refine gW (k:=y3.N) (y:=true) a2g (.inl rfl) rfl (has rfl) (has rfl) rfl (has rfl) rfl wM ?_
 refine Z3 ?_
 refine aE [1,3,4,0,2] (by decide) ?_
 exact Tm (aL.upd x3 y3.N true) (ij H)
 refine Z4 ?_
 refine aE [0,2,3,4,1] (by decide) ?_
 exact Tm (x3) (ij H)
 clear H;intro x5 hi;subst o1;have H:=Hr1;clear Hr1;try dsimp only at H
 try dsimp only
 refine Z7 ?_
 refine Tl (ι:=Nat × Int × aL Int Bool) (fun i=>mP AA y3 i.1 i.2.1 i.2.2=_) (fun i=>i.1) (fun i=>[(0,aG bZ a0),(1,fI a1),(2,fEq (ptr b1)),(4,fEq (.slice none 0 0)),(12,fEq (.map (some b2))),(5,fEq (ptr b3)),(13,aG bZ a0),(14,fI a1),(15,cB 154 [aG (fX bZ) y1.1,aG tI y1.2]),(39,fSl aO y3.AU),(40,fI (y3.AU.length:Int)),(41,fI i.2.1)]) (fun i=>[aA b4 65 [fI y3.Op,fI y3.N,fSl aO y3.AU,fSl tI y3.AM],aA b3 201 [fEq (.map (some b2))],aA b1 129 [aG bZ a0],dU bX (fun y=>aK y) b2 i.2.2,tObj l (busy rec)]) (AA,0,x5) H ?_
 clear H;rintro⟨k1,x10,x11⟩ H
 replace H:mP AA y3 k1 x10 x11=_:=H
 try dsimp only
 obtain _ | k1:=k1
 rw [mP]at H;cases H
 rw [mP]at H
 refine Z3 ?_
 refine aI ?_
 revert H;refine is (fun c3 H=>?_) fun c3 H=>?_
 refine Z3 ?_
 refine aI ?_
 revert H;refine B2 fun y7 h7 H=>?_
 refine Z2 ?_
 refine Tn (bN rfl iP rfl) fun b5=>?_
 refine cG (φs':=[fI y7.Op,fI y7.N,cU y7.AM]) a2g rfl rfl (has rfl) (has rfl) (aF (aH a2g) (aF (aH a2g) (aF (lE) bF))) (sz rfl) rfl rfl rfl ?_
 refine Z4 ?_
 refine aZ ?_
 revert H;refine bs fun y8 h8 H=>?_
 refine Tc (aLu _ _ _ _ _ h8) ?_
 revert H;refine B4 fun z1 h9 H=>?_
 refine Z3 ?_
 refine aE [2,3,4,0,5] (by decide) ?_
 exact Tm ((k1,z1,y8)) ⟨H,ls⟩
 refine Z6 ?_
 refine aE [1,2,3,4] (by decide) ?_
 cases H
 refine aE [3,0,1,2] (by decide) ?_
 exact aKN hs hp rfl
 generalize rb=rb1
 show T β _ _ [(0,aG bZ a0),(1,fI a1),(2,fEq (ptr b1)),(4,fEq (.slice none 0 0)),(12,fEq (.map (some b2))),(5,fEq (ptr b3)),(13,aG bZ a0),(14,fI a1),(15,cB 154 [aG (fX bZ) y1.1,aG tI y1.2])] ([rF rb1]++[aA b3 201 [fEq (.map (some b2))],aA b1 129 [aG bZ a0],dU bX (fun y=>aK y) b2 y2]) _
 dsimp only [List.append,_root_.List.cons_append,_root_.List.nil_append]
 revert H;refine B5 fun o2 H Hr2=>?_
 refine aR (ι:=List Int × Value) (fun i=>o2=i.1) (fun i=>[(10,fEq i.2)]) (fun i=>[aA b3 201 [fEq (.map (some b2))],aA b1 129 [aG bZ a0],dU bX (fun y=>aK y) b2 y2,aC i.2 3 tI i.1,rF rb1]) ?_ ?_
 revert H;refine B6 fun y9 h10 H=>?_
 refine Z5 ?_
 refine iW tI 3 ?_
 refine aE [2,3,4,0,1] (by decide) ?_
 refine Tl (ι:=Nat × List Int × Int × Value) (fun i=>oS y2 y9 i.1 i.2.1 i.2.2.1=_) (fun i=>i.1) (fun i=>[(5,fEq (ptr b3)),(10,fEq i.2.2.2),(55,fI y9),(56,fI i.2.2.1)]) (fun i=>[aA b3 201 [fEq (.map (some b2))],aA b1 129 [aG bZ a0],dU bX (fun y=>aK y) b2 y2,aC i.2.2.2 3 tI i.2.1,rF rb1]) (AA,[],0,(.slice none 0 0)) H ?_
 clear H;rintro⟨k2,x15,x16,v3⟩ H
 replace H:oS y2 y9 k2 x15 x16=_:=H
 try dsimp only
 obtain _ | k2:=k2
 rw [oS]at H;cases H
 rw [oS]at H
 refine aJ 3 rfl (fun hc_v3=>?_)
 refine Z3 ?_
 refine aI ?_
 revert H;refine is (fun c4 H=>?_) fun c4 H=>?_
 revert H;refine B3 fun o3 H Hr3=>?_
 refine aR (ι:=List Int × Value) (fun i=>o3=i.1) (fun i=>[(5,fEq (ptr b3)),(55,fI y9),(56,fI x16),(10,fEq i.2)]) (fun i=>[aA b3 201 [fEq (.map (some b2))],aA b1 129 [aG bZ a0],dU bX (fun y=>aK y) b2 y2,aC i.2 3 tI i.1,rF rb1]) ?_ ?_
 refine Z8 ?_
 refine Yo 2 rfl (aJp (zα:=false) (k:=x16) rfl hh hh rfl wM Ent.rfl) ?_
 refine Z1 ?_
 revert H;refine cs (fun c5 H=>?_) fun c5 H=>?_
 refine Z4 ?_
 refine Tn (gR (t:=tI) (xs:=[x16]) rfl (et rfl) (cM.cons rfl (has rfl) (cJ (aH a2g)) cM.nil) rfl rfl rfl) fun b6=>?_
 generalize (Value.slice (some ⟨b6,0,none⟩) _ _)=v5
 refine aJ 0 rfl (fun hc_v5=>?_)
 revert H;refine bs fun z2 h11 H=>?_
 refine aZ ?_
 refine cK ?_
 refine lL a2g rfl rfl rfl (has rfl) (has rfl) (et rfl) rfl h11 (fun v6=>?_)
 refine aJ 0 rfl (fun hc_v6=>?_)
 refine Z4 ?_
 refine aE [1,2,3,0,4] (by decide) ?_
 exact Tm ((z2,v6)) (ij H)
 refine Z4 ?_
 exact Tm ((x15,v3)) (ij H)
 clear H;intro i hi;obtain⟨x17,v4⟩:=i;subst o3;have H:=Hr3;clear Hr3;try dsimp only at H
 try dsimp only
 refine aJ 3 rfl (fun hc_v4=>?_)
 revert H;refine B1 fun z3 h12 H=>?_
 refine Z3 ?_
 exact Tm ((k2,x17,z3,v4)) ⟨H,ls⟩
 refine Z6 ?_
 exact Tm ((x15,v3)) (ij H)
 clear H;intro i hi;obtain⟨x12,v1⟩:=i;subst o2;have H:=Hr2;clear Hr2;try dsimp only at H
 try dsimp only
 refine aJ 3 rfl (fun hc_v1=>?_)
 refine Z5 ?_
 refine cY ?_
 refine cE (φ:=fSl tI x12) (v:=v1) [10,67,4] dI fz ?_
 refine cD ?_
 cases H
 refine aE [3] (by decide) ?_
 exact T_outM1 [rb1] rfl (bP rfl) rfl rfl
def uI (AA:Nat) (a0:Ad) (a1:Int):Option (List Int):=
 (uY AA a0 a1).bind fun y1=>
 some y1
theorem aLz (AA:Nat)  (a0:Ad) (a1:Int) (r:List Int) (H:uI AA a0 a1=some r):FnS Tryz.prog 86 [aG bZ a0,fI a1] [] (fSl tI r) (fun _=>[]):=by
 unfold uI at H
 refine bG Tryz.func86 rfl Tryz.ntmps86 rfl (fun β=>?_)
 revert H;refine B6 fun y1 h1 H=>?_
 refine Tc (aJP _ _ _ _ h1) ?_
 refine Z3 ?_
 cases H
 exact To
def wR (AA:Nat) (a0:AI):Option ((List (List Int)) × Int):=
 (aAi AA (⟨a0.AF,a0.AD,a0.AE,a0.AG⟩:AI) (fun x=>uI AA x.1 x.2)).bind fun y1=>
 some (y1.1,y1.2)
theorem aK8 (AA:Nat)  (a0:AI) (r:(List (List Int)) × Int) (H:wR AA a0=some r):FnS Tryz.prog 52 [fSt cN a0] [] (dF [fSl (tSl tI) r.1,fI r.2]) (fun _=>[]):=by
 unfold wR at H
 refine bG Tryz.func52 rfl Tryz.ntmps52 rfl (fun β=>?_)
 refine Z1 ?_
 refine Tn (bU rfl hh bS) fun b1=>?_
 revert H;refine B5 fun y1 h1 H=>?_
 refine pI a2g rfl rfl rfl hh (aN.cons hh (aN.cons (gC rfl (aCD (cb rfl) (fun (x:Ad × Int) r hx=>aLz AA x.1 x.2 r hx))) aN.nil)) rfl (cb rfl) (aLw AA (⟨a0.AF,a0.AD,a0.AE,a0.AG⟩:AI) (fun x=>uI AA x.1 x.2) y1 h1) rfl ?_
 refine Z6 ?_
 cases H
 refine aE [] (by decide) ?_
 exact pU rfl (bP rfl) (bP rfl) rfl
open Go.SX Go.SW
def sortRen:Go.Shelf.Ren:=⟨fun x=>match x with
 | 189=>54 | 125=>89 | 257=>88 | 128=>134 | 129=>135
 | 294=>125 | 295=>126 | 296=>127 | 297=>128 | 298=>129
 | 299=>130 | 216=>131 | 300=>132 | 301=>133 | 328=>156
 | 329=>157 | 330=>158 | 331=>159 | 332=>160 | 215=>161 | 343=>173
 | n=>n,fun x=>match x with
 | 28=>27 | 3=>3 | 46=>166 | 0=>0 | 51=>220 | 53=>222 | 4=>4 | 183=>212 | 182=>211 | 131=>217 | 5=>5 | 9=>9
 | 218=>238 | 222=>242 | 228=>270 | 229=>271
 | n=>n,fun x=>x⟩
theorem aGx:Go.Proofs.Lays.n189 Tryz.prog sortRen:=by constructor <;> first | kernel_rfl | (intro w;kernel_rfl)
def compRen:Go.Shelf.Ren:=⟨fun x=>match x with | 20=>55 | n=>n,fun x=>match x with | 0=>0 | 3=>3 | 4=>4 | 22=>27 | n=>n,fun x=>x⟩
theorem aGM:Go.Proofs.Lays2.n20 Tryz.prog compRen:=by constructor <;> first | kernel_rfl | (intro w;kernel_rfl)
theorem heap_row {w:World} {b n:Nat} {c:Array Value} {e:TypeId} {f:Array Value->Array Value} {os:Array Obj} (h:w.heap[b]? =some (.cells c e (0,0))):
 (Go.Sort.grow (Go.Sort.mapBlock (Go.Sort.ahead w n) b f) os).heap[b]? =some (.cells (f c) e (0,0))/\∀ k,k≠b->k<w.heap.size->(Go.Sort.grow (Go.Sort.mapBlock (Go.Sort.ahead w n) b f) os).heap[k]? =w.heap[k]?:=by
 have hb:b<w.heap.size:=(a0d.1 h).1
 constructor
 ·simp only [Go.Sort.grow,Go.Sort.mapBlock,Go.Sort.ahead];rw [a0c (by simpa using hb),a0e,a2f rfl,h];rfl
 ·intro k hk hk2;simp only [Go.Sort.grow,Go.Sort.mapBlock,Go.Sort.ahead];rw [a0c (by simpa using hk2),a0e,a2e (fun e=>hk e.symm)]
theorem st_row {w:World} {m:Mem} {b n:Nat} {c:Array Value} {e:TypeId} {f:Array Value->Array Value} {os:Array Obj} (hS:St ⟨w,m,[b]⟩ m [(b, .cells c e (0,0))] w):
 St ⟨w,m,[b]⟩ m [(b, .cells (f c) e (0,0))] (Go.Sort.grow (Go.Sort.mapBlock (Go.Sort.ahead w n) b f) os):=by
 obtain⟨h1,h2⟩:=heap_row (n:=n) (f:=f) (os:=os) (hS.own _ (.head _))
 have hm:m b=none:=hS.apart _ (.head _)
 refine⟨fun k o hk=>?_,fun x hx=>?_,fun x hx=>?_,by simp,hS.mle,fun k hk=>absurd rfl hk,fun x hx _=>?_,?_,fun k hk hf=>h2 k (fun e=>hf (by simp [e])) hk,rfl,rfl,rfl⟩
 ·have h3:=hS.mem k o hk;rw [h2 k (fun e=>by subst e;rw [hm]at hk;cases hk) (a0d.1 h3).1];exact h3
 ·cases hx with
  | head=>exact h1
  | tail _ h=>cases h
 ·cases hx with
  | head=>exact hm
  | tail _ h=>cases h
 ·cases hx with
  | head=>exact .head _
  | tail _ h=>cases h
 ·simp [Go.Sort.grow,Go.Sort.mapBlock,Go.Sort.ahead]
theorem aGo {m:Mem}:∀ {xs:List Int} {cs:List Value},aU (xs.flatMap (cH .i64).An) m cs->cs=xs.map (.int .i64)
 | [],_,h=>by
  have h:_=[]:=h;rw [h];rfl
 | x :: xs,_,h=>by
  obtain⟨v,r,rfl,h1,h2⟩:=h;have h1:v= .int .i64 x:=h1;rw [h1,aGo h2];rfl
theorem aGI {m:Mem}:∀ {xs:List Int},aU (xs.flatMap (cH .i64).An) m (xs.map (.int .i64))
 | []=>rfl
 | x :: xs=>⟨_,_,rfl,rfl,aGI⟩
theorem aFl {m:Mem} {L:Ag} {v:Value} {xs:List Int} (h:bT [aC v 3 (cH .i64) xs] m L):xs.length<=1000000000/\((v= .slice none 0 0/\xs=[]/\L=[]) \/
 ∃ b c cap,v= .slice (some ⟨b,0,none⟩) xs.length cap/\L=[(b, .cells c 3 (0,0))]/\c.size=cap/\xs.length<=cap/\c.toList.take xs.length=xs.map (.int .i64)):=by
 obtain⟨H,R,rfl,⟨cs,h1,h2,h3⟩,hR⟩:=h
 have hR:R=[]:=hR
 subst hR
 have e:=aGo h3
 subst e
 refine⟨h2,?_⟩
 rcases h1.2 with⟨rfl,h4,rfl⟩ | ⟨b,c,cap,rfl,rfl,h4,h5,h6⟩
 ·exact .inl ⟨rfl,a0z h4,rfl⟩
 ·exact .inr ⟨b,c,cap,rfl,rfl,by rw [h4];exact Nat.mul_one _,h5,by simpa using h6⟩
theorem row_of {m:Mem} {b cap:Nat} {c:Array Value} {xs:List Int} (h1:c.size=cap) (h2:xs.length<=cap) (h3:c.toList.take xs.length=xs.map (.int .i64)) (h4:xs.length<=1000000000):
 (aC (.slice (some ⟨b,0,none⟩) xs.length cap) 3 (cH .i64) xs).p m [(b, .cells c 3 (0,0))]:=
 ⟨xs.map (.int .i64),⟨by simp [show(cH .i64).sz=1 from rfl], .inr ⟨b,c,cap,rfl,rfl,by rw [h1];exact(Nat.mul_one _).symm,h2,by simpa using h3⟩⟩,h4,aGI⟩
theorem aEm {w:World} {b:Nat} {c:Array Value} {e:TypeId} {xs:List Int} (h:w.heap[b]? =some (.cells c e (0,0))) (hx:c.toList.take xs.length=xs.map (.int .i64)):Go.Sort.Holds (Value.int .i64) w b 0 xs.toArray:=by
 intro j hj
 have hj:j<xs.length:=by simpa using hj
 refine⟨?_,by simp [World.frozen?,h]⟩
 have h1:c.toList[j]? =some (.int .i64 xs[j]):=by
  have h2:(c.toList.take xs.length)[j]? =some (.int .i64 xs[j]):=by rw [hx];simp [hj]
  rwa [a0P,a2f hj]at h2
 simp only [World.cell?,h,a1Q,Option.isSome_none,Bool.false_eq_true,if_false]
 rw [<- a0g,h1]
 congr 2
 simp [hj]
theorem aGp {c:Array Value} {ys:List Int} {k:Nat} (hk:k<=ys.length) (hc:ys.length<=c.size):(Go.Sort.putCells (Value.int .i64) 0 ys.toArray c).toList.take k=(ys.take k).map (.int .i64):=by
 apply a0A
 intro j
 rw [a0P]
 split
 ·rename_i hj;simp only [Go.Sort.putCells,a0g,Array.getElem?_mapIdx];have h1:j<c.size:=by omega
  have h2:j<ys.length:=by omega
  simp [h1,h2,hj]
 ·rename_i hj;rw [a0J];simp;omega
theorem aFb {c:Array Value} {ys:Array Int}:(Go.Sort.putCells (Value.int .i64) 0 ys c).size=c.size:=by simp [Go.Sort.putCells]
def fN (xs:List Int):List Int:=xs.mergeSort fun x y=>decide (x<=y)
def aC0 (a0:List Int):Option (List Int):=some (fN a0)
theorem aJw (p0:Value) (a0 r:List Int) (H:aC0 a0=some r):FnS Tryz.prog 54 [fEq p0] [aC p0 3 (cH .i64) a0] (dF []) (fun _=>[aC p0 3 (cH .i64) r]):=by
 have H:fN a0=r:=a1V H
 subst H
 intro m L vs hv hL w hS
 obtain⟨v,_,rfl,hv1,hv2⟩:=hv
 have hv1:v=p0:=hv1
 have hv2:_=[]:=hv2
 subst hv1;subst hv2
 obtain⟨hB,⟨rfl,rfl,rfl⟩ | ⟨b,c,cap,rfl,rfl,h1,h2,h3⟩⟩:=aFl hL
 ·refine(Any.slices_Sort_int_none aGx none 0 w).mono ?_;rintro e w' ⟨rfl,rfl⟩
  have e0:fN []=[]:=by simp [fN]
  exact⟨m,[],hS,_,rfl,⟨[],rfl,rfl⟩,by rw [e0];exact hL⟩
 ·have hw:=hS.own _ (.head _);have hl:(fN a0).length=a0.length:=by simp [fN]
  refine(Any.slices_Sort_int aGx b 0 cap a0 w (aEm hw h3) (a0d.1 hw).1 (by omega)).mono ?_
  rintro e w' ⟨rfl,n,os,rfl⟩
  refine⟨m,_,st_row hS,_,rfl,⟨[],rfl,rfl⟩,_,[],(a0v _).symm,?_,rfl⟩;rw [<- hl];exact row_of (by rw [aFb,h1]) (by omega) (by
   have:=aGp (c:=c) (ys:=fN a0) (k:=(fN a0).length) (a1I _) (by omega)
   rw [a1y]at this;exact this) (by omega)
def aDz (a0:List Int):Option (List Int):=some (Go.Lib.compact a0)
theorem aKP (xs:List Int):(Go.Lib.compact xs).length<=xs.length:=by
 unfold Go.Lib.compact Go.Lib.compactUpTo
 rw [a0X]
 exact a1J (a0W _ _) (by simp)
theorem aIA (p0:Value) (a0 r:List Int) (H:aDz a0=some r):FnS Tryz.prog 55 [fEq p0] [aC p0 3 (cH .i64) a0] (fSl (cH .i64) r) (fun _=>[]):=by
 have H:Go.Lib.compact a0=r:=a1V H
 subst H
 intro m L vs hv hL w hS
 obtain⟨v,_,rfl,hv1,hv2⟩:=hv
 have hv1:v=p0:=hv1
 have hv2:_=[]:=hv2
 subst hv1;subst hv2
 obtain⟨hB,⟨rfl,rfl,rfl⟩ | ⟨b,c,cap,rfl,rfl,h1,h2,h3⟩⟩:=aFl hL
 ·refine(Any.slices_Compact_int_empty aGM none 0 w).mono ?_;rintro e w' ⟨rfl,rfl⟩
  exact⟨m,[],hS,_,rfl,cW m _ rfl,rfl⟩
 ·have hw:=hS.own _ (.head _);have hl:=aKP a0;refine(Any.slices_Compact_int aGM b 0 cap a0 w (aEm hw h3) (by omega) h2).mono ?_
  rintro e w' ⟨rfl,n,rfl⟩
  rw [<- Go.Sort.grow_empty (Go.Sort.putRow _ _ _ _ _)];have hS':=st_row (n:=n) (f:=Go.Sort.putCells (Value.int .i64) 0 (Go.Lib.compact a0++List.replicate (a0.length - (Go.Lib.compact a0).length) 0).toArray) (os:=#[]) hS;have hr:(aC (.slice (some ⟨b,0,none⟩) (Go.Lib.compact a0).length cap) 3 (cH .i64) (Go.Lib.compact a0)).p m [(b, .cells (Go.Sort.putCells (Value.int .i64) 0 (Go.Lib.compact a0++List.replicate (a0.length - (Go.Lib.compact a0).length) 0).toArray c) 3 (0,0))]:=
   row_of (by rw [aFb,h1]) (by omega) (by
    rw [aGp (by simp) (by simp;omega)];simp) (by omega)
  obtain⟨m',h4,h5,h6⟩:=xU (H:=[_]) (R:=[]) hS';exact⟨m',[],h5,_,rfl,dI m _ hr m' h4 h6,rfl⟩
open Go.SX Go.SW Go.Dt
def pH (w1:List Int) (w2:Int) (y1:List Int):Nat->Int->(List Int)->Option (List Int)
| 0,_,_=>none
| k+1,x3,x4=>
 if x3<(y1.length:Int)then
  ((idx y1 x3).bind fun y2=>
  (idx w1 w2).bind fun y3=>
  if y2<y3 then
   (dG (x4++[y2])).bind fun z1=>
   some z1
  else
   some x4).bind fun x5=>
  (chk (x3+1)).bind fun z2=>
  pH w1 w2 y1 k z2 x5
 else
  some x4
def wB (AA:Nat) (a0:Int) (w0:List (List Int)) (w1:List Int) (w2:Int) (w3:List Int):Option (List Int):=
 (idx w0 a0).bind fun y1=>
 pH w1 w2 y1 AA 0 w3
theorem aEI (AA:Nat) (q3:Nat) (a0:Int) (w0:List (List Int)) (w1:List Int) (w2:Int) (w3:List Int) (r:List Int) (H:wB AA a0 w0 w1 w2 w3=some r):FnS Tryz.prog 53 [fI a0,aG (tSl (tSl tI)) w0,aG (tSl tI) w1,aG tI w2,fEq (.pointer (some ⟨q3,0,none⟩))] [aBl q3 w3] (dF []) (fun _=>[aBl q3 r]):=by
 unfold wB at H
 refine bG Tryz.func53 rfl Tryz.ntmps53 rfl (fun β=>?_)
 refine aDW (fun v1=>?_)
 refine aJ 1 rfl (fun hc_v1=>?_)
 revert H;refine B3 fun y1 h1 H=>?_
 refine Z6 ?_
 refine Tl (ι:=Nat × Int × List Int × Value) (fun i=>pH w1 w2 y1 i.1 i.2.1 i.2.2.1=_) (fun i=>i.1) (fun i=>[(2,aG (tSl tI) w1),(3,aG tI w2),(4,fEq (ptr q3)),(11,fSl tI y1),(12,fI (y1.length:Int)),(13,fI i.2.1)]) (fun i=>[aA q3 27 [fEq i.2.2.2],aC i.2.2.2 3 tI i.2.2.1]) (AA,0,w3,v1) H ?_
 clear H;rintro⟨k1,x3,x4,v3⟩ H
 replace H:pH w1 w2 y1 k1 x3 x4=_:=H
 try dsimp only
 obtain _ | k1:=k1
 rw [pH]at H;cases H
 rw [pH]at H
 refine aJ 1 rfl (fun hc_v3=>?_)
 refine Z3 ?_
 refine aI ?_
 revert H;refine is (fun c1 H=>?_) fun c1 H=>?_
 revert H;refine B3 fun o1 H Hr1=>?_
 refine aR (ι:=List Int × Value) (fun i=>o1=i.1) (fun i=>[(2,aG (tSl tI) w1),(3,aG tI w2),(4,fEq (ptr q3)),(11,fSl tI y1),(12,fI (y1.length:Int)),(13,fI x3)]) (fun i=>[aA q3 27 [fEq i.2],aC i.2 3 tI i.1]) ?_ ?_
 revert H;refine B2 fun y2 h2 H=>?_
 revert H;refine B8 fun y3 h3 H=>?_
 revert H;refine I4 (fun c2 H=>?_) fun c2 H=>?_
 refine Z4 ?_
 refine Tn (gR (t:=tI) (xs:=[y2]) rfl (et rfl) (cM.cons rfl (has rfl) (cJ (aH a2g)) cM.nil) rfl rfl rfl) fun b1=>?_
 generalize (Value.slice (some ⟨b1,0,none⟩) _ _)=v5
 refine aJ 0 rfl (fun hc_v5=>?_)
 revert H;refine bs fun z1 h4 H=>?_
 refine dK ?_
 refine cK ?_
 refine lL a2g rfl rfl rfl (has rfl) (has rfl) (et rfl) rfl h4 (fun v6=>?_)
 refine aJ 0 rfl (fun hc_v6=>?_)
 refine cK ?_
 refine cC (φs':=[fEq v6]) a2g rfl rfl (has rfl) (has rfl) (aH hc_v6) (sz rfl) rfl rfl ?_
 refine Z3 ?_
 exact Tm ((z1,v6)) (ij H)
 refine Z4 ?_
 exact Tm ((x4,v3)) (ij H)
 clear H;intro i hi;obtain⟨x5,v4⟩:=i;subst o1;have H:=Hr1;clear Hr1;try dsimp only at H
 try dsimp only
 refine aJ 1 rfl (fun hc_v4=>?_)
 revert H;refine B1 fun z2 h5 H=>?_
 refine Z3 ?_
 exact Tm ((k1,z2,x5,v4)) ⟨H,ls⟩
 refine Z5 ?_
 refine aDA (x:=x4) ?_
 cases H
 exact eP (.inr rfl) rfl rfl
def pW (AA:Nat) (y1:(List (List Int)) × Int) (y2:(List Int) × Int) (x4:Int) (y5:AO):Nat->Int->(List Int)->Option (List Int)
| 0,_,_=>none
| k+1,x10,x11=>
 if x10<(y5.AP.length:Int)then
  (idx y5.AP x10).bind fun y6=>
  (wB AA y6.AV y1.1 y2.1 x4 x11).bind fun y7=>
  (chk (x10+1)).bind fun z1=>
  pW AA y1 y2 x4 y5 k z1 y7
 else
  some x11
def oU (AA:Nat) (y1:(List (List Int)) × Int) (y2:(List Int) × Int) (x4:Int) (y8:AO):Nat->Int->(List Int)->Option (List Int)
| 0,_,_=>none
| k+1,x15,x16=>
 if x15<(y8.AR.length:Int)then
  (idx y8.AR x15).bind fun y9=>
  (wB AA y9.AV y1.1 y2.1 x4 x16).bind fun y10=>
  (chk (x15+1)).bind fun z2=>
  oU AA y1 y2 x4 y8 k z2 y10
 else
  some x16
def qD (AA:Nat) (a0:AI) (y1:(List (List Int)) × Int) (y2:(List Int) × Int):Nat->Int->(aL Int (List Int))->Option (aL Int (List Int))
| 0,_,_=>none
| k+1,x4,x5=>
 if x4<(a0.AD.length:Int)then
  ((idx a0.AD x4).bind fun y3=>
  if y3.Op≠4 then
   (idx y1.1 x4).bind fun y4=>
   some (aL.upd x5 x4 y4)
  else
   ((idx a0.AE y3.N).bind fun y5=>
   pW AA y1 y2 x4 y5 AA 0 []).bind fun x7=>
   ((idx a0.AE y3.N).bind fun y8=>
   oU AA y1 y2 x4 y8 AA 0 x7).bind fun x12=>
   (aC0 x12).bind fun y11=>
   (aDz y11).bind fun y12=>
   some (aL.upd x5 x4 y12)).bind fun x6=>
  (chk (x4+1)).bind fun z3=>
  qD AA a0 y1 y2 k z3 x6
 else
  some x5
def sR (AA:Nat) (a0:AI):Option ((aL Int (List Int)) × Int):=
 (wR AA (⟨a0.AF,a0.AD,a0.AE,a0.AG⟩:AI)).bind fun y1=>
 if y1.2≠0 then
  some (aL.none,y1.2)
 else
  (wH AA (⟨a0.AF,a0.AD,a0.AE,a0.AG⟩:AI)).bind fun y2=>
  (qD AA a0 y1 y2 AA 0 (aL.none:aL Int (List Int))).bind fun x1=>
  (idx y1.1 a0.AG).bind fun y13=>
  some (aL.upd x1 (-1) y13,0)
theorem aHX (AA:Nat)  (a0:AI) (r:(aL Int (List Int)) × Int) (H:sR AA a0=some r):FnS Tryz.prog 21 [fSt cN a0] [] (dF [kE bX (fun y=>fSl tI y) r.1,fI r.2]) (fun _=>[]):=by
 unfold sR at H
 refine bG Tryz.func21 rfl Tryz.ntmps21 rfl (fun β=>?_)
 refine Z1 ?_
 refine Tn (bU rfl hh bS) fun b1=>?_
 revert H;refine B5 fun y1 h1 H=>?_
 refine Tc (aK8 _ _ _ h1) ?_
 refine Z3 ?_
 refine Tn (bN rfl ty_ze_45 rfl) fun b2=>?_
 refine cC (φs':=[fSl (tSl tI) y1.1]) a2g rfl rfl (has rfl) (has rfl) (aS) (sz rfl) rfl rfl ?_
 refine Z2 ?_
 refine aI ?_
 revert H;refine I4 (fun c1 H=>?_) fun c1 H=>?_
 refine Z7 ?_
 cases H
 refine aE [] (by decide) ?_
 exact pU rfl (fM rfl aJJ) (bP rfl) rfl
 revert H;refine B5 fun y2 h2 H=>?_
 refine Tc (aF1 _ _ _ h2) ?_
 refine Z3 ?_
 refine Tn (bN rfl aAF rfl) fun b3=>?_
 refine cC (φs':=[fSl tI y2.1]) a2g rfl rfl (has rfl) (has rfl) (aS) (sz rfl) rfl rfl ?_
 refine Z3 ?_
 refine Tn (aBz (fun y=>fSl tI y) bX rfl) fun b4=>?_
 revert H;refine B2 fun o1 H Hr1=>?_
 refine aR (ι:=aL Int (List Int)) (fun i=>o1=i) (fun i=>[(1,fEq (ptr b1)),(4,aG (tSl (tSl tI)) y1.1),(8,fEq (.map (some b4)))]) (fun i=>[aA b1 26 [fSl aD a0.AF,fSl aM a0.AD,fSl aB a0.AE,fI a0.AG],dU bX (fun y=>fSl tI y) b4 i]) ?_ ?_
 refine Z7 ?_
 refine dK ?_
 refine cE (φ:=aG (tSl (tSl tI)) y1.1) (v:=ptr b2) [4] (fQ aP.rfl) fz ?_
 refine cD ?_
 refine cK ?_
 refine cE (φ:=aG (tSl tI) y2.1) (v:=ptr b3) [6] (fQ aP.rfl) fz ?_
 refine cD ?_
 refine aE [1,0] (by decide) ?_
 refine Tl (ι:=Nat × Int × aL Int (List Int)) (fun i=>qD AA a0 y1 y2 i.1 i.2.1 i.2.2=_) (fun i=>i.1) (fun i=>[(1,fEq (ptr b1)),(4,aG (tSl (tSl tI)) y1.1),(6,aG (tSl tI) y2.1),(8,fEq (.map (some b4))),(32,fSl aM a0.AD),(33,fI (a0.AD.length:Int)),(34,fI i.2.1)]) (fun i=>[aA b1 26 [fSl aD a0.AF,fSl aM a0.AD,fSl aB a0.AE,fI a0.AG],dU bX (fun y=>fSl tI y) b4 i.2.2]) (AA,0,(aL.none:aL Int (List Int))) H ?_
 clear H;rintro⟨k1,x4,x5⟩ H
 replace H:qD AA a0 y1 y2 k1 x4 x5=_:=H
 try dsimp only
 obtain _ | k1:=k1
 rw [qD]at H;cases H
 rw [qD]at H
 refine Z3 ?_
 refine aI ?_
 revert H;refine is (fun c2 H=>?_) fun c2 H=>?_
 revert H;refine B3 fun o2 H Hr2=>?_
 refine aR (ι:=aL Int (List Int)) (fun i=>o2=i) (fun i=>[(1,fEq (ptr b1)),(4,aG (tSl (tSl tI)) y1.1),(6,aG (tSl tI) y2.1),(8,fEq (.map (some b4))),(32,fSl aM a0.AD),(33,fI (a0.AD.length:Int)),(34,fI x4)]) (fun i=>[aA b1 26 [fSl aD a0.AF,fSl aM a0.AD,fSl aB a0.AE,fI a0.AG],dU bX (fun y=>fSl tI y) b4 i]) ?_ ?_
 revert H;refine B3 fun y3 h3 H=>?_
 refine Z2 ?_
 refine Tn (bN rfl tQ rfl) fun b5=>?_
 refine Tn (bN rfl rP rfl) fun b6=>?_
 refine cK ?_
 refine cC (φs':=[fI x4]) a2g rfl rfl (has rfl) (has rfl) (aH a2g) (sz rfl) rfl rfl ?_
 refine cK ?_
 refine cG (φs':=[fI y3.Op,fI y3.N,fSl aO y3.AU,fSl tI y3.AM]) a2g rfl rfl (has rfl) (has rfl) (aF (aH a2g) (aF (aH a2g) (aF (aS) (aF (aS) bF)))) (sz rfl) rfl rfl rfl ?_
 refine Z1 ?_
 refine aI ?_
 revert H;refine I5 (fun c3 H=>?_) fun c3 H=>?_
 refine Z1 ?_
 refine aI ?_
 revert H;refine bs fun y4 h4 H=>?_
 apply bL (ods:=[_,_,_,_,_,_]) 6 0 4 bK rfl rfl rfl
 refine ND ?_
 refine M6 ?_
 intros
 refine Z1 ?_
 refine cY ?_
 refine gW (k:=x4) (y:=y4) a2g (.inl rfl) rfl (has rfl) (has rfl) rfl (has rfl) rfl sG ?_
 refine Z5 ?_
 refine aE [3,0] (by decide) ?_
 exact Tm (aL.upd x5 x4 y4) (ij H)
 exact fk
 kernel_rfl
 refine Z4 ?_
 refine Tn (bN rfl aAF rfl) fun b7=>?_
 refine Z2 ?_
 refine dK ?_
 refine cE (φ:=aG tI x4) (v:=ptr b5) [9] (fQ aP.rfl) fz ?_
 refine cD ?_
 refine Yy (oB rfl (aN.cons hh (aN.cons hh (aN.cons hh (aN.cons hh aN.nil))))) ?_
 revert H;refine B2 fun o3 H Hr3=>?_
 refine aR (ι:=List Int × Value) (fun i=>o3=i.1) (fun i=>[(1,fEq (ptr b1)),(4,aG (tSl (tSl tI)) y1.1),(6,aG (tSl tI) y2.1),(8,fEq (.map (some b4))),(32,fSl aM a0.AD),(33,fI (a0.AD.length:Int)),(34,fI x4),(9,aG tI x4),(10,fEq (ptr b6)),(11,fEq (ptr b7)),(12,cB 53 [aG (tSl (tSl tI)) y1.1,aG (tSl tI) y2.1,aG tI x4,fEq (ptr b7)])]) (fun i=>[aA b7 27 [fEq i.2],aA b6 65 [fI y3.Op,fI y3.N,fSl aO y3.AU,fSl tI y3.AM],aA b1 26 [fSl aD a0.AF,fSl aM a0.AD,fSl aB a0.AE,fI a0.AG],dU bX (fun y=>fSl tI y) b4 x5,aC i.2 3 tI i.1]) ?_ ?_
 revert H;refine B5 fun y5 h5 H=>?_
 refine Z7 ?_
 refine iW tI 3 ?_
 refine aE [1,2,3,4,0] (by decide) ?_
 refine Tl (ι:=Nat × Int × List Int × Value) (fun i=>pW AA y1 y2 x4 y5 i.1 i.2.1 i.2.2.1=_) (fun i=>i.1) (fun i=>[(1,fEq (ptr b1)),(4,aG (tSl (tSl tI)) y1.1),(6,aG (tSl tI) y2.1),(8,fEq (.map (some b4))),(32,fSl aM a0.AD),(33,fI (a0.AD.length:Int)),(34,fI x4),(9,aG tI x4),(10,fEq (ptr b6)),(11,fEq (ptr b7)),(12,cB 53 [aG (tSl (tSl tI)) y1.1,aG (tSl tI) y2.1,aG tI x4,fEq (ptr b7)]),(55,fSl aY y5.AP),(56,fI (y5.AP.length:Int)),(57,fI i.2.1)]) (fun i=>[aA b7 27 [fEq i.2.2.2],aA b6 65 [fI y3.Op,fI y3.N,fSl aO y3.AU,fSl tI y3.AM],aA b1 26 [fSl aD a0.AF,fSl aM a0.AD,fSl aB a0.AE,fI a0.AG],dU bX (fun y=>fSl tI y) b4 x5,aC i.2.2.2 3 tI i.2.2.1]) (AA,0,[],(.slice none 0 0)) H ?_
 clear H;rintro⟨k2,x10,x11,v3⟩ H
 replace H:pW AA y1 y2 x4 y5 k2 x10 x11=_:=H
 try dsimp only
 obtain _ | k2:=k2
 rw [pW]at H;cases H
 rw [pW]at H
 refine aJ 4 rfl (fun hc_v3=>?_)
 refine Z3 ?_
 refine aI ?_
 revert H;refine is (fun c4 H=>?_) fun c4 H=>?_
 refine Z3 ?_
 refine aI ?_
 revert H;refine B2 fun y6 h6 H=>?_
 refine Z2 ?_
 refine Tn (bN rfl rU rfl) fun b8=>?_
 refine cG (φs':=[fI y6.At,fSl tI y6.AY,fI y6.AV]) a2g rfl rfl (has rfl) (has rfl) (aF (aH a2g) (aF (aS) (aF (aH a2g) bF))) (sz rfl) rfl rfl rfl ?_
 refine Z5 ?_
 refine dA ?_
 refine dK ?_
 refine aDA (x:=x11) ?_
 revert H;refine bs fun y7 h7 H=>?_
 refine iB a2g rfl rfl rfl (has rfl) (aN.cons (has rfl) aN.nil) rfl (cb rfl) (aEI AA b7 y6.AV y1.1 y2.1 x4 x11 y7 h7) rfl ?_
 refine aDW (fun v4=>?_)
 refine aJ 1 rfl (fun hc_v4=>?_)
 revert H;refine B4 fun z1 h8 H=>?_
 refine Z3 ?_
 refine aE [0,3,4,5,1] (by decide) ?_
 exact Tm ((k2,z1,y7,v4)) ⟨H,ls⟩
 refine Z6 ?_
 exact Tm ((x11,v3)) (ij H)
 clear H;intro i hi;obtain⟨x7,v1⟩:=i;subst o3;have H:=Hr3;clear Hr3;try dsimp only at H
 try dsimp only
 refine aJ 4 rfl (fun hc_v1=>?_)
 revert H;refine bs fun o4 H Hr4=>?_
 refine aR (ι:=List Int × Value) (fun i=>o4=i.1) (fun i=>[(1,fEq (ptr b1)),(4,aG (tSl (tSl tI)) y1.1),(6,aG (tSl tI) y2.1),(8,fEq (.map (some b4))),(32,fSl aM a0.AD),(33,fI (a0.AD.length:Int)),(34,fI x4),(9,aG tI x4),(11,fEq (ptr b7))]) (fun i=>[aA b7 27 [fEq i.2],aA b6 65 [fI y3.Op,fI y3.N,fSl aO y3.AU,fSl tI y3.AM],aA b1 26 [fSl aD a0.AF,fSl aM a0.AD,fSl aB a0.AE,fI a0.AG],dU bX (fun y=>fSl tI y) b4 x5,aC i.2 3 tI i.1]) ?_ ?_
 revert H;refine B5 fun y8 h9 H=>?_
 refine Z7 ?_
 refine Tl (ι:=Nat × Int × List Int × Value) (fun i=>oU AA y1 y2 x4 y8 i.1 i.2.1 i.2.2.1=_) (fun i=>i.1) (fun i=>[(1,fEq (ptr b1)),(4,aG (tSl (tSl tI)) y1.1),(6,aG (tSl tI) y2.1),(8,fEq (.map (some b4))),(32,fSl aM a0.AD),(33,fI (a0.AD.length:Int)),(34,fI x4),(9,aG tI x4),(11,fEq (ptr b7)),(12,cB 53 [aG (tSl (tSl tI)) y1.1,aG (tSl tI) y2.1,aG tI x4,fEq (ptr b7)]),(72,fSl bD y8.AR),(73,fI (y8.AR.length:Int)),(74,fI i.2.1)]) (fun i=>[aA b7 27 [fEq i.2.2.2],aA b6 65 [fI y3.Op,fI y3.N,fSl aO y3.AU,fSl tI y3.AM],aA b1 26 [fSl aD a0.AF,fSl aM a0.AD,fSl aB a0.AE,fI a0.AG],dU bX (fun y=>fSl tI y) b4 x5,aC i.2.2.2 3 tI i.2.2.1]) (AA,0,x7,v1) H ?_
 clear H;rintro⟨k3,x15,x16,v7⟩ H
 replace H:oU AA y1 y2 x4 y8 k3 x15 x16=_:=H
 try dsimp only
 obtain _ | k3:=k3
 rw [oU]at H;cases H
 rw [oU]at H
 refine aJ 4 rfl (fun hc_v7=>?_)
 refine Z3 ?_
 refine aI ?_
 revert H;refine is (fun c5 H=>?_) fun c5 H=>?_
 refine Z3 ?_
 refine aI ?_
 revert H;refine B2 fun y9 h10 H=>?_
 refine Z2 ?_
 refine Tn (bN rfl xB rfl) fun b9=>?_
 refine cG (φs':=[fI y9.In,fI y9.AV]) a2g rfl rfl (has rfl) (has rfl) (aF (aH a2g) (aF (aH a2g) bF)) (sz rfl) rfl rfl rfl ?_
 refine Z5 ?_
 refine dA ?_
 refine dK ?_
 refine aDA (x:=x16) ?_
 revert H;refine bs fun y10 h11 H=>?_
 refine iB a2g rfl rfl rfl (has rfl) (aN.cons (has rfl) aN.nil) rfl (cb rfl) (aEI AA b7 y9.AV y1.1 y2.1 x4 x16 y10 h11) rfl ?_
 refine aDW (fun v8=>?_)
 refine aJ 1 rfl (fun hc_v8=>?_)
 revert H;refine B4 fun z2 h12 H=>?_
 refine Z3 ?_
 refine aE [0,3,4,5,1] (by decide) ?_
 exact Tm ((k3,z2,y10,v8)) ⟨H,ls⟩
 refine Z6 ?_
 exact Tm ((x16,v7)) (ij H)
 clear H;intro i hi;obtain⟨x12,v5⟩:=i;subst o4;have H:=Hr4;clear Hr4;try dsimp only at H
 try dsimp only
 refine aJ 4 rfl (fun hc_v5=>?_)
 refine Z2 ?_
 refine aZ ?_
 revert H;refine bs fun y11 h13 H=>?_
 refine Tc (aJw _ _ _ h13) ?_
 revert H;refine B1 fun y12 h14 H=>?_
 apply bL (ods:=[_,_,_,_]) 4 0 5 bK rfl rfl rfl
 refine ND ?_
 refine M3 ?_
 intros
 refine N_callT (od:=odC [0] true (fSl tI y12) [cQ]) (Φ:=fSl tI y12) (p:=0) rfl (fun _=>rfl) a2g rfl rfl rfl (has rfl) (aN.cons (has rfl) aN.nil) rfl (cb rfl) (aIA v5 y11 y12 h14) (fun _=>?_)
 refine Z1 ?_
 refine aZ ?_
 refine gW (k:=x4) (y:=y12) a2g (.inl rfl) rfl (has rfl) (has rfl) rfl (has rfl) rfl sG ?_
 refine Z3 ?_
 refine aE [4,0] (by decide) ?_
 exact Tm (aL.upd x5 x4 y12) (ij H)
 exact fk
 kernel_rfl
 clear H;intro x6 hi;subst o2;have H:=Hr2;clear Hr2;try dsimp only at H
 try dsimp only
 revert H;refine B1 fun z3 h15 H=>?_
 refine Z3 ?_
 exact Tm ((k1,z3,x6)) ⟨H,ls⟩
 refine Z6 ?_
 exact Tm (x5) (ij H)
 clear H;intro x1 hi;subst o1;have H:=Hr1;clear Hr1;try dsimp only at H
 try dsimp only
 revert H;refine B5 fun y13 h16 H=>?_
 refine Z2 ?_
 refine cK ?_
 refine gW (k:=(-1)) (y:=y13) a2g (.inl rfl) rfl (has rfl) (has rfl) rfl (has rfl) rfl sG ?_
 refine Z7 ?_
 refine cE (φ:=kE bX (fun y=>fSl tI y) (aL.upd x1 (-1) y13)) (v:= .map (some b4)) [8,90,96,2] aHb fz ?_
 refine cD ?_
 cases H
 refine aE [] (by decide) ?_
 exact pU rfl (bP rfl) (bP rfl) rfl
def vB (a0:List ByteArray):Option (List ByteArray):=
 (dG (([]:List ByteArray)++a0)).bind fun z1=>
 some z1
theorem aF5  (a0:List ByteArray) (r:List ByteArray) (H:vB a0=some r):FnS Tryz.prog 23 [fSl aD a0] [] (fSl aD r) (fun _=>[]):=by
 unfold vB at H
 refine bG Tryz.func23 rfl Tryz.ntmps23 rfl (fun β=>?_)
 refine Z3 ?_
 refine aI ?_
 refine Z2 ?_
 refine Yy (aA2 rfl hh (us rfl)) ?_
 refine Z1 ?_
 refine aB4 (has rfl) (fun hx=>?_) ?_
 replace H:some []=some r:=by subst hx;exact H
 refine Z4 ?_
 cases H
 exact eD rfl (fM rfl cW) rfl
 refine Z3 ?_
 refine Tn (gR (t:=aD) (xs:=([]:List ByteArray)) rfl (et rfl) cM.nil rfl rfl rfl) fun b1=>?_
 generalize (Value.slice (some ⟨b1,0,none⟩) _ _)=v1
 refine aJ 0 rfl (fun hc_v1=>?_)
 revert H;refine B1 fun z1 h1 H=>?_
 refine sQ (ys:=a0) a2g rfl rfl rfl (has rfl) (has rfl) (et rfl) rfl h1 (fun v2=>?_)
 refine aJ 0 rfl (fun hc_v2=>?_)
 refine Z3 ?_
 refine cE (φ:=fSl aD z1) (v:=v2) [2,7] dI fz ?_
 refine cD ?_
 cases H
 exact To
def gQ (a0:List Int):Option (List Int):=
 (dG (([]:List Int)++a0)).bind fun z1=>
 some z1
theorem aHv  (a0:List Int) (r:List Int) (H:gQ a0=some r):FnS Tryz.prog 24 [fSl tI a0] [] dX (fun v=>[(fun v=>aC v 3 tI r) v]):=by
 unfold gQ at H
 refine bG Tryz.func24 rfl Tryz.ntmps24 rfl (fun β=>?_)
 refine Z3 ?_
 refine aI ?_
 refine Z2 ?_
 refine Yy (aA2 rfl hh (us rfl)) ?_
 refine Z1 ?_
 refine aB4 (has rfl) (fun hx=>?_) ?_
 replace H:some ([]:List Int)=some r:=by subst hx;exact H
 refine Z4 ?_
 refine iW tI 3 ?_
 cases H
 exact T_outO rfl (bP rfl) (fun _ _ _=>trivial) rfl
 refine Z3 ?_
 refine Tn (gR (t:=tI) (xs:=([]:List Int)) rfl (et rfl) cM.nil rfl rfl rfl) fun b1=>?_
 generalize (Value.slice (some ⟨b1,0,none⟩) _ _)=v1
 refine aJ 0 rfl (fun hc_v1=>?_)
 revert H;refine B1 fun z1 h1 H=>?_
 refine sQ (ys:=a0) a2g rfl rfl rfl (has rfl) (has rfl) (et rfl) rfl h1 (fun v2=>?_)
 refine aJ 0 rfl (fun hc_v2=>?_)
 refine Z3 ?_
 cases H
 exact T_outO rfl (bP rfl) (fun _ _ _=>trivial) rfl
theorem vD  (a0:List Int) (r:List Int) (H:gQ a0=some r):FnS Tryz.prog 24 [fSl tI a0] [] (fSl tI r) (fun _=>[]):=(aHv a0 r H).frz (fun v=>dI)
def aAS (a0:List Aq):Option (List Aq):=
 (dG (([]:List Aq)++a0)).bind fun z1=>
 some z1
theorem aJ5  (a0:List Aq) (r:List Aq) (H:aAS a0=some r):FnS Tryz.prog 58 [fSl aW a0] [] (fSl aW r) (fun _=>[]):=by
 unfold aAS at H
 refine bG Tryz.func58 rfl Tryz.ntmps58 rfl (fun β=>?_)
 refine Z3 ?_
 refine aI ?_
 refine Z2 ?_
 refine Yy (aA2 rfl hh (us rfl)) ?_
 refine Z1 ?_
 refine aB4 (has rfl) (fun hx=>?_) ?_
 replace H:some []=some r:=by subst hx;exact H
 refine Z4 ?_
 cases H
 exact eD rfl (fM rfl cW) rfl
 refine Z3 ?_
 refine Tn (gR (t:=aW) (xs:=([]:List Aq)) rfl (et rfl) cM.nil rfl rfl rfl) fun b1=>?_
 generalize (Value.slice (some ⟨b1,0,none⟩) _ _)=v1
 refine aJ 0 rfl (fun hc_v1=>?_)
 revert H;refine B1 fun z1 h1 H=>?_
 refine sQ (ys:=a0) a2g rfl rfl rfl (has rfl) (has rfl) (et rfl) rfl h1 (fun v2=>?_)
 refine aJ 0 rfl (fun hc_v2=>?_)
 refine Z3 ?_
 refine cE (φ:=fSl aW z1) (v:=v2) [2,7] dI fz ?_
 refine cD ?_
 cases H
 exact To
def aAN (a0:List Ao):Option (List Ao):=
 (dG (([]:List Ao)++a0)).bind fun z1=>
 some z1
theorem aIk  (a0:List Ao) (r:List Ao) (H:aAN a0=some r):FnS Tryz.prog 59 [fSl bD a0] [] (fSl bD r) (fun _=>[]):=by
 unfold aAN at H
 refine bG Tryz.func59 rfl Tryz.ntmps59 rfl (fun β=>?_)
 refine Z3 ?_
 refine aI ?_
 refine Z2 ?_
 refine Yy (aA2 rfl hh (us rfl)) ?_
 refine Z1 ?_
 refine aB4 (has rfl) (fun hx=>?_) ?_
 replace H:some []=some r:=by subst hx;exact H
 refine Z4 ?_
 cases H
 exact eD rfl (fM rfl cW) rfl
 refine Z3 ?_
 refine Tn (gR (t:=bD) (xs:=([]:List Ao)) rfl (et rfl) cM.nil rfl rfl rfl) fun b1=>?_
 generalize (Value.slice (some ⟨b1,0,none⟩) _ _)=v1
 refine aJ 0 rfl (fun hc_v1=>?_)
 revert H;refine B1 fun z1 h1 H=>?_
 refine sQ (ys:=a0) a2g rfl rfl rfl (has rfl) (has rfl) (et rfl) rfl h1 (fun v2=>?_)
 refine aJ 0 rfl (fun hc_v2=>?_)
 refine Z3 ?_
 refine cE (φ:=fSl bD z1) (v:=v2) [2,7] dI fz ?_
 refine cD ?_
 cases H
 exact To
def oD (y1:AO):Nat->Int->(List Am)->Option (List Am)
| 0,_,_=>none
| k+1,x10,x11=>
 if x10<(y1.AP.length:Int)then
  (idx y1.AP x10).bind fun y4=>
  (gQ y4.AY).bind fun y5=>
  (dG (x11++[(⟨y4.At,y5,y4.AV⟩:Am)])).bind fun z1=>
  (chk (x10+1)).bind fun z2=>
  oD y1 k z2 z1
 else
  some x11
def oR (AA:Nat) (a0:List AO):Nat->(List AO)->Int->Option (List AO)
| 0,_,_=>none
| k+1,x4,x5=>
 if x5<(a0.length:Int)then
  ((idx a0 x5).bind fun y1=>
  (aAS y1.AN).bind fun y2=>
  (aAN y1.AR).bind fun y3=>
  (oD y1 AA 0 []).bind fun x7=>
  (dG (x4++[(⟨y2,y3,x7⟩:AO)])).bind fun z3=>
  some z3).bind fun x6=>
  (chk (x5+1)).bind fun z4=>
  oR AA a0 k x6 z4
 else
  some x4
def uZ (AA:Nat) (a0:List AO):Option (List AO):=
 (oR AA a0 AA [] 0).bind fun x1=>
 some x1
theorem aF4 (AA:Nat)  (a0:List AO) (r:List AO) (H:uZ AA a0=some r):FnS Tryz.prog 25 [fSl aB a0] [] (fSl aB r) (fun _=>[]):=by
 unfold uZ at H
 refine bG Tryz.func25 rfl Tryz.ntmps25 rfl (fun β=>?_)
 revert H;refine B6 fun o1 H Hr1=>?_
 refine aR (ι:=List AO × Value) (fun i=>o1=i.1) (fun i=>[(3,fEq i.2)]) (fun i=>[aC i.2 77 aB i.1]) ?_ ?_
 refine Z6 ?_
 refine iW aB 77 ?_
 refine Tl (ι:=Nat × List AO × Int × Value) (fun i=>oR AA a0 i.1 i.2.1 i.2.2.1=_) (fun i=>i.1) (fun i=>[(3,fEq i.2.2.2),(9,fSl aB a0),(10,fI (a0.length:Int)),(11,fI i.2.2.1)]) (fun i=>[aC i.2.2.2 77 aB i.2.1]) (AA,[],0,(.slice none 0 0)) H ?_
 clear H;rintro⟨k1,x4,x5,v3⟩ H
 replace H:oR AA a0 k1 x4 x5=_:=H
 try dsimp only
 obtain _ | k1:=k1
 rw [oR]at H;cases H
 rw [oR]at H
 refine aJ 0 rfl (fun hc_v3=>?_)
 refine Z3 ?_
 refine aI ?_
 revert H;refine is (fun c1 H=>?_) fun c1 H=>?_
 revert H;refine B3 fun o2 H Hr2=>?_
 refine aR (ι:=List AO × Value) (fun i=>o2=i.1) (fun i=>[(9,fSl aB a0),(10,fI (a0.length:Int)),(11,fI x5),(3,fEq i.2)]) (fun i=>[aC i.2 77 aB i.1]) ?_ ?_
 revert H;refine B2 fun y1 h1 H=>?_
 refine Z2 ?_
 refine Tn (bN rfl vI rfl) fun b1=>?_
 refine cG (φs':=[fSl aW y1.AN,fSl bD y1.AR,fSl aY y1.AP]) a2g rfl rfl (has rfl) (has rfl) (aF (aS) (aF (aS) (aF (aS) bF))) (sz rfl) rfl rfl rfl ?_
 refine Z1 ?_
 refine aI ?_
 revert H;refine bs fun y2 h2 H=>?_
 revert H;refine bs fun y3 h3 H=>?_
 apply bL (ods:=[_,_,_,_,_,_,_,_,_]) 9 1 3 bK rfl rfl rfl
 refine ND ?_
 refine M2 ?_
 intros
 refine Nc (aJ5 _ _ h2) fun _=>?_
 refine M2 ?_
 intros
 refine Nc (aIk _ _ h3) fun _=>?_
 refine My (gP (ψs:=[fSl aW y2,fSl bD y3,fEq (.slice none 0 0)]) rfl ty_bu_77 rfl (bQ.cons (has rfl) (cJ (aS)) (bQ.cons (has rfl) (cJ (aS)) bQ.nil)) rfl) fun _=>?_
 refine Mn 2 (fun b2=>ptr b2) (fun b2=>aA b2 77 [fEq (.slice none 0 0),fEq (.slice none 0 0),fEq (.slice none 0 0)]) rfl (bN rfl vI rfl) (fun b2 u1=>?_)
 refine pA (od:=od1 7 [2] true (fun b2 _=>dX) (fun b2 _=>[aA b2 77 [fSl aW y2,fSl bD y3,fEq (.slice none 0 0)]])) (p:=2) (φs':=[fSl aW y2,fSl bD y3,fEq (.slice none 0 0)]) rfl (fun _=>rfl) (fun _=>rfl) a2g rfl rfl rfl (has rfl) (has rfl) (aF (aS) (aF (aS) (aF (aH a2g) bF))) (sz rfl) rfl rfl rfl (fun _=>?_)
 revert H;refine B2 fun o3 H Hr3=>?_
 refine aR (ι:=List Am × Value) (fun i=>o3=i.1) (fun i=>[(3,fEq v3),(9,fSl aB a0),(10,fI (a0.length:Int)),(11,fI x5),(6,fEq (ptr b2))]) (fun i=>[aA b1 77 [fSl aW y1.AN,fSl bD y1.AR,fSl aY y1.AP],aA b2 77 [fSl aW y2,fSl bD y3,fEq i.2],aC v3 77 aB x4,aC i.2 81 aY i.1]) ?_ ?_
 refine Z7 ?_
 refine iW aY 81 ?_
 refine aE [1,3,2,0] (by decide) ?_
 refine Tl (ι:=Nat × Int × List Am × Value) (fun i=>oD y1 i.1 i.2.1 i.2.2.1=_) (fun i=>i.1) (fun i=>[(3,fEq v3),(9,fSl aB a0),(10,fI (a0.length:Int)),(11,fI x5),(6,fEq (ptr b2)),(23,fSl aY y1.AP),(24,fI (y1.AP.length:Int)),(25,fI i.2.1)]) (fun i=>[aA b1 77 [fSl aW y1.AN,fSl bD y1.AR,fSl aY y1.AP],aA b2 77 [fSl aW y2,fSl bD y3,fEq i.2.2.2],aC v3 77 aB x4,aC i.2.2.2 81 aY i.2.2.1]) (AA,0,[],(.slice none 0 0)) H ?_
 clear H;rintro⟨k2,x10,x11,v7⟩ H
 replace H:oD y1 k2 x10 x11=_:=H
 try dsimp only
 obtain _ | k2:=k2
 rw [oD]at H;cases H
 rw [oD]at H
 refine aJ 3 rfl (fun hc_v7=>?_)
 refine Z3 ?_
 refine aI ?_
 revert H;refine is (fun c2 H=>?_) fun c2 H=>?_
 refine Z3 ?_
 refine aI ?_
 revert H;refine B2 fun y4 h4 H=>?_
 refine Z2 ?_
 refine Tn (bN rfl rU rfl) fun b3=>?_
 refine cG (φs':=[fI y4.At,fSl tI y4.AY,fI y4.AV]) a2g rfl rfl (has rfl) (has rfl) (aF (aH a2g) (aF (aS) (aF (aH a2g) bF))) (sz rfl) rfl rfl rfl ?_
 revert H;refine B4 fun y5 h5 H=>?_
 refine pI a2g rfl rfl rfl hh (aN.cons hh aN.nil) rfl (cb rfl) (vD y4.AY y5 h5) rfl ?_
 refine Z1 ?_
 refine cC (φs':=[fI y4.At,fSl tI y5,fI y4.AV]) a2g rfl rfl (has rfl) (has rfl) (aS) (sz rfl) rfl rfl ?_
 refine Z5 ?_
 refine Tn (gR (t:=aY) (xs:=[(⟨y4.At,y5,y4.AV⟩:Am)]) rfl (et rfl) (cM.cons rfl hh bS cM.nil) rfl rfl rfl) fun b4=>?_
 generalize (Value.slice (some ⟨b4,0,none⟩) _ _)=v8
 refine aJ 0 rfl (fun hc_v8=>?_)
 revert H;refine bs fun z1 h6 H=>?_
 refine dA ?_
 refine cK ?_
 refine lL a2g rfl rfl rfl (has rfl) (has rfl) (et rfl) rfl h6 (fun v9=>?_)
 refine aJ 0 rfl (fun hc_v9=>?_)
 refine Z1 ?_
 refine cY ?_
 refine cC (φs':=[fSl aW y2,fSl bD y3,fEq v9]) a2g rfl rfl (has rfl) (has rfl) (aH hc_v9) (sz rfl) rfl rfl ?_
 revert H;refine B4 fun z2 h7 H=>?_
 refine Z3 ?_
 refine aE [3,0,4,1] (by decide) ?_
 exact Tm ((k2,z2,z1,v9)) ⟨H,ls⟩
 refine Z6 ?_
 exact Tm ((x11,v7)) (ij H)
 clear H;intro i hi;obtain⟨x7,v5⟩:=i;subst o3;have H:=Hr3;clear Hr3;try dsimp only at H
 try dsimp only
 refine aJ 3 rfl (fun hc_v5=>?_)
 refine Z3 ?_
 refine cY ?_
 refine cE (φ:=fSl aY x7) (v:=v5) [] dI (fun _ h=>nomatch h) ?_
 refine dK ?_
 refine cK ?_
 refine eY (φs':=[fSl aW y2,fSl bD y3,fSl aY x7]) (i:=2) rfl rfl ?_
 refine rI 41 (ψ:=eI [fSl aW y2,fSl bD y3,fEq v5]) rfl (qP (i:=2) (φs:=[fSl aW y2,fSl bD y3,fEq v5]) (φs':=[fSl aW y2,fSl bD y3,fSl aY x7]) rfl rfl) ?_
 refine cD ?_
 refine Tn (gR (t:=aB) (xs:=[(⟨y2,y3,x7⟩:AO)]) rfl (et rfl) (cM.cons rfl hh bS cM.nil) rfl rfl rfl) fun b5=>?_
 generalize (Value.slice (some ⟨b5,0,none⟩) _ _)=v10
 refine aJ 0 rfl (fun hc_v10=>?_)
 revert H;refine bs fun z3 h8 H=>?_
 refine cY ?_
 refine cK ?_
 refine lL a2g rfl rfl rfl (has rfl) (has rfl) (et rfl) rfl h8 (fun v11=>?_)
 refine aJ 0 rfl (fun hc_v11=>?_)
 refine Z4 ?_
 refine aE [0] (by decide) ?_
 exact Tm ((z3,v11)) (ij H)
 exact fk
 kernel_rfl
 clear H;intro i hi;obtain⟨x6,v4⟩:=i;subst o2;have H:=Hr2;clear Hr2;try dsimp only at H
 try dsimp only
 refine aJ 0 rfl (fun hc_v4=>?_)
 revert H;refine B1 fun z4 h9 H=>?_
 refine Z3 ?_
 exact Tm ((k1,x6,z4,v4)) ⟨H,ls⟩
 refine Z6 ?_
 exact Tm ((x4,v3)) (ij H)
 clear H;intro i hi;obtain⟨x1,v1⟩:=i;subst o1;have H:=Hr1;clear Hr1;try dsimp only at H
 try dsimp only
 refine aJ 0 rfl (fun hc_v1=>?_)
 refine Z5 ?_
 refine cE (φ:=fSl aB x1) (v:=v1) [3,45,2] dI fz ?_
 refine cD ?_
 cases H
 exact To
def qS (a0:Int):Option (Bool):=
 (if a0=4 then
  some true
 else
  if a0=6 then
   some true
  else
   if a0=7 then
    some true
   else
    some (decide (a0=8))).bind fun x1=>
 some x1
theorem aDS  (a0:Int) (r:Bool) (H:qS a0=some r):FnS Tryz.prog 27 [fI a0] [] (aK r) (fun _=>[]):=by
 unfold qS at H
 refine bG Tryz.func27 rfl Tryz.ntmps27 rfl (fun β=>?_)
 revert H;refine B3 fun o1 H Hr1=>?_
 refine aR (ι:=Bool) (fun i=>o1=i) (fun i=>[(2,aK i)]) (fun i=>[]) ?_ ?_
 revert H;refine I4 (fun c1 H=>?_) fun c1 H=>?_
 refine Z12 ?_
 refine Z1 ?_
 exact Tm (true) (ij H)
 revert H;refine I4 (fun c2 H=>?_) fun c2 H=>?_
 refine Z9 ?_
 exact Tm (true) (ij H)
 revert H;refine I4 (fun c3 H=>?_) fun c3 H=>?_
 refine Z5 ?_
 exact Tm (true) (ij H)
 refine Z5 ?_
 exact Tm (decide (a0=8)) (ij H)
 clear H;intro x1 hi;subst o1;have H:=Hr1;clear Hr1;try dsimp only at H
 try dsimp only
 refine Z1 ?_
 cases H
 exact To
def pJ (a0:List Int) (a1:Int):Nat->Int->Option ((Unit) ⊕ (Int))
| 0,_=>none
| k+1,x2=>
 if x2<(a0.length:Int)then
  (idx a0 x2).bind fun y1=>
  if a1=y1 then
   (some x2).bind fun r=>some (Sum.inr r)
  else
   (chk (x2+1)).bind fun z1=>
   pJ a0 a1 k z1
 else
  some (Sum.inl ())
def kY (AA:Nat) (a0:List Int) (a1:Int):Option (Int):=
 (pJ a0 a1 AA 0).bind fun o=>match o with
 | Sum.inr r=>some r
 | Sum.inl _=>
 some (-1)
theorem aAw (AA:Nat)  (a0:List Int) (a1:Int) (r:Int) (H:kY AA a0 a1=some r):FnS Tryz.prog 29 [fSl tI a0,fI a1] [] (fI r) (fun _=>[]):=by
 unfold kY at H
 refine bG Tryz.func29 rfl Tryz.ntmps29 rfl (fun β=>?_)
 revert H;refine B3 fun o1 H Hr1=>?_
 refine aR (ι:=Unit) (fun i=>o1=Sum.inl ()) (fun i=>[]) (fun i=>[]) ?_ ?_
 refine Z6 ?_
 refine Tl (ι:=Nat × Int) (fun i=>pJ a0 a1 i.1 i.2=_) (fun i=>i.1) (fun i=>[(1,fI a1),(7,fSl tI a0),(8,fI (a0.length:Int)),(9,fI i.2)]) (fun i=>[]) (AA,0) H ?_
 clear H;rintro⟨k1,x2⟩ H
 replace H:pJ a0 a1 k1 x2=_:=H
 try dsimp only
 obtain _ | k1:=k1
 rw [pJ]at H;cases H
 rw [pJ]at H
 refine Z3 ?_
 refine aI ?_
 revert H;refine is (fun c1 H=>?_) fun c1 H=>?_
 refine Z3 ?_
 refine aI ?_
 revert H;refine B3 fun y1 h1 H=>?_
 revert H;refine I10 (fun c2 H=>?_) fun c2 H=>?_
 revert H;refine B11 fun r1 H e1=>?_
 cases e1;cases Hr1
 cases H
 exact To
 revert H;refine B5 fun z1 h2 H=>?_
 refine Z3 ?_
 exact Tm ((k1,z1)) ⟨H,ls⟩
 refine Z6 ?_
 exact Tm (()) (ij H)
 clear H;intro i hi;subst o1;have H:=Hr1;clear Hr1;try dsimp only at H
 try dsimp only
 refine Z4 ?_
 cases H
 exact To
def oW (AA:Nat) (a0:List Int) (a1:List Int):Nat->(List Int)->Int->Option (List Int)
| 0,_,_=>none
| k+1,x4,x5=>
 if x5<(a1.length:Int)then
  (idx a1 x5).bind fun y1=>
  (kY AA a0 y1).bind fun y2=>
  (dG (x4++[y2])).bind fun z1=>
  (chk (x5+1)).bind fun z2=>
  oW AA a0 a1 k z1 z2
 else
  some x4
def wY (AA:Nat) (a0:List Int) (a1:List Int):Option (List Int):=
 (oW AA a0 a1 AA [] 0).bind fun x1=>
 some x1
theorem aKM (AA:Nat)  (a0:List Int) (a1:List Int) (r:List Int) (H:wY AA a0 a1=some r):FnS Tryz.prog 28 [fSl tI a0,fSl tI a1] [] (fSl tI r) (fun _=>[]):=by
 unfold wY at H
 refine bG Tryz.func28 rfl Tryz.ntmps28 rfl (fun β=>?_)
 revert H;refine B6 fun o1 H Hr1=>?_
 refine aR (ι:=List Int × Value) (fun i=>o1=i.1) (fun i=>[(5,fEq i.2)]) (fun i=>[aC i.2 3 tI i.1]) ?_ ?_
 refine Z6 ?_
 refine iW tI 3 ?_
 refine Tl (ι:=Nat × List Int × Int × Value) (fun i=>oW AA a0 a1 i.1 i.2.1 i.2.2.1=_) (fun i=>i.1) (fun i=>[(0,fSl tI a0),(5,fEq i.2.2.2),(8,fSl tI a1),(9,fI (a1.length:Int)),(10,fI i.2.2.1)]) (fun i=>[aC i.2.2.2 3 tI i.2.1]) (AA,[],0,(.slice none 0 0)) H ?_
 clear H;rintro⟨k1,x4,x5,v3⟩ H
 replace H:oW AA a0 a1 k1 x4 x5=_:=H
 try dsimp only
 obtain _ | k1:=k1
 rw [oW]at H;cases H
 rw [oW]at H
 refine aJ 0 rfl (fun hc_v3=>?_)
 refine Z3 ?_
 refine aI ?_
 revert H;refine is (fun c1 H=>?_) fun c1 H=>?_
 refine Z3 ?_
 refine aI ?_
 revert H;refine B2 fun y1 h1 H=>?_
 revert H;refine B8 fun y2 h2 H=>?_
 refine Tc (aAw _ _ _ _ h2) ?_
 refine Tn (gR (t:=tI) (xs:=[y2]) rfl (et rfl) (cM.cons rfl (has rfl) (cJ (aH a2g)) cM.nil) rfl rfl rfl) fun b1=>?_
 generalize (Value.slice (some ⟨b1,0,none⟩) _ _)=v4
 refine aJ 0 rfl (fun hc_v4=>?_)
 revert H;refine bs fun z1 h3 H=>?_
 refine lL a2g rfl rfl rfl (has rfl) (has rfl) (et rfl) rfl h3 (fun v5=>?_)
 refine aJ 0 rfl (fun hc_v5=>?_)
 revert H;refine B5 fun z2 h4 H=>?_
 refine Z3 ?_
 exact Tm ((k1,z1,z2,v5)) ⟨H,ls⟩
 refine Z6 ?_
 exact Tm ((x4,v3)) (ij H)
 clear H;intro i hi;obtain⟨x1,v1⟩:=i;subst o1;have H:=Hr1;clear Hr1;try dsimp only at H
 try dsimp only
 refine aJ 0 rfl (fun hc_v1=>?_)
 refine Z5 ?_
 refine cE (φ:=fSl tI x1) (v:=v1) [5,21,4] dI fz ?_
 refine cD ?_
 cases H
 exact To
open Go.SX Go.SW Go.Dt
def pX (rec_flat_flatExp:AS->(List Int)->Option (AS)) (a0:AS) (a1:List Int):Nat->Int->(List AS)->Option (List AS)
| 0,_,_=>none
| k+1,x5,x6=>
 if x5<(a0.AM.length:Int)then
  (idx a0.AM x5).bind fun y2=>
  (rec_flat_flatExp (⟨y2.Op,y2.N,y2.AM⟩:AS) a1).bind fun y3=>
  (dG (x6++[y3])).bind fun z1=>
  (chk (x5+1)).bind fun z2=>
  pX rec_flat_flatExp a0 a1 k z2 z1
 else
  some x6
def nB:Nat->AS->(List Int)->Option (AS)
| 0,_,_=>none
| AA+1,a0,a1=>
 (if a0.Op=2 then
  (kY AA a1 a0.N).bind fun y1=>
  some y1
 else
  some a0.N).bind fun x1=>
 (pX (nB AA) a0 a1 AA 0 []).bind fun x2=>
 some (⟨a0.Op,x1,x2⟩:AS)
theorem aIT:∀ (AA:Nat),(∀  (a0:AS) (a1:List Int) (r:AS) (H:nB AA a0 a1=some r),FnS Tryz.prog 30 [fSt aO a0,fSl tI a1] [] (fSt aO r) (fun _=>[])):=by
 intro AA
 induction AA with
 | zero=>exact fun a0 a1 r H=>(by rw [nB]at H;cases H)
 | succ AA ih=>
 have ih_flat_flatExp:=@ih
 refine ?_
 intro a0 a1 r H
 rw [nB]at H
 refine bG Tryz.func30 rfl Tryz.ntmps30 rfl (fun β=>?_)
 refine Z1 ?_
 refine Tn (bU rfl hh bS) fun b1=>?_
 refine Tn (bN rfl iP rfl) fun b2=>?_
 refine Z6 ?_
 refine Yy (gP (ψs:=[fI a0.Op,fI a0.N,fEq (.slice none 0 0)]) rfl aFL rfl (bQ.cons (has rfl) (cJ (aH a2g)) (bQ.cons (has rfl) (cJ (aH a2g)) bQ.nil)) rfl) ?_
 refine Tn (bN rfl iP rfl) fun b3=>?_
 refine cG (φs':=[fI a0.Op,fI a0.N,fEq (.slice none 0 0)]) a2g rfl rfl (has rfl) (has rfl) (aF (aH a2g) (aF (aH a2g) (aF (aH a2g) bF))) (sz rfl) rfl rfl rfl ?_
 revert H;refine B1 fun o1 H Hr1=>?_
 refine aR (ι:=Int) (fun i=>o1=i) (fun i=>[(1,fSl tI a1),(2,fEq (ptr b1)),(4,fEq (ptr b2)),(5,fEq (ptr b3))]) (fun i=>[aA b3 71 [fI a0.Op,fI i,fEq (.slice none 0 0)],aA b2 71 [fI 0,fI 0,fEq (.slice none 0 0)],aA b1 71 [fI a0.Op,fI a0.N,cU a0.AM]]) ?_ ?_
 revert H;refine I5 (fun c1 H=>?_) fun c1 H=>?_
 revert H;refine B5 fun y1 h1 H=>?_
 refine Tc (aAw _ _ _ _ h1) ?_
 refine Z1 ?_
 refine cC (φs':=[fI a0.Op,fI y1,fEq (.slice none 0 0)]) a2g rfl rfl (has rfl) (has rfl) (aH a2g) (sz rfl) rfl rfl ?_
 refine Z1 ?_
 exact Tm (y1) (ij H)
 refine Z3 ?_
 exact Tm (a0.N) (ij H)
 clear H;intro x1 hi;subst o1;have H:=Hr1;clear Hr1;try dsimp only at H
 try dsimp only
 revert H;refine bs fun o2 H Hr2=>?_
 refine aR (ι:=List AS × Value) (fun i=>o2=i.1) (fun i=>[(4,fEq (ptr b2)),(5,fEq (ptr b3))]) (fun i=>[aA b3 71 [fI a0.Op,fI x1,fEq i.2],aA b2 71 [fI 0,fI 0,fEq (.slice none 0 0)],aA b1 71 [fI a0.Op,fI a0.N,cU a0.AM],aC i.2 71 aO i.1]) ?_ ?_
 refine Z2 ?_
 refine Yo 2 rfl (bB rfl hh (sc rfl) rfl (eS eG)) ?_
 refine Z4 ?_
 refine iW aO 71 ?_
 refine aE [1,2,3,0] (by decide) ?_
 refine Tl (ι:=Nat × Int × List AS × Value) (fun i=>pX (nB AA) a0 a1 i.1 i.2.1 i.2.2.1=_) (fun i=>i.1) (fun i=>[(1,fSl tI a1),(4,fEq (ptr b2)),(5,fEq (ptr b3)),(22,fSl aO a0.AM),(23,fI (a0.AM.length:Int)),(24,fI i.2.1)]) (fun i=>[aA b3 71 [fI a0.Op,fI x1,fEq i.2.2.2],aA b2 71 [fI 0,fI 0,fEq (.slice none 0 0)],aA b1 71 [fI a0.Op,fI a0.N,cU a0.AM],aC i.2.2.2 71 aO i.2.2.1]) (AA,0,[],(.slice none 0 0)) H ?_
 clear H;rintro⟨k1,x5,x6,v3⟩ H
 replace H:pX (nB AA) a0 a1 k1 x5 x6=_:=H
 try dsimp only
 obtain _ | k1:=k1
 rw [pX]at H;cases H
 rw [pX]at H
 refine aJ 3 rfl (fun hc_v3=>?_)
 refine Z3 ?_
 refine aI ?_
 revert H;refine is (fun c2 H=>?_) fun c2 H=>?_
 refine Z3 ?_
 refine aI ?_
 revert H;refine B2 fun y2 h2 H=>?_
 refine Z2 ?_
 refine Tn (bN rfl iP rfl) fun b4=>?_
 refine cG (φs':=[fI y2.Op,fI y2.N,cU y2.AM]) a2g rfl rfl (has rfl) (has rfl) (aF (aH a2g) (aF (aH a2g) (aF (lE) bF))) (sz rfl) rfl rfl rfl ?_
 revert H;refine B1 fun y3 h3 H=>?_
 apply bL (ods:=[_,_,_,_,_,_]) 6 0 5 bK rfl rfl rfl
 refine ND ?_
 refine M4 ?_
 intros
 refine Nc (ih_flat_flatExp _ _ _ h3) fun _=>?_
 refine Mf (φ:=fSl aO [y3]) (gR (t:=aO) (xs:=[y3]) rfl (et rfl) (cM.cons rfl (has rfl) bS cM.nil) rfl rfl rfl) (fun b=>dI) fun _=>?_
 revert H;refine B1 fun z1 h4 H=>?_
 refine aZ ?_
 refine sQ (ys:=[y3]) a2g rfl rfl rfl (has rfl) (has rfl) (et rfl) rfl h4 (fun v5=>?_)
 refine aJ 0 rfl (fun hc_v5=>?_)
 refine Z1 ?_
 refine dK ?_
 refine cC (φs':=[fI a0.Op,fI x1,fEq v5]) a2g rfl rfl (has rfl) (has rfl) (aH hc_v5) (sz rfl) rfl rfl ?_
 revert H;refine B4 fun z2 h5 H=>?_
 refine Z3 ?_
 refine aE [0,3,4,1] (by decide) ?_
 exact Tm ((k1,z2,z1,v5)) ⟨H,ls⟩
 exact fk
 kernel_rfl
 refine Z6 ?_
 exact Tm ((x6,v3)) (ij H)
 clear H;intro i hi;obtain⟨x2,v1⟩:=i;subst o2;have H:=Hr2;clear Hr2;try dsimp only at H
 try dsimp only
 refine aJ 3 rfl (fun hc_v1=>?_)
 refine Z2 ?_
 refine cK ?_
 refine cG (φs':=[fI a0.Op,fI x1,fEq v1]) a2g rfl rfl (has rfl) (has rfl) (aF (aH a2g) (aF (aH a2g) (aF (aH hc_v1) bF))) (sz rfl) rfl rfl rfl ?_
 refine Z2 ?_
 refine cY ?_
 refine cE (φ:=fSl aO x2) (v:=v1) [] dI (fun _ h=>nomatch h) ?_
 refine dK ?_
 refine cK ?_
 refine eY (φs':=[fI a0.Op,fI x1,fSl aO x2]) (i:=2) rfl rfl ?_
 refine dK ?_
 refine cK ?_
 refine eY (φs':=[fI a0.Op,fI x1,fSl aO x2]) (i:=2) rfl rfl ?_
 refine rI 37 (ψ:=eI [fI a0.Op,fI x1,fEq v1]) rfl (qP (i:=2) (φs:=[fI a0.Op,fI x1,fEq v1]) (φs':=[fI a0.Op,fI x1,fSl aO x2]) rfl rfl) ?_
 refine cD ?_
 cases H
 refine aE [0] (by decide) ?_
 exact T_outCS rfl (ag rfl) rfl (bP rfl) (sE (aP.cons Ent.rfl (aP.cons Ent.rfl (aP.cons (zV .rfl) aP.nil)))) rfl
def mG (a0:Int) (a1:Int):Nat->(List Int)->Int->Option (List Int)
| 0,_,_=>none
| k+1,x4,x5=>
 if x5<a1 then
  (chk (a0+x5)).bind fun z1=>
  (dG (x4++[z1])).bind fun z2=>
  (chk (x5+1)).bind fun z3=>
  mG a0 a1 k z2 z3
 else
  some x4
def rA (AA:Nat) (a0:Int) (a1:Int):Option (List Int):=
 (mG a0 a1 AA [] 0).bind fun x1=>
 some x1
theorem aAW (AA:Nat)  (a0:Int) (a1:Int) (r:List Int) (H:rA AA a0 a1=some r):FnS Tryz.prog 31 [fI a0,fI a1] [] (fSl tI r) (fun _=>[]):=by
 unfold rA at H
 refine bG Tryz.func31 rfl Tryz.ntmps31 rfl (fun β=>?_)
 revert H;refine B6 fun o1 H Hr1=>?_
 refine aR (ι:=List Int × Value) (fun i=>o1=i.1) (fun i=>[(5,fEq i.2)]) (fun i=>[aC i.2 3 tI i.1]) ?_ ?_
 refine Z5 ?_
 refine iW tI 3 ?_
 refine Tl (ι:=Nat × List Int × Int × Value) (fun i=>mG a0 a1 i.1 i.2.1 i.2.2.1=_) (fun i=>i.1) (fun i=>[(0,fI a0),(5,fEq i.2.2.2),(7,fI a1),(8,fI i.2.2.1)]) (fun i=>[aC i.2.2.2 3 tI i.2.1]) (AA,[],0,(.slice none 0 0)) H ?_
 clear H;rintro⟨k1,x4,x5,v3⟩ H
 replace H:mG a0 a1 k1 x4 x5=_:=H
 try dsimp only
 obtain _ | k1:=k1
 rw [mG]at H;cases H
 rw [mG]at H
 refine aJ 0 rfl (fun hc_v3=>?_)
 refine Z3 ?_
 refine aI ?_
 revert H;refine is (fun c1 H=>?_) fun c1 H=>?_
 refine Z3 ?_
 refine aI ?_
 revert H;refine B9 fun z1 h1 H=>?_
 refine Z1 ?_
 refine Tn (gR (t:=tI) (xs:=[z1]) rfl (et rfl) (cM.cons rfl (has rfl) (cJ (aH a2g)) cM.nil) rfl rfl rfl) fun b1=>?_
 generalize (Value.slice (some ⟨b1,0,none⟩) _ _)=v4
 refine aJ 0 rfl (fun hc_v4=>?_)
 revert H;refine bs fun z2 h2 H=>?_
 refine lL a2g rfl rfl rfl (has rfl) (has rfl) (et rfl) rfl h2 (fun v5=>?_)
 refine aJ 0 rfl (fun hc_v5=>?_)
 revert H;refine B5 fun z3 h3 H=>?_
 refine Z3 ?_
 exact Tm ((k1,z2,z3,v5)) ⟨H,ls⟩
 refine Z6 ?_
 exact Tm ((x4,v3)) (ij H)
 clear H;intro i hi;obtain⟨x1,v1⟩:=i;subst o1;have H:=Hr1;clear Hr1;try dsimp only at H
 try dsimp only
 refine aJ 0 rfl (fun hc_v1=>?_)
 refine Z5 ?_
 refine cE (φ:=fSl tI x1) (v:=v1) [5,18,4] dI fz ?_
 refine cD ?_
 cases H
 exact To
def mE (a0:List Int) (a1:List Int):Option (List Int):=
 (gQ a0).bind fun y1=>
 (dG (y1++a1)).bind fun z1=>
 some z1
theorem vK  (a0:List Int) (a1:List Int) (r:List Int) (H:mE a0 a1=some r):FnS Tryz.prog 32 [fSl tI a0,fSl tI a1] [] (fSl tI r) (fun _=>[]):=by
 unfold mE at H
 refine bG Tryz.func32 rfl Tryz.ntmps32 rfl (fun β=>?_)
 revert H;refine B5 fun y1 h1 H=>?_
 refine T_callO a2g rfl rfl rfl (has rfl) (aN.cons (has rfl) aN.nil) rfl (cb rfl) (aHv a0 y1 h1) (Δi:=[]) rfl (fun v1=>?_)
 dsimp only [List.append,_root_.List.cons_append,_root_.List.nil_append]
 refine aJ 0 rfl (fun hc_v1=>?_)
 revert H;refine B1 fun z1 h2 H=>?_
 refine sQ (ys:=a1) a2g rfl rfl rfl (has rfl) (has rfl) (et rfl) rfl h2 (fun v2=>?_)
 refine aJ 0 rfl (fun hc_v2=>?_)
 refine Z3 ?_
 refine cE (φ:=fSl tI z1) (v:=v2) [4,8] dI fz ?_
 refine cD ?_
 cases H
 exact To
def kW (a0:AO) (a1:Am):Nat->Int->Int->Option ((Int) ⊕ (Int))
| 0,_,_=>none
| k+1,x4,x5=>
 if x5<(a1.AY.length:Int)then
  (idx a1.AY x5).bind fun y1=>
  if y1<0 then
   (some (-1)).bind fun r=>some (Sum.inr r)
  else
   if (a0.AN.length:Int)<=y1 then
    (some (-1)).bind fun r=>some (Sum.inr r)
   else
    (idx a0.AN y1).bind fun y2=>
    if y2.Ap<0 then
     (some (-1)).bind fun r=>some (Sum.inr r)
    else
     (idx a0.AN y1).bind fun y3=>
     if 3<y3.Ap then
      (some (-1)).bind fun r=>some (Sum.inr r)
     else
      (idx a0.AN y1).bind fun y4=>
      (chk (x4+y4.Ap)).bind fun z1=>
      (chk (x5+1)).bind fun z2=>
      kW a0 a1 k z1 z2
 else
  some (Sum.inl x4)
def nV (AA:Nat) (a0:AO) (a1:Am):Option (Int):=
 (kW a0 a1 AA 0 0).bind fun o=>match o with
 | Sum.inr r=>some r
 | Sum.inl x1=>
 some x1
theorem aFT (AA:Nat)  (a0:AO) (a1:Am) (r:Int) (H:nV AA a0 a1=some r):FnS Tryz.prog 33 [fSt aB a0,fSt aY a1] [] (fI r) (fun _=>[]):=by
 unfold nV at H
 refine bG Tryz.func33 rfl Tryz.ntmps33 rfl (fun β=>?_)
 refine Z1 ?_
 refine Tn (bU rfl hh bS) fun b1=>?_
 refine Tn (bU rfl hh bS) fun b2=>?_
 revert H;refine B5 fun o1 H Hr1=>?_
 refine aR (ι:=Int) (fun i=>o1=Sum.inl i) (fun i=>[(5,fI i)]) (fun i=>[aA b2 81 [fI a1.At,fSl tI a1.AY,fI a1.AV],aA b1 77 [fSl aW a0.AN,fSl bD a0.AR,fSl aY a0.AP]]) ?_ ?_
 refine Z7 ?_
 refine Tl (ι:=Nat × Int × Int) (fun i=>kW a0 a1 i.1 i.2.1 i.2.2=_) (fun i=>i.1) (fun i=>[(2,fEq (ptr b1)),(5,fI i.2.1),(9,fSl tI a1.AY),(10,fI (a1.AY.length:Int)),(11,fI i.2.2)]) (fun i=>[aA b2 81 [fI a1.At,fSl tI a1.AY,fI a1.AV],aA b1 77 [fSl aW a0.AN,fSl bD a0.AR,fSl aY a0.AP]]) (AA,0,0) H ?_
 clear H;rintro⟨k1,x4,x5⟩ H
 replace H:kW a0 a1 k1 x4 x5=_:=H
 try dsimp only
 obtain _ | k1:=k1
 rw [kW]at H;cases H
 rw [kW]at H
 refine Z3 ?_
 refine aI ?_
 revert H;refine is (fun c1 H=>?_) fun c1 H=>?_
 refine Z3 ?_
 refine aI ?_
 revert H;refine B2 fun y1 h1 H=>?_
 refine Z4 ?_
 refine aI ?_
 revert H;refine I4 (fun c2 H=>?_) fun c2 H=>?_
 refine Z12 ?_
 refine Z12 ?_
 revert H;refine B11 fun r1 H e1=>?_
 cases e1;cases Hr1
 cases H
 refine aE [] (by decide) ?_
 exact To
 revert H;refine I7 (fun c3 H=>?_) fun c3 H=>?_
 refine Z12 ?_
 refine Z12 ?_
 revert H;refine B4 fun r2 H e2=>?_
 cases e2;cases Hr1
 cases H
 refine aE [] (by decide) ?_
 exact To
 revert H;refine B3 fun y2 h2 H=>?_
 revert H;refine I6 (fun c4 H=>?_) fun c4 H=>?_
 refine Z12 ?_
 revert H;refine B7 fun r3 H e3=>?_
 cases e3;cases Hr1
 cases H
 refine aE [] (by decide) ?_
 exact To
 revert H;refine B3 fun y3 h3 H=>?_
 revert H;refine I6 (fun c5 H=>?_) fun c5 H=>?_
 revert H;refine B10 fun r4 H e4=>?_
 cases e4;cases Hr1
 cases H
 refine aE [] (by decide) ?_
 exact To
 revert H;refine B8 fun y4 h4 H=>?_
 revert H;refine B3 fun z1 h5 H=>?_
 revert H;refine B6 fun z2 h6 H=>?_
 refine Z3 ?_
 exact Tm ((k1,z1,z2)) ⟨H,ls⟩
 refine Z6 ?_
 exact Tm (x4) (ij H)
 clear H;intro x1 hi;subst o1;have H:=Hr1;clear Hr1;try dsimp only at H
 try dsimp only
 refine Z5 ?_
 cases H
 refine aE [] (by decide) ?_
 exact To
open Go.SX Go.SW Go.Dt
def oL (AA:Nat) (a1:List Int) (y1:AW):Nat->Int->(List AS)->Option (List AS)
| 0,_,_=>none
| k+1,x8,x9=>
 if x8<(y1.AU.length:Int)then
  (idx y1.AU x8).bind fun y8=>
  (nB AA (⟨y8.Op,y8.N,y8.AM⟩:AS) a1).bind fun y9=>
  (dG (x9++[y9])).bind fun z1=>
  (chk (x8+1)).bind fun z2=>
  oL AA a1 y1 k z2 z1
 else
  some x9
def oY (AA:Nat) (rec_flat_Flat_1:Int->(List Int)->AI->(aL Int (List Int))->AH->(List Int)->Option (AH)) (a0:Int) (w0:AI) (w1:aL Int (List Int)) (w3:List Int) (y11:AO) (y13:List Int) (y14:List Int):Nat->Int->(List ByteArray)->(List Int)->(List Aj)->(List AO)->Int->Option (List ByteArray × List Int × List Aj × List AO × Int)
| 0,_,_,_,_,_,_=>none
| k+1,x27,x28,x29,x30,x31,x32=>
 if x27<(y11.AP.length:Int)then
  (idx y11.AP x27).bind fun y15=>
  (idx w3 a0).bind fun y16=>
  (chk (y16+(y13.length:Int))).bind fun z4=>
  (nV AA (⟨y11.AN,y11.AR,y11.AP⟩:AO) (⟨y15.At,y15.AY,y15.AV⟩:Am)).bind fun y17=>
  (rA AA z4 y17).bind fun y18=>
  (mE y14 y18).bind fun y19=>
  (rec_flat_Flat_1 y15.AV y19 w0 w1 (⟨x28,x29,x30,x31,x32⟩:AH) w3).bind fun y20=>
  (chk (x27+1)).bind fun z5=>
  oY AA rec_flat_Flat_1 a0 w0 w1 w3 y11 y13 y14 k z5 y20.AF y20.AQ y20.AD y20.AE y20.AG
 else
  some (x28,x29,x30,x31,x32)
def qH (rec_flat_Flat_1:Int->(List Int)->AI->(aL Int (List Int))->AH->(List Int)->Option (AH)) (w0:AI) (w1:aL Int (List Int)) (w3:List Int) (y11:AO) (y14:List Int):Nat->Int->(List ByteArray)->(List Int)->(List Aj)->(List AO)->Int->Option (List ByteArray × List Int × List Aj × List AO × Int)
| 0,_,_,_,_,_,_=>none
| k+1,x44,x45,x46,x47,x48,x49=>
 if x44<(y11.AR.length:Int)then
  (idx y11.AR x44).bind fun y21=>
  (rec_flat_Flat_1 y21.AV y14 w0 w1 (⟨x45,x46,x47,x48,x49⟩:AH) w3).bind fun y22=>
  (chk (x44+1)).bind fun z6=>
  qH rec_flat_Flat_1 w0 w1 w3 y11 y14 k z6 y22.AF y22.AQ y22.AD y22.AE y22.AG
 else
  some (x45,x46,x47,x48,x49)
def nY (rec_flat_Flat_1:Int->(List Int)->AI->(aL Int (List Int))->AH->(List Int)->Option (AH)) (w0:AI) (w1:aL Int (List Int)) (w3:List Int) (y1:AW) (x10:List Int):Nat->Int->(List ByteArray)->(List Int)->(List Aj)->(List AO)->Int->Option (AH)
| 0,_,_,_,_,_,_=>none
| k+1,x56,x57,x58,x59,x60,x61=>
 if x56<(y1.AM.length:Int)then
  (idx y1.AM x56).bind fun y24=>
  (rec_flat_Flat_1 y24 x10 w0 w1 (⟨x57,x58,x59,x60,x61⟩:AH) w3).bind fun y25=>
  (chk (x56+1)).bind fun z7=>
  nY rec_flat_Flat_1 w0 w1 w3 y1 x10 k z7 y25.AF y25.AQ y25.AD y25.AE y25.AG
 else
  some (⟨x57,x58,x59,x60,x61⟩:AH)
def fU:Nat->Int->(List Int)->AI->(aL Int (List Int))->AH->(List Int)->Option (AH)
| 0,_,_,_,_,_,_=>none
| AA+1,a0,a1,w0,w1,w2,w3=>
 (idx w0.AD a0).bind fun y1=>
 (gQ y1.AM).bind fun y2=>
 ((qS y1.Op).bind fun y3=>
 bif y3 then
  (wY AA a1 ((w1.get a0).getD [])).bind fun y4=>
  some y4
 else
  some []).bind fun x1=>
 ((if y1.Op=6 then
  some (decide (y1.Op=6))
 else
  some (decide (y1.Op=8))).bind fun x4=>
 bif x4 then
  (gQ ((w1.get a0).getD [])).bind fun y5=>
  (kY AA y5 y1.N).bind fun y6=>
  some (y5,y6)
 else
  if y1.Op=2 then
   (kY AA a1 y1.N).bind fun y7=>
   some (a1,y7)
  else
   some (a1,y1.N)).bind fun (x2,x3)=>
 (oL AA a1 y1 AA 0 []).bind fun x5=>
 (idx w2.AD a0).bind fun y10=>
 (if y1.Op=4 then
  (idx w0.AE y1.N).bind fun y11=>
  (idx w3 a0).bind fun y12=>
  (chk ((y11.AN.length:Int)+(y11.AR.length:Int))).bind fun z3=>
  (rA AA y12 z3).bind fun y13=>
  (mE ((w1.get a0).getD []) y13).bind fun y14=>
  (oY AA (fU AA) a0 w0 w1 w3 y11 y13 y14 AA 0 w2.AF w2.AQ (w2.AD.set a0.toNat (⟨y1.Op,x3,x5,y2,x1⟩:Aj)) w2.AE w2.AG).bind fun (x16,x17,x18,x19,x20)=>
  (qH (fU AA) w0 w1 w3 y11 y14 AA 0 x16 x17 x18 x19 x20).bind fun (x33,x34,x35,x36,x37)=>
  (mE a1 y13).bind fun y23=>
  some (y23,x33,x34,x35,x36,x37)
 else
  some (x2,w2.AF,w2.AQ,w2.AD.set a0.toNat (⟨y1.Op,x3,x5,y2,x1⟩:Aj),w2.AE,w2.AG)).bind fun (x10,x11,x12,x13,x14,x15)=>
 nY (fU AA) w0 w1 w3 y1 x10 AA 0 x11 x12 x13 x14 x15
theorem aK3:∀ (AA:Nat),(∀ (q2:Nat) (q4:Nat) (a0:Int) (a1:List Int) (w0:AI) (w1:aL Int (List Int)) (w2:AH) (w3:List Int) (r:AH) (H:fU AA a0 a1 w0 w1 w2 w3=some r),FnS Tryz.prog 26 [fI a0,fSl tI a1,aG cN w0,aG (eO bX (fun y=>fSl tI y)) w1,fEq (.pointer (some ⟨q2,0,none⟩)),aG (tSl tI) w3,fEq (.pointer (some ⟨q4,0,none⟩))] [aAM q2 w2,aA q4 63 [cB 26 [aG cN w0,aG (eO bX (fun y=>fSl tI y)) w1,fEq (.pointer (some ⟨q2,0,none⟩)),aG (tSl tI) w3,fEq (.pointer (some ⟨q4,0,none⟩))]]] (dF []) (fun _=>[aAM q2 r,aA q4 63 [cB 26 [aG cN w0,aG (eO bX (fun y=>fSl tI y)) w1,fEq (.pointer (some ⟨q2,0,none⟩)),aG (tSl tI) w3,fEq (.pointer (some ⟨q4,0,none⟩))]]])):=by
 intro AA
 induction AA with
 | zero=>exact fun q2 q4 a0 a1 w0 w1 w2 w3 r H=>(by rw [fU]at H;cases H)
 | succ AA ih=>
 have ih_flat_Flat_1:=@ih
 refine ?_
 intro q2 q4 a0 a1 w0 w1 w2 w3 r H
 rw [fU]at H
 refine bG Tryz.func26 rfl Tryz.ntmps26 rfl (fun β=>?_)
 refine aAL (fun v1=>?_)
 refine aJ 1 rfl (fun hc_v1=>?_)
 revert H;refine B4 fun y1 h1 H=>?_
 refine Z2 ?_
 refine Tn (bN rfl rP rfl) fun b1=>?_
 refine cG (φs':=[fI y1.Op,fI y1.N,fSl aO y1.AU,fSl tI y1.AM]) a2g rfl rfl (has rfl) (has rfl) (aF (aH a2g) (aF (aH a2g) (aF (aS) (aF (aS) bF)))) (sz rfl) rfl rfl rfl ?_
 refine Z1 ?_
 refine aI ?_
 revert H;refine bs fun y2 h2 H=>?_
 apply bL (ods:=[_,_,_,_,_,_,_,_,_,_]) 10 1 5 bK rfl rfl rfl
 refine ND ?_
 refine M6 ?_
 intros
 refine wV (od:=odC [] true (fSl tI y2) []) (Φ:=fSl tI y2) rfl (fun _=>rfl) a2g rfl rfl (has rfl) (aN.cons (has rfl) aN.nil) rfl (cb rfl) (vD y1.AM y2 h2) (fun _=>?_)
 refine My (gP (ψs:=[fI y1.Op,fI y1.N,fEq (.slice none 0 0),fSl tI y2,fEq (.slice none 0 0)]) rfl ty_bu_54 rfl (bQ.cons (has rfl) (cJ (aH a2g)) (bQ.cons (has rfl) (cJ (aH a2g)) (bQ.cons (has rfl) (cJ (aS)) bQ.nil))) rfl) fun _=>?_
 refine Mn 4 (fun b2=>ptr b2) (fun b2=>aA b2 54 [fI 0,fI 0,fEq (.slice none 0 0),fEq (.slice none 0 0),fEq (.slice none 0 0)]) rfl (bN rfl tR rfl) (fun b2 u1=>?_)
 refine pA (od:=od1 8 [4] true (fun b2 _=>dX) (fun b2 _=>[aA b2 54 [fI y1.Op,fI y1.N,fEq (.slice none 0 0),fSl tI y2,fEq (.slice none 0 0)]])) (p:=4) (φs':=[fI y1.Op,fI y1.N,fEq (.slice none 0 0),fSl tI y2,fEq (.slice none 0 0)]) rfl (fun _=>rfl) (fun _=>rfl) a2g rfl rfl rfl (has rfl) (has rfl) (aF (aH a2g) (aF (aH a2g) (aF (aH a2g) (aF (aS) (aF (aH a2g) bF))))) (sz rfl) rfl rfl rfl (fun _=>?_)
 revert H;refine B6 fun o1 H Hr1=>?_
 refine aR (ι:=List Int) (fun i=>o1=i) (fun i=>[(0,fI a0),(1,fSl tI a1),(2,aG cN w0),(3,aG (eO bX (fun y=>fSl tI y)) w1),(4,fEq (ptr q2)),(5,aG (tSl tI) w3),(6,fEq (ptr q4)),(9,fEq (ptr b1)),(10,fEq (ptr b2)),(11,fSl tI a1)]) (fun i=>[aA b2 54 [fI y1.Op,fI y1.N,fEq (.slice none 0 0),fSl tI y2,fSl tI i],aA b1 65 [fI y1.Op,fI y1.N,fSl aO y1.AU,fSl tI y1.AM],aA q2 30 [fSl aD w2.AF,fSl tI w2.AQ,fEq v1,fSl aB w2.AE,fI w2.AG],aA q4 63 [cB 26 [aG cN w0,aG (eO bX (fun y=>fSl tI y)) w1,fEq (ptr q2),aG (tSl tI) w3,fEq (ptr q4)]],aC v1 54 bM w2.AD]) ?_ ?_
 revert H;refine B3 fun y3 h3 H=>?_
 refine Tc (aDS _ _ h3) ?_
 refine Z1 ?_
 revert H;refine cs (fun c1 H=>?_) fun c1 H=>?_
 refine Z5 ?_
 refine Yy (vU (zα:=[]) (k:=a0) rfl hh hh rfl sG cW) ?_
 revert H;refine bs fun y4 h4 H=>?_
 refine Tc (aKM _ _ _ _ h4) ?_
 refine Z1 ?_
 refine aZ ?_
 refine cC (φs':=[fI y1.Op,fI y1.N,fEq (.slice none 0 0),fSl tI y2,fSl tI y4]) a2g rfl rfl (has rfl) (has rfl) (aS) (sz rfl) rfl rfl ?_
 refine Z1 ?_
 refine aE [0,1,2,4,3] (by decide) ?_
 exact Tm (y4) (ij H)
 refine Z3 ?_
 refine aZ ?_
 refine T_blkE (ψs:=[fI y1.Op,fI y1.N,fEq (.slice none 0 0),fSl tI y2,fSl tI []]) (aP.cons Ent.rfl (aP.cons Ent.rfl (aP.cons Ent.rfl (aP.cons Ent.rfl (aP.cons cW aP.nil))))) ?_
 refine aE [0,1,2,4,3] (by decide) ?_
 exact Tm ([]) (ij H)
 clear H;intro x1 hi;subst o1;have H:=Hr1;clear Hr1;try dsimp only at H
 try dsimp only
 revert H;refine bs fun o2 H Hr2=>?_
 refine aR (ι:=List Int × Int) (fun i=>o2=(i.1,i.2)) (fun i=>[(0,fI a0),(1,fSl tI a1),(2,aG cN w0),(3,aG (eO bX (fun y=>fSl tI y)) w1),(4,fEq (ptr q2)),(5,aG (tSl tI) w3),(6,fEq (ptr q4)),(9,fEq (ptr b1)),(10,fEq (ptr b2)),(11,fSl tI i.1)]) (fun i=>[aA b2 54 [fI y1.Op,fI i.2,fEq (.slice none 0 0),fSl tI y2,fSl tI x1],aA b1 65 [fI y1.Op,fI y1.N,fSl aO y1.AU,fSl tI y1.AM],aA q2 30 [fSl aD w2.AF,fSl tI w2.AQ,fEq v1,fSl aB w2.AE,fI w2.AG],aA q4 63 [cB 26 [aG cN w0,aG (eO bX (fun y=>fSl tI y)) w1,fEq (ptr q2),aG (tSl tI) w3,fEq (ptr q4)]],aC v1 54 bM w2.AD]) ?_ ?_
 revert H;refine B5 fun o3 H Hr3=>?_
 refine aR (ι:=Bool) (fun i=>o3=i) (fun i=>[(0,fI a0),(1,fSl tI a1),(2,aG cN w0),(3,aG (eO bX (fun y=>fSl tI y)) w1),(4,fEq (ptr q2)),(5,aG (tSl tI) w3),(6,fEq (ptr q4)),(9,fEq (ptr b1)),(10,fEq (ptr b2)),(11,fSl tI a1),(47,fI y1.Op),(48,aK i)]) (fun i=>[aA b2 54 [fI y1.Op,fI y1.N,fEq (.slice none 0 0),fSl tI y2,fSl tI x1],aA b1 65 [fI y1.Op,fI y1.N,fSl aO y1.AU,fSl tI y1.AM],aA q2 30 [fSl aD w2.AF,fSl tI w2.AQ,fEq v1,fSl aB w2.AE,fI w2.AG],aA q4 63 [cB 26 [aG cN w0,aG (eO bX (fun y=>fSl tI y)) w1,fEq (ptr q2),aG (tSl tI) w3,fEq (ptr q4)]],aC v1 54 bM w2.AD]) ?_ ?_
 revert H;refine I4 (fun c2 H=>?_) fun c2 H=>?_
 refine Z3 ?_
 exact Tm (decide (y1.Op=6)) (ij H)
 refine Z5 ?_
 exact Tm (decide (y1.Op=8)) (ij H)
 clear H;intro x4 hi;subst o3;have H:=Hr3;clear Hr3;try dsimp only at H
 try dsimp only
 revert H;refine cs (fun c3 H=>?_) fun c3 H=>?_
 refine Z4 ?_
 refine Yy (vU (zα:=[]) (k:=a0) rfl hh hh rfl sG cW) ?_
 revert H;refine bs fun y5 h5 H=>?_
 refine pI a2g rfl rfl rfl hh (aN.cons hh aN.nil) rfl (cb rfl) (vD ((w1.get a0).getD []) y5 h5) rfl ?_
 revert H;refine B6 fun y6 h6 H=>?_
 refine Tc (aAw _ _ _ _ h6) ?_
 refine Z1 ?_
 refine cC (φs':=[fI y1.Op,fI y6,fEq (.slice none 0 0),fSl tI y2,fSl tI x1]) a2g rfl rfl (has rfl) (has rfl) (aH a2g) (sz rfl) rfl rfl ?_
 refine Z3 ?_
 exact Tm ((y5,y6)) (ij H)
 revert H;refine I5 (fun c4 H=>?_) fun c4 H=>?_
 revert H;refine B5 fun y7 h7 H=>?_
 refine Tc (aAw _ _ _ _ h7) ?_
 refine Z1 ?_
 refine cC (φs':=[fI y1.Op,fI y7,fEq (.slice none 0 0),fSl tI y2,fSl tI x1]) a2g rfl rfl (has rfl) (has rfl) (aH a2g) (sz rfl) rfl rfl ?_
 refine Z3 ?_
 exact Tm ((a1,y7)) (ij H)
 refine Z4 ?_
 exact Tm ((a1,y1.N)) (ij H)
 clear H;intro i hi;obtain⟨x2,x3⟩:=i;subst o2;have H:=Hr2;clear Hr2;try dsimp only at H
 try dsimp only
 revert H;refine bs fun o4 H Hr4=>?_
 refine aR (ι:=List AS × Value) (fun i=>o4=i.1) (fun i=>[(0,fI a0),(1,fSl tI a1),(2,aG cN w0),(3,aG (eO bX (fun y=>fSl tI y)) w1),(4,fEq (ptr q2)),(5,aG (tSl tI) w3),(6,fEq (ptr q4)),(9,fEq (ptr b1)),(10,fEq (ptr b2)),(11,fSl tI x2)]) (fun i=>[aA b2 54 [fI y1.Op,fI x3,fEq i.2,fSl tI y2,fSl tI x1],aA b1 65 [fI y1.Op,fI y1.N,fSl aO y1.AU,fSl tI y1.AM],aA q2 30 [fSl aD w2.AF,fSl tI w2.AQ,fEq v1,fSl aB w2.AE,fI w2.AG],aA q4 63 [cB 26 [aG cN w0,aG (eO bX (fun y=>fSl tI y)) w1,fEq (ptr q2),aG (tSl tI) w3,fEq (ptr q4)]],aC i.2 71 aO i.1,aC v1 54 bM w2.AD]) ?_ ?_
 refine Z7 ?_
 refine iW aO 71 ?_
 refine aE [1,2,3,4,0,5] (by decide) ?_
 refine Tl (ι:=Nat × Int × List AS × Value) (fun i=>oL AA a1 y1 i.1 i.2.1 i.2.2.1=_) (fun i=>i.1) (fun i=>[(0,fI a0),(1,fSl tI a1),(2,aG cN w0),(3,aG (eO bX (fun y=>fSl tI y)) w1),(4,fEq (ptr q2)),(5,aG (tSl tI) w3),(6,fEq (ptr q4)),(9,fEq (ptr b1)),(10,fEq (ptr b2)),(11,fSl tI x2),(68,fSl aO y1.AU),(69,fI (y1.AU.length:Int)),(70,fI i.2.1)]) (fun i=>[aA b2 54 [fI y1.Op,fI x3,fEq i.2.2.2,fSl tI y2,fSl tI x1],aA b1 65 [fI y1.Op,fI y1.N,fSl aO y1.AU,fSl tI y1.AM],aA q2 30 [fSl aD w2.AF,fSl tI w2.AQ,fEq v1,fSl aB w2.AE,fI w2.AG],aA q4 63 [cB 26 [aG cN w0,aG (eO bX (fun y=>fSl tI y)) w1,fEq (ptr q2),aG (tSl tI) w3,fEq (ptr q4)]],aC i.2.2.2 71 aO i.2.2.1,aC v1 54 bM w2.AD]) (AA,0,[],(.slice none 0 0)) H ?_
 clear H;rintro⟨k1,x8,x9,v4⟩ H
 replace H:oL AA a1 y1 k1 x8 x9=_:=H
 try dsimp only
 obtain _ | k1:=k1
 rw [oL]at H;cases H
 rw [oL]at H
 refine aJ 4 rfl (fun hc_v4=>?_)
 refine Z3 ?_
 refine aI ?_
 revert H;refine is (fun c5 H=>?_) fun c5 H=>?_
 refine Z3 ?_
 refine aI ?_
 revert H;refine B2 fun y8 h8 H=>?_
 refine Z2 ?_
 refine Tn (bN rfl iP rfl) fun b3=>?_
 refine cG (φs':=[fI y8.Op,fI y8.N,cU y8.AM]) a2g rfl rfl (has rfl) (has rfl) (aF (aH a2g) (aF (aH a2g) (aF (lE) bF))) (sz rfl) rfl rfl rfl ?_
 revert H;refine B1 fun y9 h9 H=>?_
 apply bL (ods:=[_,_,_,_,_,_]) 6 0 7 bK rfl rfl rfl
 refine ND ?_
 refine M4 ?_
 intros
 refine Nc (aIT _ _ _ _ h9) fun _=>?_
 refine Mf (φ:=fSl aO [y9]) (gR (t:=aO) (xs:=[y9]) rfl (et rfl) (cM.cons rfl (has rfl) bS cM.nil) rfl rfl rfl) (fun b=>dI) fun _=>?_
 revert H;refine B1 fun z1 h10 H=>?_
 refine dA ?_
 refine sQ (ys:=[y9]) a2g rfl rfl rfl (has rfl) (has rfl) (et rfl) rfl h10 (fun v6=>?_)
 refine aJ 0 rfl (fun hc_v6=>?_)
 refine Z1 ?_
 refine dK ?_
 refine cC (φs':=[fI y1.Op,fI x3,fEq v6,fSl tI y2,fSl tI x1]) a2g rfl rfl (has rfl) (has rfl) (aH hc_v6) (sz rfl) rfl rfl ?_
 revert H;refine B4 fun z2 h11 H=>?_
 refine Z3 ?_
 refine aE [0,3,4,5,1,6] (by decide) ?_
 exact Tm ((k1,z2,z1,v6)) ⟨H,ls⟩
 exact fk
 kernel_rfl
 refine Z6 ?_
 exact Tm ((x9,v4)) (ij H)
 clear H;intro i hi;obtain⟨x5,v2⟩:=i;subst o4;have H:=Hr4;clear Hr4;try dsimp only at H
 try dsimp only
 refine aJ 4 rfl (fun hc_v2=>?_)
 revert H;refine B5 fun y10 h12 H=>?_
 refine Z1 ?_
 refine aZ ?_
 refine cE (φ:=fSl aO x5) (v:=v2) [] dI (fun _ h=>nomatch h) ?_
 refine eY (φs':=[fI y1.Op,fI x3,fSl aO x5,fSl tI y2,fSl tI x1]) (i:=2) rfl rfl ?_
 refine rI 86 (ψ:=eI [fI y1.Op,fI x3,fEq v2,fSl tI y2,fSl tI x1]) rfl (qP (i:=2) (φs:=[fI y1.Op,fI x3,fEq v2,fSl tI y2,fSl tI x1]) (φs':=[fI y1.Op,fI x3,fSl aO x5,fSl tI y2,fSl tI x1]) rfl rfl) ?_
 refine cD ?_
 refine aZ ?_
 refine aG5 (z:=(⟨y1.Op,x3,x5,y2,x1⟩:Aj)) a2g rfl rfl rfl (has rfl) (has rfl) (sz rfl) (a0K.1 (eF h12)).1 ?_
 revert H;refine B1 fun o5 H Hr5=>?_
 refine aR (ι:=List Int × List ByteArray × List Int × List Aj × List AO × Int × Value) (fun i=>o5=(i.1,i.2.1,i.2.2.1,i.2.2.2.1,i.2.2.2.2.1,i.2.2.2.2.2.1)) (fun i=>[(4,fEq (ptr q2)),(6,fEq (ptr q4)),(9,fEq (ptr b1)),(11,fSl tI i.1)]) (fun i=>[aA b2 54 [fI y1.Op,fI x3,fSl aO x5,fSl tI y2,fSl tI x1],aA b1 65 [fI y1.Op,fI y1.N,fSl aO y1.AU,fSl tI y1.AM],aA q2 30 [fSl aD i.2.1,fSl tI i.2.2.1,fEq i.2.2.2.2.2.2,fSl aB i.2.2.2.2.1,fI i.2.2.2.2.2.1],aA q4 63 [cB 26 [aG cN w0,aG (eO bX (fun y=>fSl tI y)) w1,fEq (ptr q2),aG (tSl tI) w3,fEq (ptr q4)]],aC i.2.2.2.2.2.2 54 bM i.2.2.2.1]) ?_ ?_
 revert H;refine I5 (fun c6 H=>?_) fun c6 H=>?_
 revert H;refine B6 fun y11 h13 H=>?_
 refine Z2 ?_
 refine Tn (bN rfl vI rfl) fun b5=>?_
 refine cG (φs':=[fSl aW y11.AN,fSl bD y11.AR,fSl aY y11.AP]) a2g rfl rfl (has rfl) (has rfl) (aF (aS) (aF (aS) (aF (aS) bF))) (sz rfl) rfl rfl rfl ?_
 refine Z1 ?_
 refine aI ?_
 revert H;refine bs fun y12 h14 H=>?_
 revert H;refine bs fun z3 h15 H=>?_
 revert H;refine bs fun y13 h16 H=>?_
 apply bL (ods:=[_,_,_,_,_,_,_,_,_,_,_,_,_]) 13 0 6 bK rfl rfl rfl
 refine ND ?_
 refine M8 ?_
 intros
 refine M3 ?_
 intros
 refine Nc (aAW _ _ _ _ h16) fun _=>?_
 refine M1 ?_
 intros
 refine Z5 ?_
 refine Yy (vU (zα:=[]) (k:=a0) rfl hh hh rfl sG cW) ?_
 revert H;refine B1 fun y14 h17 H=>?_
 refine Tc (vK _ _ _ h17) ?_
 revert H;refine B2 fun o6 H Hr6=>?_
 refine aR (ι:=List ByteArray × List Int × List Aj × List AO × Int × Value) (fun i=>o6=(i.1,i.2.1,i.2.2.1,i.2.2.2.1,i.2.2.2.2.1)) (fun i=>[(1,fSl tI a1),(4,fEq (ptr q2)),(6,fEq (ptr q4)),(9,fEq (ptr b1)),(14,fEq (ptr b5)),(15,fSl tI y13),(16,fSl tI y14)]) (fun i=>[aA b5 77 [fSl aW y11.AN,fSl bD y11.AR,fSl aY y11.AP],aA b2 54 [fI y1.Op,fI x3,fSl aO x5,fSl tI y2,fSl tI x1],aA b1 65 [fI y1.Op,fI y1.N,fSl aO y1.AU,fSl tI y1.AM],aA q2 30 [fSl aD i.1,fSl tI i.2.1,fEq i.2.2.2.2.2,fSl aB i.2.2.2.1,fI i.2.2.2.2.1],aA q4 63 [cB 26 [aG cN w0,aG (eO bX (fun y=>fSl tI y)) w1,fEq (ptr q2),aG (tSl tI) w3,fEq (ptr q4)]],aC i.2.2.2.2.2 54 bM i.2.2.1]) ?_ ?_
 refine Z7 ?_
 refine aE [0,2,3,4,5,1] (by decide) ?_
 refine Tl (ι:=Nat × Int × List ByteArray × List Int × List Aj × List AO × Int × Value) (fun i=>oY AA (fU AA) a0 w0 w1 w3 y11 y13 y14 i.1 i.2.1 i.2.2.1 i.2.2.2.1 i.2.2.2.2.1 i.2.2.2.2.2.1 i.2.2.2.2.2.2.1=_) (fun i=>i.1) (fun i=>[(0,fI a0),(1,fSl tI a1),(4,fEq (ptr q2)),(5,aG (tSl tI) w3),(6,fEq (ptr q4)),(9,fEq (ptr b1)),(14,fEq (ptr b5)),(15,fSl tI y13),(16,fSl tI y14),(115,fSl aY y11.AP),(116,fI (y11.AP.length:Int)),(117,fI i.2.1)]) (fun i=>[aA b5 77 [fSl aW y11.AN,fSl bD y11.AR,fSl aY y11.AP],aA b2 54 [fI y1.Op,fI x3,fSl aO x5,fSl tI y2,fSl tI x1],aA b1 65 [fI y1.Op,fI y1.N,fSl aO y1.AU,fSl tI y1.AM],aA q2 30 [fSl aD i.2.2.1,fSl tI i.2.2.2.1,fEq i.2.2.2.2.2.2.2,fSl aB i.2.2.2.2.2.1,fI i.2.2.2.2.2.2.1],aA q4 63 [cB 26 [aG cN w0,aG (eO bX (fun y=>fSl tI y)) w1,fEq (ptr q2),aG (tSl tI) w3,fEq (ptr q4)]],aC i.2.2.2.2.2.2.2 54 bM i.2.2.2.2.1]) (AA,0,w2.AF,w2.AQ,w2.AD.set a0.toNat (⟨y1.Op,x3,x5,y2,x1⟩:Aj),w2.AE,w2.AG,v1) H ?_
 clear H;rintro⟨k2,x27,x28,x29,x30,x31,x32,v10⟩ H
 replace H:oY AA (fU AA) a0 w0 w1 w3 y11 y13 y14 k2 x27 x28 x29 x30 x31 x32=_:=H
 try dsimp only
 obtain _ | k2:=k2
 rw [oY]at H;cases H
 rw [oY]at H
 refine aJ 5 rfl (fun hc_v10=>?_)
 refine Z3 ?_
 refine aI ?_
 revert H;refine is (fun c7 H=>?_) fun c7 H=>?_
 refine Z3 ?_
 refine aI ?_
 revert H;refine B2 fun y15 h18 H=>?_
 refine Z2 ?_
 refine Tn (bN rfl rU rfl) fun b6=>?_
 refine cG (φs':=[fI y15.At,fSl tI y15.AY,fI y15.AV]) a2g rfl rfl (has rfl) (has rfl) (aF (aH a2g) (aF (aS) (aF (aH a2g) bF))) (sz rfl) rfl rfl rfl ?_
 revert H;refine B1 fun y16 h19 H=>?_
 revert H;refine bs fun z4 h20 H=>?_
 revert H;refine bs fun y17 h21 H=>?_
 revert H;refine bs fun y18 h22 H=>?_
 revert H;refine bs fun y19 h23 H=>?_
 apply bL (ods:=[_,_,_,_,_,_,_,_,_,_,_,_,_,_,_,_]) 16 0 7 bK rfl rfl rfl
 refine ND ?_
 refine M8 ?_
 intros
 refine M5 ?_
 intros
 refine Nc (aFT _ _ _ _ h21) fun _=>?_
 refine Nc (aAW _ _ _ _ h22) fun _=>?_
 refine Nc (vK _ _ _ h23) fun _=>?_
 refine Z1 ?_
 refine dQ ?_
 refine dA ?_
 refine aAz (x:=(⟨x28,x29,x30,x31,x32⟩:AH)) ?_
 refine dA ?_
 refine cK ?_
 revert H;refine bs fun y20 h24 H=>?_
 refine iB a2g rfl rfl rfl (has rfl) (aN.cons (has rfl) (aN.cons (has rfl) aN.nil)) rfl (cb rfl) (ih_flat_Flat_1 q2 q4 y15.AV y19 w0 w1 (⟨x28,x29,x30,x31,x32⟩:AH) w3 y20 h24) rfl ?_
 refine aAL (fun v11=>?_)
 refine aJ 1 rfl (fun hc_v11=>?_)
 revert H;refine B4 fun z5 h25 H=>?_
 refine Z3 ?_
 refine aE [4,5,6,0,2,1] (by decide) ?_
 exact Tm ((k2,z5,y20.AF,y20.AQ,y20.AD,y20.AE,y20.AG,v11)) ⟨H,ls⟩
 exact fk
 kernel_rfl
 refine Z6 ?_
 exact Tm ((x28,x29,x30,x31,x32,v10)) (ij H)
 clear H;intro i hi;obtain⟨x16,x17,x18,x19,x20,v8⟩:=i;subst o6;have H:=Hr6;clear Hr6;try dsimp only at H
 try dsimp only
 refine aJ 5 rfl (fun hc_v8=>?_)
 revert H;refine bs fun o7 H Hr7=>?_
 refine aR (ι:=List ByteArray × List Int × List Aj × List AO × Int × Value) (fun i=>o7=(i.1,i.2.1,i.2.2.1,i.2.2.2.1,i.2.2.2.2.1)) (fun i=>[(1,fSl tI a1),(4,fEq (ptr q2)),(6,fEq (ptr q4)),(9,fEq (ptr b1)),(15,fSl tI y13)]) (fun i=>[aA b5 77 [fSl aW y11.AN,fSl bD y11.AR,fSl aY y11.AP],aA b2 54 [fI y1.Op,fI x3,fSl aO x5,fSl tI y2,fSl tI x1],aA b1 65 [fI y1.Op,fI y1.N,fSl aO y1.AU,fSl tI y1.AM],aA q2 30 [fSl aD i.1,fSl tI i.2.1,fEq i.2.2.2.2.2,fSl aB i.2.2.2.1,fI i.2.2.2.2.1],aA q4 63 [cB 26 [aG cN w0,aG (eO bX (fun y=>fSl tI y)) w1,fEq (ptr q2),aG (tSl tI) w3,fEq (ptr q4)]],aC i.2.2.2.2.2 54 bM i.2.2.1]) ?_ ?_
 refine Z7 ?_
 refine Tl (ι:=Nat × Int × List ByteArray × List Int × List Aj × List AO × Int × Value) (fun i=>qH (fU AA) w0 w1 w3 y11 y14 i.1 i.2.1 i.2.2.1 i.2.2.2.1 i.2.2.2.2.1 i.2.2.2.2.2.1 i.2.2.2.2.2.2.1=_) (fun i=>i.1) (fun i=>[(1,fSl tI a1),(4,fEq (ptr q2)),(6,fEq (ptr q4)),(9,fEq (ptr b1)),(15,fSl tI y13),(16,fSl tI y14),(140,fSl bD y11.AR),(141,fI (y11.AR.length:Int)),(142,fI i.2.1)]) (fun i=>[aA b5 77 [fSl aW y11.AN,fSl bD y11.AR,fSl aY y11.AP],aA b2 54 [fI y1.Op,fI x3,fSl aO x5,fSl tI y2,fSl tI x1],aA b1 65 [fI y1.Op,fI y1.N,fSl aO y1.AU,fSl tI y1.AM],aA q2 30 [fSl aD i.2.2.1,fSl tI i.2.2.2.1,fEq i.2.2.2.2.2.2.2,fSl aB i.2.2.2.2.2.1,fI i.2.2.2.2.2.2.1],aA q4 63 [cB 26 [aG cN w0,aG (eO bX (fun y=>fSl tI y)) w1,fEq (ptr q2),aG (tSl tI) w3,fEq (ptr q4)]],aC i.2.2.2.2.2.2.2 54 bM i.2.2.2.2.1]) (AA,0,x16,x17,x18,x19,x20,v8) H ?_
 clear H;rintro⟨k3,x44,x45,x46,x47,x48,x49,v14⟩ H
 replace H:qH (fU AA) w0 w1 w3 y11 y14 k3 x44 x45 x46 x47 x48 x49=_:=H
 try dsimp only
 obtain _ | k3:=k3
 rw [qH]at H;cases H
 rw [qH]at H
 refine aJ 5 rfl (fun hc_v14=>?_)
 refine Z3 ?_
 refine aI ?_
 revert H;refine is (fun c8 H=>?_) fun c8 H=>?_
 refine Z3 ?_
 refine aI ?_
 revert H;refine B2 fun y21 h26 H=>?_
 refine Z2 ?_
 refine Tn (bN rfl xB rfl) fun b7=>?_
 refine cG (φs':=[fI y21.In,fI y21.AV]) a2g rfl rfl (has rfl) (has rfl) (aF (aH a2g) (aF (aH a2g) bF)) (sz rfl) rfl rfl rfl ?_
 refine Z6 ?_
 refine dQ ?_
 refine dA ?_
 refine aAz (x:=(⟨x45,x46,x47,x48,x49⟩:AH)) ?_
 refine dA ?_
 refine cK ?_
 revert H;refine bs fun y22 h27 H=>?_
 refine iB a2g rfl rfl rfl (has rfl) (aN.cons (has rfl) (aN.cons (has rfl) aN.nil)) rfl (cb rfl) (ih_flat_Flat_1 q2 q4 y21.AV y14 w0 w1 (⟨x45,x46,x47,x48,x49⟩:AH) w3 y22 h27) rfl ?_
 refine aAL (fun v15=>?_)
 refine aJ 1 rfl (fun hc_v15=>?_)
 revert H;refine B4 fun z6 h28 H=>?_
 refine Z3 ?_
 refine aE [4,5,6,0,2,1] (by decide) ?_
 exact Tm ((k3,z6,y22.AF,y22.AQ,y22.AD,y22.AE,y22.AG,v15)) ⟨H,ls⟩
 refine Z6 ?_
 exact Tm ((x45,x46,x47,x48,x49,v14)) (ij H)
 clear H;intro i hi;obtain⟨x33,x34,x35,x36,x37,v12⟩:=i;subst o7;have H:=Hr7;clear Hr7;try dsimp only at H
 try dsimp only
 refine aJ 5 rfl (fun hc_v12=>?_)
 revert H;refine B3 fun y23 h29 H=>?_
 refine Tc (vK _ _ _ h29) ?_
 refine Z2 ?_
 refine aE [1,2,3,4,5] (by decide) ?_
 exact Tm ((y23,x33,x34,x35,x36,x37,v12)) (ij H)
 exact fk
 kernel_rfl
 refine Z3 ?_
 refine aE [1,2,3,4,0] (by decide) ?_
 exact Tm ((x2,w2.AF,w2.AQ,w2.AD.set a0.toNat (⟨y1.Op,x3,x5,y2,x1⟩:Aj),w2.AE,w2.AG,v1)) (ij H)
 clear H;intro i hi;obtain⟨x10,x11,x12,x13,x14,x15,v7⟩:=i;subst o5;have H:=Hr5;clear Hr5;try dsimp only at H
 try dsimp only
 refine aJ 4 rfl (fun hc_v7=>?_)
 refine Z7 ?_
 refine Tl (ι:=Nat × Int × List ByteArray × List Int × List Aj × List AO × Int × Value) (fun i=>nY (fU AA) w0 w1 w3 y1 x10 i.1 i.2.1 i.2.2.1 i.2.2.2.1 i.2.2.2.2.1 i.2.2.2.2.2.1 i.2.2.2.2.2.2.1=_) (fun i=>i.1) (fun i=>[(4,fEq (ptr q2)),(6,fEq (ptr q4)),(11,fSl tI x10),(156,fSl tI y1.AM),(157,fI (y1.AM.length:Int)),(158,fI i.2.1)]) (fun i=>[aA b2 54 [fI y1.Op,fI x3,fSl aO x5,fSl tI y2,fSl tI x1],aA b1 65 [fI y1.Op,fI y1.N,fSl aO y1.AU,fSl tI y1.AM],aA q2 30 [fSl aD i.2.2.1,fSl tI i.2.2.2.1,fEq i.2.2.2.2.2.2.2,fSl aB i.2.2.2.2.2.1,fI i.2.2.2.2.2.2.1],aA q4 63 [cB 26 [aG cN w0,aG (eO bX (fun y=>fSl tI y)) w1,fEq (ptr q2),aG (tSl tI) w3,fEq (ptr q4)]],aC i.2.2.2.2.2.2.2 54 bM i.2.2.2.2.1]) (AA,0,x11,x12,x13,x14,x15,v7) H ?_
 clear H;rintro⟨k4,x56,x57,x58,x59,x60,x61,v17⟩ H
 replace H:nY (fU AA) w0 w1 w3 y1 x10 k4 x56 x57 x58 x59 x60 x61=_:=H
 try dsimp only
 obtain _ | k4:=k4
 rw [nY]at H;cases H
 rw [nY]at H
 refine aJ 4 rfl (fun hc_v17=>?_)
 refine Z3 ?_
 refine aI ?_
 revert H;refine is (fun c9 H=>?_) fun c9 H=>?_
 refine Z3 ?_
 refine aI ?_
 revert H;refine B2 fun y24 h30 H=>?_
 refine Z8 ?_
 refine aZ ?_
 refine cY ?_
 refine aAz (x:=(⟨x57,x58,x59,x60,x61⟩:AH)) ?_
 refine cY ?_
 refine cK ?_
 revert H;refine bs fun y25 h31 H=>?_
 refine iB a2g rfl rfl rfl (has rfl) (aN.cons (has rfl) (aN.cons (has rfl) aN.nil)) rfl (cb rfl) (ih_flat_Flat_1 q2 q4 y24 x10 w0 w1 (⟨x57,x58,x59,x60,x61⟩:AH) w3 y25 h31) rfl ?_
 refine aAL (fun v18=>?_)
 refine aJ 1 rfl (fun hc_v18=>?_)
 revert H;refine B4 fun z7 h32 H=>?_
 refine Z3 ?_
 refine aE [3,4,0,2,1] (by decide) ?_
 exact Tm ((k4,z7,y25.AF,y25.AQ,y25.AD,y25.AE,y25.AG,v18)) ⟨H,ls⟩
 refine Z5 ?_
 refine aZ ?_
 refine cY ?_
 refine aAz (x:=(⟨x57,x58,x59,x60,x61⟩:AH)) ?_
 cases H
 refine aE [0,3] (by decide) ?_
 exact eP (.inr rfl) rfl rfl
 exact fk
 kernel_rfl
def tS (AA:Nat) (a0:AI):Option (AH × Int):=
 (sR AA (⟨a0.AF,a0.AD,a0.AE,a0.AG⟩:AI)).bind fun y1=>
 if y1.2≠0 then
  some ((⟨[],[],[],[],0⟩:AH),y1.2)
 else
  (wH AA (⟨a0.AF,a0.AD,a0.AE,a0.AG⟩:AI)).bind fun y2=>
  (vB a0.AF).bind fun y3=>
  (gQ ((y1.1.get (-1)).getD [])).bind fun y4=>
  (mk (⟨0,0,[],[],[]⟩:Aj) (a0.AD.length:Int)).bind fun y5=>
  (uZ AA a0.AE).bind fun y6=>
  (fU AA ((⟨a0.AF,a0.AD,a0.AE,a0.AG⟩:AI).AG) y4 (⟨a0.AF,a0.AD,a0.AE,a0.AG⟩:AI) y1.1 (⟨y3,y4,y5,y6,a0.AG⟩:AH) y2.1).bind fun y7=>
  some ((⟨y7.AF,y7.AQ,y7.AD,y7.AE,y7.AG⟩:AH),0)
theorem aIF (AA:Nat)  (a0:AI) (r:AH × Int) (H:tS AA a0=some r):FnS Tryz.prog 7 [fSt cN a0] [] (dF [fSt oK r.1,fI r.2]) (fun _=>[]):=by
 unfold tS at H
 refine bG Tryz.func7 rfl Tryz.ntmps7 rfl (fun β=>?_)
 refine Z1 ?_
 refine Tn (bU rfl hh bS) fun b1=>?_
 refine Tn (bN rfl aEb rfl) fun b2=>?_
 revert H;refine B4 fun y1 h1 H=>?_
 refine Tc (aHX _ _ _ h1) ?_
 refine Z3 ?_
 refine Tn (bN rfl aH8 rfl) fun b3=>?_
 refine cC (φs':=[kE bX (fun y=>fSl tI y) y1.1]) a2g rfl rfl (has rfl) (has rfl) (aDB) (sz rfl) rfl rfl ?_
 refine Z2 ?_
 refine aI ?_
 revert H;refine I4 (fun c1 H=>?_) fun c1 H=>?_
 refine Z2 ?_
 refine Yy (gP (ψs:=[fEq (.slice none 0 0),fEq (.slice none 0 0),fEq (.slice none 0 0),fEq (.slice none 0 0),fI 0]) rfl aDr rfl bQ.nil rfl) ?_
 refine Z1 ?_
 refine cK ?_
 refine cG (φs':=[fEq (.slice none 0 0),fEq (.slice none 0 0),fEq (.slice none 0 0),fEq (.slice none 0 0),fI 0]) a2g rfl rfl (has rfl) (has rfl) (aF (aH a2g) (aF (aH a2g) (aF (aH a2g) (aF (aH a2g) (aF (aH a2g) bF))))) (sz rfl) rfl rfl rfl ?_
 refine Z3 ?_
 cases H
 refine aE [0] (by decide) ?_
 exact qT rfl (ag rfl) rfl (bP rfl) (bP rfl) (sE (aP.cons cW (aP.cons cW (aP.cons cW (aP.cons cW (aP.cons Ent.rfl aP.nil)))))) rfl
 revert H;refine B5 fun y2 h2 H=>?_
 refine Tc (aF1 _ _ _ h2) ?_
 refine Z3 ?_
 refine Tn (bN rfl aAF rfl) fun b4=>?_
 refine cC (φs':=[fSl tI y2.1]) a2g rfl rfl (has rfl) (has rfl) (aS) (sz rfl) rfl rfl ?_
 refine Z2 ?_
 refine aI ?_
 revert H;refine bs fun y3 h3 H=>?_
 revert H;refine bs fun y4 h4 H=>?_
 revert H;refine bs fun y5 h5 H=>?_
 revert H;refine bs fun y6 h6 H=>?_
 apply bL (ods:=[_,_,_,_,_,_,_,_,_,_,_,_,_,_,_,_,_,_]) 18 2 6 bK rfl rfl rfl
 refine ND ?_
 refine M2 ?_
 intros
 refine Nc (aF5 _ _ h3) fun _=>?_
 refine M1 ?_
 intros
 refine My (vU (zα:=[]) (k:=(-1)) rfl hh hh rfl sG cW) fun _=>?_
 refine wV (od:=odC [] true (fSl tI y4) []) (Φ:=fSl tI y4) rfl (fun _=>rfl) a2g rfl rfl (has rfl) (aN.cons (has rfl) aN.nil) rfl (cb rfl) (vD ((y1.1.get (-1)).getD []) y4 h4) (fun _=>?_)
 refine M3 ?_
 intros
 refine Mn 4 (fun b5=> .slice (some ⟨b5,0,none⟩) y5.length y5.length) (fun b5=>aC (.slice (some ⟨b5,0,none⟩) y5.length y5.length) 54 bM y5) rfl (aA8 (t:=bM) (z:=(⟨0,0,[],[],[]⟩:Aj)) rfl (has rfl) (et rfl) rfl tR (aP.cons Ent.rfl (aP.cons Ent.rfl (aP.cons cW (aP.cons cW (aP.cons cW aP.nil))))) h5) (fun b5 u1=>?_)
 refine M2 ?_
 intros
 refine Nc (aF4 _ _ _ h6) fun _=>?_
 refine M2 ?_
 intros
 refine D1 9 b5 _ (fun b5 _=>eI [fSl aD y3,fSl tI y4,fEq (.slice (some ⟨b5,0,none⟩) y5.length y5.length),fSl aB y6,fI a0.AG]) rfl (gP (ψs:=[fSl aD y3,fSl tI y4,fEq (.slice (some ⟨b5,0,none⟩) y5.length y5.length),fSl aB y6,fI a0.AG]) rfl aDr rfl (bQ.cons (has rfl) (cJ (aS)) (bQ.cons (has rfl) (cJ (aS)) (bQ.cons (has rfl) (cJ (aH a2g)) (bQ.cons (has rfl) (cJ (aS)) (bQ.cons (has rfl) (cJ (aH a2g)) bQ.nil))))) rfl) (fun _=>?_)
 refine Mn 5 (fun b6=>ptr b6) (fun b6=>aA b6 30 [fEq (.slice none 0 0),fEq (.slice none 0 0),fEq (.slice none 0 0),fEq (.slice none 0 0),fI 0]) rfl (bN rfl aEb rfl) (fun b6 u2=>?_)
 refine pA (od:=od2 9 16 [5] true (fun b5 _ b6 _=>dX) (fun b5 _ b6 _=>[aA b6 30 [fSl aD y3,fSl tI y4,fEq (.slice (some ⟨b5,0,none⟩) y5.length y5.length),fSl aB y6,fI a0.AG]])) (p:=5) (φs':=[fSl aD y3,fSl tI y4,fEq (.slice (some ⟨b5,0,none⟩) y5.length y5.length),fSl aB y6,fI a0.AG]) rfl (fun _=>rfl) (fun _=>rfl) a2g rfl rfl rfl (has rfl) (has rfl) (aF (aS) (aF (aS) (aF (aH a2g) (aF (aS) (aF (aH a2g) bF))))) (sz rfl) rfl rfl rfl (fun _=>?_)
 refine Z1 ?_
 generalize (Value.slice (some ⟨b5,0,none⟩) _ _)=v1
 refine aJ 4 rfl (fun hc_v1=>?_)
 refine Z2 ?_
 refine Tn (bN rfl ty_ze_63 rfl) fun b7=>?_
 refine Z2 ?_
 refine aZ ?_
 refine cE (φ:=aG cN (⟨a0.AF,a0.AD,a0.AE,a0.AG⟩:AI)) (v:=ptr b1) [1,24] (fQ aP.rfl) fz ?_
 refine cD ?_
 refine dK ?_
 refine cE (φ:=aG (eO bX (fun y=>fSl tI y)) y1.1) (v:=ptr b3) [4] (fQ aP.rfl) fz ?_
 refine cD ?_
 refine cK ?_
 refine cE (φ:=aG (tSl tI) y2.1) (v:=ptr b4) [6] (fQ aP.rfl) fz ?_
 refine cD ?_
 refine Yy (oB rfl (aN.cons hh (aN.cons hh (aN.cons hh (aN.cons hh (aN.cons hh aN.nil)))))) ?_
 refine cC (φs':=[cB 26 [aG cN (⟨a0.AF,a0.AD,a0.AE,a0.AG⟩:AI),aG (eO bX (fun y=>fSl tI y)) y1.1,fEq (ptr b6),aG (tSl tI) y2.1,fEq (ptr b7)]]) a2g rfl rfl (has rfl) (has rfl) (aDD) (sz rfl) rfl rfl ?_
 refine Z7 ?_
 refine dK ?_
 refine cY ?_
 refine aAz (x:=(⟨y3,y4,y5,y6,a0.AG⟩:AH)) ?_
 revert H;refine bs fun y7 h7 H=>?_
 refine iB a2g rfl rfl rfl (has rfl) (aN.cons (has rfl) (aN.cons (has rfl) aN.nil)) rfl (cb rfl) (aK3 AA b6 b7 ((⟨a0.AF,a0.AD,a0.AE,a0.AG⟩:AI).AG) y4 (⟨a0.AF,a0.AD,a0.AE,a0.AG⟩:AI) y1.1 (⟨y3,y4,y5,y6,a0.AG⟩:AH) y2.1 y7 h7) rfl ?_
 refine aAL (fun v2=>?_)
 refine aJ 1 rfl (fun hc_v2=>?_)
 refine Z3 ?_
 refine cY ?_
 refine cG (φs':=[fSl aD y7.AF,fSl tI y7.AQ,fEq v2,fSl aB y7.AE,fI y7.AG]) a2g rfl rfl (has rfl) (has rfl) (aF (aS) (aF (aS) (aF (aH hc_v2) (aF (aS) (aF (aH a2g) bF))))) (sz rfl) rfl rfl rfl ?_
 refine Z3 ?_
 refine dK ?_
 refine cE (φ:=fSl bM y7.AD) (v:=v2) [] dI (fun _ h=>nomatch h) ?_
 refine eY (φs':=[fSl aD y7.AF,fSl tI y7.AQ,fSl bM y7.AD,fSl aB y7.AE,fI y7.AG]) (i:=2) rfl rfl ?_
 refine dK ?_
 refine cK ?_
 refine eY (φs':=[fSl aD y7.AF,fSl tI y7.AQ,fSl bM y7.AD,fSl aB y7.AE,fI y7.AG]) (i:=2) rfl rfl ?_
 refine rI 47 (ψ:=eI [fSl aD y7.AF,fSl tI y7.AQ,fEq v2,fSl aB y7.AE,fI y7.AG]) rfl (qP (i:=2) (φs:=[fSl aD y7.AF,fSl tI y7.AQ,fEq v2,fSl aB y7.AE,fI y7.AG]) (φs':=[fSl aD y7.AF,fSl tI y7.AQ,fSl bM y7.AD,fSl aB y7.AE,fI y7.AG]) rfl rfl) ?_
 refine cD ?_
 cases H
 refine aE [1] (by decide) ?_
 exact qT rfl (ag rfl) rfl (bP rfl) (bP rfl) Ent.rfl rfl
 exact fk
 kernel_rfl
def qC (a0:List Int) (a1:List Int):Nat->Int->Option ((Unit) ⊕ (Bool))
| 0,_=>none
| k+1,x2=>
 if x2<(a0.length:Int)then
  (idx a0 x2).bind fun y1=>
  (idx a1 x2).bind fun y2=>
  if y1≠y2 then
   (some false).bind fun r=>some (Sum.inr r)
  else
   (chk (x2+1)).bind fun z1=>
   qC a0 a1 k z1
 else
  some (Sum.inl ())
def qM (AA:Nat) (a0:List Int) (a1:List Int):Option (Bool):=
 if (a0.length:Int)≠(a1.length:Int)then
  some false
 else
  (qC a0 a1 AA 0).bind fun o=>match o with
  | Sum.inr r=>some r
  | Sum.inl _=>
  some true
theorem zH (AA:Nat)  (a0:List Int) (a1:List Int) (r:Bool) (H:qM AA a0 a1=some r):FnS Tryz.prog 37 [fSl tI a0,fSl tI a1] [] (aK r) (fun _=>[]):=by
 unfold qM at H
 refine bG Tryz.func37 rfl Tryz.ntmps37 rfl (fun β=>?_)
 refine Z3 ?_
 refine aI ?_
 revert H;refine I7 (fun c1 H=>?_) fun c1 H=>?_
 refine Z5 ?_
 cases H
 exact To
 revert H;refine B3 fun o1 H Hr1=>?_
 refine aR (ι:=Unit) (fun i=>o1=Sum.inl ()) (fun i=>[]) (fun i=>[]) ?_ ?_
 refine Z4 ?_
 refine Tl (ι:=Nat × Int) (fun i=>qC a0 a1 i.1 i.2=_) (fun i=>i.1) (fun i=>[(0,fSl tI a0),(1,fSl tI a1),(5,fI i.2)]) (fun i=>[]) (AA,0) H ?_
 clear H;rintro⟨k1,x2⟩ H
 replace H:qC a0 a1 k1 x2=_:=H
 try dsimp only
 obtain _ | k1:=k1
 rw [qC]at H;cases H
 rw [qC]at H
 refine aI ?_
 revert H;refine I6 (fun c2 H=>?_) fun c2 H=>?_
 refine Z3 ?_
 refine aI ?_
 refine Z1 ?_
 refine aI ?_
 revert H;refine bs fun y1 h1 H=>?_
 revert H;refine bs fun y2 h2 H=>?_
 apply bL (ods:=[_,_,_,_,_,_,_,_,_]) 9 0 0 bK rfl rfl rfl
 refine ND ?_
 refine M8 ?_
 intros
 refine M1 ?_
 intros
 revert H;refine I2 (fun c3 H=>?_) fun c3 H=>?_
 revert H;refine B10 fun r1 H e1=>?_
 cases e1;cases Hr1
 cases H
 exact To
 revert H;refine B6 fun z1 h3 H=>?_
 refine Z3 ?_
 exact Tm ((k1,z1)) ⟨H,ls⟩
 exact fk
 kernel_rfl
 refine Z6 ?_
 exact Tm (()) (ij H)
 clear H;intro i hi;subst o1;have H:=Hr1;clear Hr1;try dsimp only at H
 try dsimp only
 refine Z4 ?_
 cases H
 exact To
open Go.SX Go.SW Go.Dt
def oC (a0:AO) (a1:AO):Nat->Int->Option ((Unit) ⊕ (Bool))
| 0,_=>none
| k+1,x2=>
 if x2<(a0.AN.length:Int)then
  (idx a0.AN x2).bind fun y1=>
  (idx a1.AN x2).bind fun y2=>
  bif decide (y1.At=y2.At) && decide (y1.Ap=y2.Ap)then
   (chk (x2+1)).bind fun z1=>
   oC a0 a1 k z1
  else
   (some false).bind fun r=>some (Sum.inr r)
 else
  some (Sum.inl ())
def oN (a0:AO) (a1:AO):Nat->Int->Option ((Unit) ⊕ (Bool))
| 0,_=>none
| k+1,x4=>
 if x4<(a0.AR.length:Int)then
  (idx a0.AR x4).bind fun y3=>
  (idx a1.AR x4).bind fun y4=>
  bif decide (y3.In=y4.In) && decide (y3.AV=y4.AV)then
   (chk (x4+1)).bind fun z2=>
   oN a0 a1 k z2
  else
   (some false).bind fun r=>some (Sum.inr r)
 else
  some (Sum.inl ())
def oX (AA:Nat) (a0:AO) (a1:AO):Nat->Int->Option ((Unit) ⊕ (Bool))
| 0,_=>none
| k+1,x6=>
 if x6<(a0.AP.length:Int)then
  (idx a0.AP x6).bind fun y5=>
  (idx a1.AP x6).bind fun y6=>
  if y5.At≠y6.At then
   (some false).bind fun r=>some (Sum.inr r)
  else
   (idx a0.AP x6).bind fun y7=>
   (idx a1.AP x6).bind fun y8=>
   if y7.AV≠y8.AV then
    (some false).bind fun r=>some (Sum.inr r)
   else
    (idx a0.AP x6).bind fun y9=>
    (idx a1.AP x6).bind fun y10=>
    (qM AA y9.AY y10.AY).bind fun y11=>
    bif y11 then
     (chk (x6+1)).bind fun z3=>
     oX AA a0 a1 k z3
    else
     (some false).bind fun r=>some (Sum.inr r)
 else
  some (Sum.inl ())
def wI (AA:Nat) (a0:AO) (a1:AO):Option (Bool):=
 if (a0.AN.length:Int)≠(a1.AN.length:Int)then
  some false
 else
  if (a0.AR.length:Int)≠(a1.AR.length:Int)then
   some false
  else
   if (a0.AP.length:Int)≠(a1.AP.length:Int)then
    some false
   else
    (oC a0 a1 AA 0).bind fun o=>match o with
    | Sum.inr r=>some r
    | Sum.inl _=>
    (oN a0 a1 AA 0).bind fun o=>match o with
    | Sum.inr r=>some r
    | Sum.inl _=>
    (oX AA a0 a1 AA 0).bind fun o=>match o with
    | Sum.inr r=>some r
    | Sum.inl _=>
    some true
theorem aH9 (AA:Nat)  (a0:AO) (a1:AO) (r:Bool) (H:wI AA a0 a1=some r):FnS Tryz.prog 38 [fSt aB a0,fSt aB a1] [] (aK r) (fun _=>[]):=by
 unfold wI at H
 refine bG Tryz.func38 rfl Tryz.ntmps38 rfl (fun β=>?_)
 refine Z1 ?_
 refine T_new a2g rfl rfl (bU rfl (has rfl) bS) (fun b1=>?_)
 refine T_new a2g rfl rfl (bU rfl (has rfl) bS) (fun b2=>?_)
 refine Z2 ?_
 refine aI ?_
 refine Z9 ?_
 revert H;refine is (fun c1 H=>?_) fun c1 H=>?_
 refine Yt c1 ?_
 refine Yt c1 ?_
 refine Yt c1 ?_
 refine Yt c1 ?_
 refine Yt c1 ?_
 refine Yt c1 ?_
 refine Yt c1 ?_
 refine Yy (cZ rfl hh c1 hh) ?_
 refine Z12 ?_
 refine Z3 ?_
 cases H
 refine aE [] (by decide) ?_
 exact eD rfl (bP rfl) rfl
 refine Yg c1 (bV 1 rfl hh (fa rfl) rfl) ?_
 refine Yh 1 rfl c1 (bB rfl hh (sc rfl) rfl Ent.rfl) ?_
 refine Yg c1 (fC rfl hh (us rfl)) ?_
 refine Yg c1 (bV 1 rfl hh (fa rfl) rfl) ?_
 refine Yh 0 rfl c1 (bB rfl hh (sc rfl) rfl Ent.rfl) ?_
 refine Yg c1 (fC rfl hh (us rfl)) ?_
 refine Yg c1 (mK rfl hh hh) ?_
 refine Yy (cL rfl hh c1 hh) ?_
 refine Z1 ?_
 revert H;refine is (fun c2 H=>?_) fun c2 H=>?_
 refine Yt c2 ?_
 refine Yt c2 ?_
 refine Yt c2 ?_
 refine Yt c2 ?_
 refine Yt c2 ?_
 refine Yt c2 ?_
 refine Yt c2 ?_
 refine Yy (cZ rfl hh c2 hh) ?_
 refine Z6 ?_
 cases H
 refine aE [] (by decide) ?_
 exact eD rfl (bP rfl) rfl
 refine Yg c2 (bV 2 rfl hh (fa rfl) rfl) ?_
 refine Yh 1 rfl c2 (bB rfl hh (sc rfl) rfl Ent.rfl) ?_
 refine Yg c2 (fC rfl hh (us rfl)) ?_
 refine Yg c2 (bV 2 rfl hh (fa rfl) rfl) ?_
 refine Yh 0 rfl c2 (bB rfl hh (sc rfl) rfl Ent.rfl) ?_
 refine Yg c2 (fC rfl hh (us rfl)) ?_
 refine Yg c2 (mK rfl hh hh) ?_
 refine Yy (cL rfl hh c2 hh) ?_
 refine Z1 ?_
 revert H;refine is (fun c3 H=>?_) fun c3 H=>?_
 refine dD hh c3 ?_
 refine Z4 ?_
 cases H
 refine aE [] (by decide) ?_
 exact eD rfl (bP rfl) rfl
 refine dB hh c3 ?_
 refine Z2 ?_
 revert H;refine bs fun o1 H Hr1=>?_
 refine aR (ι:=Unit) (fun i=>o1=Sum.inl ()) (fun i=>[(2,fEq (ptr b1)),(3,fEq (ptr b2))]) (fun i=>[aA b2 77 [fSl aW a1.AN,fSl bD a1.AR,fSl aY a1.AP],aA b1 77 [fSl aW a0.AN,fSl bD a0.AR,fSl aY a0.AP]]) ?_ ?_
 refine Z4 ?_
 refine aBa (ι:=Nat × Int) (fun i=>oC a0 a1 i.1 i.2=_) (fun i=>i.1) (fun i=>[(2,fEq (ptr b1)),(3,fEq (ptr b2)),(5,fI i.2)]) (fun i=>[aA b2 77 [fSl aW a1.AN,fSl bD a1.AR,fSl aY a1.AP],aA b1 77 [fSl aW a0.AN,fSl bD a0.AR,fSl aY a0.AP]]) (AA,0) H (Sc (Sc (Sc eM.nil))) rfl ?_
 clear H;rintro⟨k1,x2⟩ H
 replace H:oC a0 a1 k1 x2=_:=H
 try dsimp only
 obtain _ | k1:=k1
 rw [oC]at H;cases H
 rw [oC]at H
 refine aI ?_
 refine Z7 ?_
 revert H;refine is (fun c4 H=>?_) fun c4 H=>?_
 refine dD hh c4 ?_
 refine Z2 ?_
 refine aI ?_
 refine Z1 ?_
 refine aI ?_
 revert H;refine bs fun y1 h1 H=>?_
 revert H;refine bs fun y2 h2 H=>?_
 apply bL (ods:=[_,_,_,_,_,_,_,_,_,_,_]) 11 0 2 bK rfl rfl rfl
 refine ND ?_
 refine M3 ?_
 intros
 refine My (cT rfl hh hh (el rfl) h1) fun _=>?_
 refine M4 ?_
 intros
 refine My (cT rfl hh hh (el rfl) h2) fun _=>?_
 refine M1 ?_
 intros
 refine My (aFD rfl hh hh rfl rfl aJW) fun _=>?_
 refine Z2 ?_
 revert H;refine cs (fun c5 H=>?_) fun c5 H=>?_
 refine dB hh (pL c5) ?_
 refine Z5 ?_
 revert H;refine bs fun z1 h3 H=>?_
 refine Yy (fP rfl hh hh h3) ?_
 refine Z2 ?_
 exact tN ((k1,z1)) ⟨H,a1M _⟩ (Sc (Sc (Sc eM.nil))) rfl
 refine dD hh (qJ c5) ?_
 refine Z9 ?_
 revert H;refine bs fun r1 H e1=>?_
 have e1:=a1V e1;subst e1;have Hr1:=a1V Hr1;subst Hr1
 cases H
 refine aE [] (by decide) ?_
 exact eD rfl (bP rfl) rfl
 exact fk
 kernel_rfl
 refine dB hh c4 ?_
 refine Z5 ?_
 exact tN (()) (a1V H).symm (Sc (Sc eM.nil)) rfl
 clear H;intro i hi;subst o1;have H:=Hr1;clear Hr1;try dsimp only at H
 try dsimp only
 revert H;refine bs fun o2 H Hr2=>?_
 refine aR (ι:=Unit) (fun i=>o2=Sum.inl ()) (fun i=>[(2,fEq (ptr b1)),(3,fEq (ptr b2))]) (fun i=>[aA b2 77 [fSl aW a1.AN,fSl bD a1.AR,fSl aY a1.AP],aA b1 77 [fSl aW a0.AN,fSl bD a0.AR,fSl aY a0.AP]]) ?_ ?_
 refine Z4 ?_
 refine aBa (ι:=Nat × Int) (fun i=>oN a0 a1 i.1 i.2=_) (fun i=>i.1) (fun i=>[(2,fEq (ptr b1)),(3,fEq (ptr b2)),(6,fI i.2)]) (fun i=>[aA b2 77 [fSl aW a1.AN,fSl bD a1.AR,fSl aY a1.AP],aA b1 77 [fSl aW a0.AN,fSl bD a0.AR,fSl aY a0.AP]]) (AA,0) H (Sc (Sc (Sc eM.nil))) rfl ?_
 clear H;rintro⟨k2,x4⟩ H
 replace H:oN a0 a1 k2 x4=_:=H
 try dsimp only
 obtain _ | k2:=k2
 rw [oN]at H;cases H
 rw [oN]at H
 refine aI ?_
 refine Z7 ?_
 revert H;refine is (fun c6 H=>?_) fun c6 H=>?_
 refine dD hh c6 ?_
 refine Z2 ?_
 refine aI ?_
 refine Z1 ?_
 refine aI ?_
 revert H;refine bs fun y3 h4 H=>?_
 revert H;refine bs fun y4 h5 H=>?_
 apply bL (ods:=[_,_,_,_,_,_,_,_,_,_,_]) 11 0 2 bK rfl rfl rfl
 refine ND ?_
 refine M3 ?_
 intros
 refine My (cT rfl hh hh (el rfl) h4) fun _=>?_
 refine M4 ?_
 intros
 refine My (cT rfl hh hh (el rfl) h5) fun _=>?_
 refine M1 ?_
 intros
 refine My (aFD rfl hh hh rfl rfl aIb) fun _=>?_
 refine Z2 ?_
 revert H;refine cs (fun c7 H=>?_) fun c7 H=>?_
 refine dB hh (pL c7) ?_
 refine Z5 ?_
 revert H;refine bs fun z2 h6 H=>?_
 refine Yy (fP rfl hh hh h6) ?_
 refine Z2 ?_
 exact tN ((k2,z2)) ⟨H,a1M _⟩ (Sc (Sc (Sc eM.nil))) rfl
 refine dD hh (qJ c7) ?_
 refine Z9 ?_
 revert H;refine bs fun r2 H e2=>?_
 have e2:=a1V e2;subst e2;have Hr2:=a1V Hr2;subst Hr2
 cases H
 refine aE [] (by decide) ?_
 exact eD rfl (bP rfl) rfl
 exact fk
 kernel_rfl
 refine dB hh c6 ?_
 refine Z5 ?_
 exact tN (()) (a1V H).symm (Sc (Sc eM.nil)) rfl
 clear H;intro i hi;subst o2;have H:=Hr2;clear Hr2;try dsimp only at H
 try dsimp only
 revert H;refine bs fun o3 H Hr3=>?_
 refine aR (ι:=Unit) (fun i=>o3=Sum.inl ()) (fun i=>[]) (fun i=>[aA b2 77 [fSl aW a1.AN,fSl bD a1.AR,fSl aY a1.AP],aA b1 77 [fSl aW a0.AN,fSl bD a0.AR,fSl aY a0.AP]]) ?_ ?_
 refine Z4 ?_
 refine aBa (ι:=Nat × Int) (fun i=>oX AA a0 a1 i.1 i.2=_) (fun i=>i.1) (fun i=>[(2,fEq (ptr b1)),(3,fEq (ptr b2)),(7,fI i.2)]) (fun i=>[aA b2 77 [fSl aW a1.AN,fSl bD a1.AR,fSl aY a1.AP],aA b1 77 [fSl aW a0.AN,fSl bD a0.AR,fSl aY a0.AP]]) (AA,0) H (Sc (Sc (Sc eM.nil))) rfl ?_
 clear H;rintro⟨k3,x6⟩ H
 replace H:oX AA a0 a1 k3 x6=_:=H
 try dsimp only
 obtain _ | k3:=k3
 rw [oX]at H;cases H
 rw [oX]at H
 refine aI ?_
 refine Z7 ?_
 revert H;refine is (fun c8 H=>?_) fun c8 H=>?_
 refine dD hh c8 ?_
 refine Z2 ?_
 refine aI ?_
 refine Z1 ?_
 refine aI ?_
 revert H;refine bs fun y5 h7 H=>?_
 revert H;refine bs fun y6 h8 H=>?_
 revert H;refine is (fun c9 H=>?_) fun c9 H=>?_
 apply bL (ods:=[_,_,_,_,_,_,_,_,_,_,_,_,_,_,_,_,_,_,_,_,_,_,_,_,_,_,_,_,_,_,_,_,_,_,_,_,_,_,_,_,_,_,_,_]) 44 0 2 bK rfl rfl rfl
 refine ND ?_
 refine M3 ?_
 intros
 refine My (cT rfl hh hh (el rfl) h7) fun _=>?_
 refine M5 ?_
 intros
 refine My (cT rfl hh hh (el rfl) h8) fun _=>?_
 refine M4 ?_
 intros
 refine Mt c9 fun _=>?_
 refine Mt c9 fun _=>?_
 refine Mt c9 fun _=>?_
 refine Mt c9 fun _=>?_
 refine Mt c9 fun _=>?_
 refine Mt c9 fun _=>?_
 refine Mt c9 fun _=>?_
 refine Mt c9 fun _=>?_
 refine Mt c9 fun _=>?_
 refine Mt c9 fun _=>?_
 refine Mt c9 fun _=>?_
 refine Mt c9 fun _=>?_
 refine Mt c9 fun _=>?_
 refine My (cZ rfl hh c9 hh) fun _=>?_
 refine M8 ?_
 intros
 refine M8 ?_
 intros
 refine Z12 ?_
 revert H;refine bs fun r3 H e3=>?_
 have e3:=a1V e3;subst e3;have Hr3:=a1V Hr3;subst Hr3
 cases H
 refine aE [] (by decide) ?_
 exact eD rfl (bP rfl) rfl
 exact fk
 kernel_rfl
 revert H;refine bs fun y7 h9 H=>?_
 revert H;refine bs fun y8 h10 H=>?_
 revert H;refine is (fun c10 H=>?_) fun c10 H=>?_
 apply bL (ods:=[_,_,_,_,_,_,_,_,_,_,_,_,_,_,_,_,_,_,_,_,_,_,_,_,_,_,_,_,_,_,_,_,_,_,_,_,_,_,_,_,_,_,_,_]) 44 0 2 bK rfl rfl rfl
 refine ND ?_
 refine M3 ?_
 intros
 refine My (cT rfl hh hh (el rfl) h7) fun _=>?_
 refine M5 ?_
 intros
 refine My (cT rfl hh hh (el rfl) h8) fun _=>?_
 refine M4 ?_
 intros
 refine Mg c9 (bV 2 rfl hh (fa rfl) rfl) fun _=>?_
 refine dJ (od:=odC [1] false (fSl aY a0.AP) [cQ]) (ps:=[1]) (φ:=fSl aY a0.AP) rfl (fun _=>rfl) ⟨_,_,rfl,rfl,c9⟩ rfl rfl (bB rfl hh (sc rfl) rfl Ent.rfl) (fun _=>?_)
 refine Mg c9 (cF rfl hh) fun _=>?_
 refine Mg c9 (cT rfl hh hh (el rfl) h9) fun _=>?_
 refine Mg c9 (gD (t':=tI) (z:=y7.AV) rfl hh (fa rfl) rfl) fun _=>?_
 refine Mg c9 (fY rfl hh (sc rfl) rfl) fun _=>?_
 refine Mg c9 (bV 2 rfl hh (fa rfl) rfl) fun _=>?_
 refine dJ (od:=odC [0] false (fSl aY a1.AP) [cQ]) (ps:=[0]) (φ:=fSl aY a1.AP) rfl (fun _=>rfl) ⟨_,_,rfl,rfl,c9⟩ rfl rfl (bB rfl hh (sc rfl) rfl Ent.rfl) (fun _=>?_)
 refine Mg c9 (cF rfl hh) fun _=>?_
 refine Mg c9 (cT rfl hh hh (el rfl) h10) fun _=>?_
 refine Mg c9 (gD (t':=tI) (z:=y8.AV) rfl hh (fa rfl) rfl) fun _=>?_
 refine Mg c9 (fY rfl hh (sc rfl) rfl) fun _=>?_
 refine Mg c9 (mK rfl hh hh) fun _=>?_
 refine My (cL rfl hh c9 hh) fun _=>?_
 refine M1 ?_
 intros
 refine Mt c10 fun _=>?_
 refine Mt c10 fun _=>?_
 refine Mt c10 fun _=>?_
 refine Mt c10 fun _=>?_
 refine Mt c10 fun _=>?_
 refine Mt c10 fun _=>?_
 refine Mt c10 fun _=>?_
 refine Mt c10 fun _=>?_
 refine Mt c10 fun _=>?_
 refine Mt c10 fun _=>?_
 refine Mt c10 fun _=>?_
 refine Mt c10 fun _=>?_
 refine Mt c10 fun _=>?_
 refine Mt c10 fun _=>?_
 refine My (cZ rfl hh c10 hh) fun _=>?_
 refine Z12 ?_
 revert H;refine bs fun r4 H e4=>?_
 have e4:=a1V e4;subst e4;have Hr3:=a1V Hr3;subst Hr3
 cases H
 refine aE [] (by decide) ?_
 exact eD rfl (bP rfl) rfl
 exact fk
 kernel_rfl
 revert H;refine bs fun y9 h11 H=>?_
 revert H;refine bs fun y10 h12 H=>?_
 revert H;refine bs fun y11 h13 H=>?_
 apply bL (ods:=[_,_,_,_,_,_,_,_,_,_,_,_,_,_,_,_,_,_,_,_,_,_,_,_,_,_,_,_,_,_,_,_,_,_,_,_,_,_,_,_,_,_,_,_]) 44 0 2 bK rfl rfl rfl
 refine ND ?_
 refine M3 ?_
 intros
 refine My (cT rfl hh hh (el rfl) h7) fun _=>?_
 refine M5 ?_
 intros
 refine My (cT rfl hh hh (el rfl) h8) fun _=>?_
 refine M4 ?_
 intros
 refine Mg c9 (bV 2 rfl hh (fa rfl) rfl) fun _=>?_
 refine dJ (od:=odC [1] false (fSl aY a0.AP) [cQ]) (ps:=[1]) (φ:=fSl aY a0.AP) rfl (fun _=>rfl) ⟨_,_,rfl,rfl,c9⟩ rfl rfl (bB rfl hh (sc rfl) rfl Ent.rfl) (fun _=>?_)
 refine Mg c9 (cF rfl hh) fun _=>?_
 refine Mg c9 (cT rfl hh hh (el rfl) h9) fun _=>?_
 refine Mg c9 (gD (t':=tI) (z:=y7.AV) rfl hh (fa rfl) rfl) fun _=>?_
 refine Mg c9 (fY rfl hh (sc rfl) rfl) fun _=>?_
 refine Mg c9 (bV 2 rfl hh (fa rfl) rfl) fun _=>?_
 refine dJ (od:=odC [0] false (fSl aY a1.AP) [cQ]) (ps:=[0]) (φ:=fSl aY a1.AP) rfl (fun _=>rfl) ⟨_,_,rfl,rfl,c9⟩ rfl rfl (bB rfl hh (sc rfl) rfl Ent.rfl) (fun _=>?_)
 refine Mg c9 (cF rfl hh) fun _=>?_
 refine Mg c9 (cT rfl hh hh (el rfl) h10) fun _=>?_
 refine Mg c9 (gD (t':=tI) (z:=y8.AV) rfl hh (fa rfl) rfl) fun _=>?_
 refine Mg c9 (fY rfl hh (sc rfl) rfl) fun _=>?_
 refine Mg c9 (mK rfl hh hh) fun _=>?_
 refine My (cL rfl hh c9 hh) fun _=>?_
 refine M1 ?_
 intros
 refine Mg c10 (bV 2 rfl hh (fa rfl) rfl) fun _=>?_
 refine dJ (od:=odC [1] false (fSl aY a0.AP) [cQ]) (ps:=[1]) (φ:=fSl aY a0.AP) rfl (fun _=>rfl) ⟨_,_,rfl,rfl,c10⟩ rfl rfl (bB rfl hh (sc rfl) rfl Ent.rfl) (fun _=>?_)
 refine Mg c10 (cF rfl hh) fun _=>?_
 refine Mg c10 (cT rfl hh hh (el rfl) h11) fun _=>?_
 refine Mg c10 (gD (t':=(tSl tI)) (z:=y9.AY) rfl hh (fa rfl) rfl) fun _=>?_
 refine Mg c10 (fY rfl hh (sc rfl) rfl) fun _=>?_
 refine Mg c10 (bV 2 rfl hh (fa rfl) rfl) fun _=>?_
 refine dJ (od:=odC [0] false (fSl aY a1.AP) [cQ]) (ps:=[0]) (φ:=fSl aY a1.AP) rfl (fun _=>rfl) ⟨_,_,rfl,rfl,c10⟩ rfl rfl (bB rfl hh (sc rfl) rfl Ent.rfl) (fun _=>?_)
 refine Mg c10 (cF rfl hh) fun _=>?_
 refine Mg c10 (cT rfl hh hh (el rfl) h12) fun _=>?_
 refine Mg c10 (gD (t':=(tSl tI)) (z:=y10.AY) rfl hh (fa rfl) rfl) fun _=>?_
 refine Mg c10 (fY rfl hh (sc rfl) rfl) fun _=>?_
 refine wV (od:=odC [] true (aK y11) []) (Φ:=aK y11) rfl (fun _=>rfl) ⟨_,_,rfl,rfl,c10⟩ rfl rfl (has rfl) (aN.cons (has rfl) (aN.cons (has rfl) aN.nil)) rfl (cb rfl) (zH AA y9.AY y10.AY y11 h13) (fun _=>?_)
 refine Mg c10 (mV rfl hh) fun _=>?_
 refine My (cL rfl hh c10 hh) fun _=>?_
 refine Z2 ?_
 revert H;refine cs (fun c11 H=>?_) fun c11 H=>?_
 refine dB hh (pL c11) ?_
 refine Z5 ?_
 revert H;refine bs fun z3 h14 H=>?_
 refine Yy (fP rfl hh hh h14) ?_
 refine Z2 ?_
 exact tN ((k3,z3)) ⟨H,a1M _⟩ (Sc (Sc (Sc eM.nil))) rfl
 refine dD hh (qJ c11) ?_
 refine Z9 ?_
 revert H;refine bs fun r5 H e5=>?_
 have e5:=a1V e5;subst e5;have Hr3:=a1V Hr3;subst Hr3
 cases H
 refine aE [] (by decide) ?_
 exact eD rfl (bP rfl) rfl
 exact fk
 kernel_rfl
 refine dB hh c8 ?_
 refine Z5 ?_
 exact tN (()) (a1V H).symm eM.nil rfl
 clear H;intro i hi;subst o3;have H:=Hr3;clear Hr3;try dsimp only at H
 try dsimp only
 refine Z4 ?_
 cases H
 refine aE [] (by decide) ?_
 exact eD rfl (bP rfl) rfl
def oJ (rec_r07_sameExp:AS->AS->Option (Bool)) (a0:AS) (a1:AS):Nat->Int->Option ((Unit) ⊕ (Bool))
| 0,_=>none
| k+1,x2=>
 if x2<(a0.AM.length:Int)then
  (idx a0.AM x2).bind fun y1=>
  (idx a1.AM x2).bind fun y2=>
  (rec_r07_sameExp y1 y2).bind fun y3=>
  bif y3 then
   (chk (x2+1)).bind fun z1=>
   oJ rec_r07_sameExp a0 a1 k z1
  else
   (some false).bind fun r=>some (Sum.inr r)
 else
  some (Sum.inl ())
def mN:Nat->AS->AS->Option (Bool)
| 0,_,_=>none
| AA+1,a0,a1=>
 if a0.Op≠a1.Op then
  some false
 else
  if a0.N≠a1.N then
   some false
  else
   if (a0.AM.length:Int)≠(a1.AM.length:Int)then
    some false
   else
    (oJ (mN AA) a0 a1 AA 0).bind fun o=>match o with
    | Sum.inr r=>some r
    | Sum.inl _=>
    some true
theorem aLb:∀ (AA:Nat),(∀  (a0:AS) (a1:AS) (r:Bool) (H:mN AA a0 a1=some r),FnS Tryz.prog 39 [fSt aO a0,fSt aO a1] [] (aK r) (fun _=>[])):=by
 intro AA
 induction AA with
 | zero=>exact fun a0 a1 r H=>(by rw [mN]at H;cases H)
 | succ AA ih=>
 have ih_r07_sameExp:=@ih
 refine ?_
 intro a0 a1 r H
 rw [mN]at H
 refine bG Tryz.func39 rfl Tryz.ntmps39 rfl (fun β=>?_)
 refine Z1 ?_
 refine Tn (bU rfl hh bS) fun b1=>?_
 refine Tn (bU rfl hh bS) fun b2=>?_
 refine Z2 ?_
 refine aI ?_
 revert H;refine I7 (fun c1 H=>?_) fun c1 H=>?_
 refine Z12 ?_
 refine Z9 ?_
 cases H
 refine aE [] (by decide) ?_
 exact To
 revert H;refine I7 (fun c2 H=>?_) fun c2 H=>?_
 refine Z12 ?_
 refine Z2 ?_
 cases H
 refine aE [] (by decide) ?_
 exact To
 refine Z1 ?_
 refine Yh 1 rfl c2 (bB rfl hh (sc rfl) rfl (eS eG)) ?_
 refine Z2 ?_
 refine Yh 0 rfl c2 (bB rfl hh (sc rfl) rfl (eS eG)) ?_
 revert H;refine I4 (fun c3 H=>?_) fun c3 H=>?_
 refine Z5 ?_
 cases H
 refine aE [] (by decide) ?_
 exact To
 revert H;refine B3 fun o1 H Hr1=>?_
 refine aR (ι:=Unit) (fun i=>o1=Sum.inl ()) (fun i=>[]) (fun i=>[aA b2 71 [fI a1.Op,fI a1.N,cU a1.AM],aA b1 71 [fI a0.Op,fI a0.N,cU a0.AM]]) ?_ ?_
 refine Z4 ?_
 refine Tl (ι:=Nat × Int) (fun i=>oJ (mN AA) a0 a1 i.1 i.2=_) (fun i=>i.1) (fun i=>[(2,fEq (ptr b1)),(3,fEq (ptr b2)),(5,fI i.2)]) (fun i=>[aA b2 71 [fI a1.Op,fI a1.N,cU a1.AM],aA b1 71 [fI a0.Op,fI a0.N,cU a0.AM]]) (AA,0) H ?_
 clear H;rintro⟨k1,x2⟩ H
 replace H:oJ (mN AA) a0 a1 k1 x2=_:=H
 try dsimp only
 obtain _ | k1:=k1
 rw [oJ]at H;cases H
 rw [oJ]at H
 refine aI ?_
 refine Z3 ?_
 refine Yo 1 rfl (bB rfl hh (sc rfl) rfl (eS eG)) ?_
 revert H;refine I3 (fun c4 H=>?_) fun c4 H=>?_
 refine Z3 ?_
 refine aI ?_
 refine Z1 ?_
 refine aI ?_
 revert H;refine bs fun y1 h1 H=>?_
 revert H;refine bs fun y2 h2 H=>?_
 revert H;refine bs fun y3 h3 H=>?_
 apply bL (ods:=[_,_,_,_,_,_,_,_,_,_,_,_]) 12 0 2 bK rfl rfl rfl
 refine ND ?_
 refine M1 ?_
 intros
 refine Mo 1 rfl (bB rfl hh (sc rfl) rfl (eS eG)) fun _=>?_
 refine M4 ?_
 intros
 refine Mo 0 rfl (bB rfl hh (sc rfl) rfl (eS eG)) fun _=>?_
 refine M3 ?_
 intros
 refine Nc (ih_r07_sameExp _ _ _ h3) fun _=>?_
 refine M1 ?_
 intros
 refine Z2 ?_
 revert H;refine cs (fun c5 H=>?_) fun c5 H=>?_
 revert H;refine B6 fun z1 h4 H=>?_
 refine Z3 ?_
 exact Tm ((k1,z1)) ⟨H,ls⟩
 revert H;refine B10 fun r1 H e1=>?_
 cases e1;cases Hr1
 cases H
 refine aE [] (by decide) ?_
 exact To
 exact fk
 kernel_rfl
 refine Z6 ?_
 exact Tm (()) (ij H)
 clear H;intro i hi;subst o1;have H:=Hr1;clear Hr1;try dsimp only at H
 try dsimp only
 refine Z4 ?_
 cases H
 refine aE [] (by decide) ?_
 exact To
open Go.SX Go.SW Go.Dt
def pB (a0:AH) (a1:AH):Nat->Int->Option ((Unit) ⊕ (Bool))
| 0,_=>none
| k+1,x2=>
 if x2<(a0.AF.length:Int)then
  (idx a0.AF x2).bind fun y2=>
  (idx a1.AF x2).bind fun y3=>
  if y2≠y3 then
   (some false).bind fun r=>some (Sum.inr r)
  else
   (chk (x2+1)).bind fun z1=>
   pB a0 a1 k z1
 else
  some (Sum.inl ())
def pM (AA:Nat) (a0:AH) (a1:AH):Nat->Int->Option ((Unit) ⊕ (Bool))
| 0,_=>none
| k+1,x4=>
 if x4<(a0.AE.length:Int)then
  (idx a0.AE x4).bind fun y4=>
  (idx a1.AE x4).bind fun y5=>
  (wI AA y4 y5).bind fun y6=>
  bif y6 then
   (chk (x4+1)).bind fun z2=>
   pM AA a0 a1 k z2
  else
   (some false).bind fun r=>some (Sum.inr r)
 else
  some (Sum.inl ())
def pR (AA:Nat) (y7:Aj) (y8:Aj):Nat->Int->Option ((Unit) ⊕ ((Unit) ⊕ (Bool)))
| 0,_=>none
| k+1,x8=>
 if x8<(y7.AU.length:Int)then
  (idx y7.AU x8).bind fun y11=>
  (idx y8.AU x8).bind fun y12=>
  (mN AA y11 y12).bind fun y13=>
  bif y13 then
   (chk (x8+1)).bind fun z3=>
   pR AA y7 y8 k z3
  else
   ((some false).bind fun r=>some (Sum.inr r)).bind fun r=>some (Sum.inr r)
 else
  some (Sum.inl ())
def qI (AA:Nat) (a0:AH) (a1:AH):Nat->Int->Option ((Unit) ⊕ (Bool))
| 0,_=>none
| k+1,x6=>
 if x6<(a0.AD.length:Int)then
  ((idx a0.AD x6).bind fun y7=>
  (idx a1.AD x6).bind fun y8=>
  if y7.Op≠y8.Op then
   ((some false).bind fun r=>some (Sum.inr r)).bind fun r=>some (Sum.inr r)
  else
   if y7.N≠y8.N then
    ((some false).bind fun r=>some (Sum.inr r)).bind fun r=>some (Sum.inr r)
   else
    if (y7.AU.length:Int)≠(y8.AU.length:Int)then
     ((some false).bind fun r=>some (Sum.inr r)).bind fun r=>some (Sum.inr r)
    else
     (qM AA y7.AM y8.AM).bind fun y9=>
     bif !y9 then
      ((some false).bind fun r=>some (Sum.inr r)).bind fun r=>some (Sum.inr r)
     else
      (qM AA y7.AQ y8.AQ).bind fun y10=>
      bif y10 then
       pR AA y7 y8 AA 0
      else
       ((some false).bind fun r=>some (Sum.inr r)).bind fun r=>some (Sum.inr r)).bind fun o=>match o with
  | Sum.inr r=>some r
  | Sum.inl _=>
  (chk (x6+1)).bind fun z4=>
  qI AA a0 a1 k z4
 else
  some (Sum.inl ())
def yL (AA:Nat) (a0:AH) (a1:AH):Option (Bool):=
 if a0.AG≠a1.AG then
  some false
 else
  if (a0.AF.length:Int)≠(a1.AF.length:Int)then
   some false
  else
   (qM AA a0.AQ a1.AQ).bind fun y1=>
   bif !y1 then
    some false
   else
    if (a0.AD.length:Int)≠(a1.AD.length:Int)then
     some false
    else
     if (a0.AE.length:Int)≠(a1.AE.length:Int)then
      some false
     else
      (pB a0 a1 AA 0).bind fun o=>match o with
      | Sum.inr r=>some r
      | Sum.inl _=>
      (pM AA a0 a1 AA 0).bind fun o=>match o with
      | Sum.inr r=>some r
      | Sum.inl _=>
      (qI AA a0 a1 AA 0).bind fun o=>match o with
      | Sum.inr r=>some r
      | Sum.inl _=>
      some true
theorem aKc (AA:Nat)  (a0:AH) (a1:AH) (r:Bool) (H:yL AA a0 a1=some r):FnS Tryz.prog 9 [fSt oK a0,fSt oK a1] [] (aK r) (fun _=>[]):=by
 unfold yL at H
 refine bG Tryz.func9 rfl Tryz.ntmps9 rfl (fun β=>?_)
 refine Z1 ?_
 refine Tn (bU rfl hh bS) fun b1=>?_
 refine Tn (bU rfl hh bS) fun b2=>?_
 refine Z2 ?_
 refine aI ?_
 revert H;refine I7 (fun c1 H=>?_) fun c1 H=>?_
 refine Z12 ?_
 refine Z12 ?_
 refine Z12 ?_
 refine Z4 ?_
 cases H
 refine aE [] (by decide) ?_
 exact To
 revert H;refine I9 (fun c2 H=>?_) fun c2 H=>?_
 refine Z12 ?_
 refine Z12 ?_
 refine Z7 ?_
 cases H
 refine aE [] (by decide) ?_
 exact To
 revert H;refine B4 fun y1 h1 H=>?_
 refine Tc (zH _ _ _ _ h1) ?_
 refine Z3 ?_
 revert H;refine cs (fun c3 H=>?_) fun c3 H=>?_
 refine Z12 ?_
 refine Z11 ?_
 cases H
 refine aE [] (by decide) ?_
 exact To
 revert H;refine I9 (fun c4 H=>?_) fun c4 H=>?_
 refine Z12 ?_
 refine Z2 ?_
 cases H
 refine aE [] (by decide) ?_
 exact To
 revert H;refine I9 (fun c5 H=>?_) fun c5 H=>?_
 refine Z5 ?_
 cases H
 refine aE [] (by decide) ?_
 exact To
 revert H;refine B3 fun o1 H Hr1=>?_
 refine aR (ι:=Unit) (fun i=>o1=Sum.inl ()) (fun i=>[(2,fEq (ptr b1)),(3,fEq (ptr b2))]) (fun i=>[aA b2 30 [fSl aD a1.AF,fSl tI a1.AQ,fSl bM a1.AD,fSl aB a1.AE,fI a1.AG],aA b1 30 [fSl aD a0.AF,fSl tI a0.AQ,fSl bM a0.AD,fSl aB a0.AE,fI a0.AG]]) ?_ ?_
 refine Z4 ?_
 refine Tl (ι:=Nat × Int) (fun i=>pB a0 a1 i.1 i.2=_) (fun i=>i.1) (fun i=>[(2,fEq (ptr b1)),(3,fEq (ptr b2)),(5,fI i.2)]) (fun i=>[aA b2 30 [fSl aD a1.AF,fSl tI a1.AQ,fSl bM a1.AD,fSl aB a1.AE,fI a1.AG],aA b1 30 [fSl aD a0.AF,fSl tI a0.AQ,fSl bM a0.AD,fSl aB a0.AE,fI a0.AG]]) (AA,0) H ?_
 clear H;rintro⟨k1,x2⟩ H
 replace H:pB a0 a1 k1 x2=_:=H
 try dsimp only
 obtain _ | k1:=k1
 rw [pB]at H;cases H
 rw [pB]at H
 refine aI ?_
 revert H;refine I7 (fun c6 H=>?_) fun c6 H=>?_
 refine Z3 ?_
 refine aI ?_
 refine Z1 ?_
 refine aI ?_
 revert H;refine bs fun y2 h2 H=>?_
 revert H;refine bs fun y3 h3 H=>?_
 apply bL (ods:=[_,_,_,_,_,_,_,_,_,_,_]) 11 0 2 bK rfl rfl rfl
 refine ND ?_
 refine M8 ?_
 intros
 refine M2 ?_
 intros
 refine My (o_neqS rfl hh hh) fun _=>?_
 revert H;refine I2 (fun c7 H=>?_) fun c7 H=>?_
 revert H;refine B10 fun r1 H e1=>?_
 cases e1;cases Hr1
 cases H
 refine aE [] (by decide) ?_
 exact To
 revert H;refine B6 fun z1 h4 H=>?_
 refine Z3 ?_
 exact Tm ((k1,z1)) ⟨H,ls⟩
 exact fk
 kernel_rfl
 refine Z6 ?_
 exact Tm (()) (ij H)
 clear H;intro i hi;subst o1;have H:=Hr1;clear Hr1;try dsimp only at H
 try dsimp only
 revert H;refine bs fun o2 H Hr2=>?_
 refine aR (ι:=Unit) (fun i=>o2=Sum.inl ()) (fun i=>[(2,fEq (ptr b1)),(3,fEq (ptr b2))]) (fun i=>[aA b2 30 [fSl aD a1.AF,fSl tI a1.AQ,fSl bM a1.AD,fSl aB a1.AE,fI a1.AG],aA b1 30 [fSl aD a0.AF,fSl tI a0.AQ,fSl bM a0.AD,fSl aB a0.AE,fI a0.AG]]) ?_ ?_
 refine Z4 ?_
 refine Tl (ι:=Nat × Int) (fun i=>pM AA a0 a1 i.1 i.2=_) (fun i=>i.1) (fun i=>[(2,fEq (ptr b1)),(3,fEq (ptr b2)),(6,fI i.2)]) (fun i=>[aA b2 30 [fSl aD a1.AF,fSl tI a1.AQ,fSl bM a1.AD,fSl aB a1.AE,fI a1.AG],aA b1 30 [fSl aD a0.AF,fSl tI a0.AQ,fSl bM a0.AD,fSl aB a0.AE,fI a0.AG]]) (AA,0) H ?_
 clear H;rintro⟨k2,x4⟩ H
 replace H:pM AA a0 a1 k2 x4=_:=H
 try dsimp only
 obtain _ | k2:=k2
 rw [pM]at H;cases H
 rw [pM]at H
 refine aI ?_
 revert H;refine I7 (fun c8 H=>?_) fun c8 H=>?_
 refine Z3 ?_
 refine aI ?_
 refine Z1 ?_
 refine aI ?_
 revert H;refine bs fun y4 h5 H=>?_
 revert H;refine bs fun y5 h6 H=>?_
 revert H;refine bs fun y6 h7 H=>?_
 apply bL (ods:=[_,_,_,_,_,_,_,_,_,_,_,_]) 12 0 2 bK rfl rfl rfl
 refine ND ?_
 refine M8 ?_
 intros
 refine M2 ?_
 intros
 refine Nc (aH9 _ _ _ _ h7) fun _=>?_
 refine M1 ?_
 intros
 refine Z2 ?_
 revert H;refine cs (fun c9 H=>?_) fun c9 H=>?_
 revert H;refine B6 fun z2 h8 H=>?_
 refine Z3 ?_
 exact Tm ((k2,z2)) ⟨H,ls⟩
 revert H;refine B10 fun r2 H e2=>?_
 cases e2;cases Hr2
 cases H
 refine aE [] (by decide) ?_
 exact To
 exact fk
 kernel_rfl
 refine Z6 ?_
 exact Tm (()) (ij H)
 clear H;intro i hi;subst o2;have H:=Hr2;clear Hr2;try dsimp only at H
 try dsimp only
 revert H;refine bs fun o3 H Hr3=>?_
 refine aR (ι:=Unit) (fun i=>o3=Sum.inl ()) (fun i=>[]) (fun i=>[aA b2 30 [fSl aD a1.AF,fSl tI a1.AQ,fSl bM a1.AD,fSl aB a1.AE,fI a1.AG],aA b1 30 [fSl aD a0.AF,fSl tI a0.AQ,fSl bM a0.AD,fSl aB a0.AE,fI a0.AG]]) ?_ ?_
 refine Z4 ?_
 refine Tl (ι:=Nat × Int) (fun i=>qI AA a0 a1 i.1 i.2=_) (fun i=>i.1) (fun i=>[(2,fEq (ptr b1)),(3,fEq (ptr b2)),(7,fI i.2)]) (fun i=>[aA b2 30 [fSl aD a1.AF,fSl tI a1.AQ,fSl bM a1.AD,fSl aB a1.AE,fI a1.AG],aA b1 30 [fSl aD a0.AF,fSl tI a0.AQ,fSl bM a0.AD,fSl aB a0.AE,fI a0.AG]]) (AA,0) H ?_
 clear H;rintro⟨k3,x6⟩ H
 replace H:qI AA a0 a1 k3 x6=_:=H
 try dsimp only
 obtain _ | k3:=k3
 rw [qI]at H;cases H
 rw [qI]at H
 refine aI ?_
 revert H;refine I7 (fun c10 H=>?_) fun c10 H=>?_
 revert H;refine B3 fun o4 H Hr4=>?_
 refine aR (ι:=Unit) (fun i=>o4=Sum.inl ()) (fun i=>[(2,fEq (ptr b1)),(3,fEq (ptr b2)),(7,fI x6)]) (fun i=>[aA b2 30 [fSl aD a1.AF,fSl tI a1.AQ,fSl bM a1.AD,fSl aB a1.AE,fI a1.AG],aA b1 30 [fSl aD a0.AF,fSl tI a0.AQ,fSl bM a0.AD,fSl aB a0.AE,fI a0.AG]]) ?_ ?_
 refine Z1 ?_
 refine aI ?_
 revert H;refine bs fun y7 h9 H=>?_
 revert H;refine bs fun y8 h10 H=>?_
 apply bL (ods:=[_,_,_,_,_,_,_,_,_,_,_,_,_,_]) 14 2 4 bK rfl rfl rfl
 refine ND ?_
 refine M8 ?_
 intros
 refine M2 ?_
 intros
 refine Mn 2 (fun b3=>ptr b3) (fun b3=>aA b3 54 [fI 0,fI 0,fEq (.slice none 0 0),fEq (.slice none 0 0),fEq (.slice none 0 0)]) rfl (bN rfl tR rfl) (fun b3 u1=>?_)
 refine Mn 3 (fun b4=>ptr b4) (fun b4=>aA b4 54 [fI 0,fI 0,fEq (.slice none 0 0),fEq (.slice none 0 0),fEq (.slice none 0 0)]) rfl (bN rfl tR rfl) (fun b4 u2=>?_)
 refine pA (od:=od1 10 [2] true (fun b3 _=>dX) (fun b3 _=>[aA b3 54 [fI y7.Op,fI y7.N,fSl aO y7.AU,fSl tI y7.AM,fSl tI y7.AQ]])) (p:=2) (φs':=[fI y7.Op,fI y7.N,fSl aO y7.AU,fSl tI y7.AM,fSl tI y7.AQ]) rfl (fun _=>rfl) (fun _=>rfl) a2g rfl rfl rfl (has rfl) (has rfl) (aF (aH a2g) (aF (aH a2g) (aF (aS) (aF (aS) (aF (aS) bF))))) (sz rfl) rfl rfl rfl (fun _=>?_)
 refine pA (od:=od1 11 [3] true (fun b4 _=>dX) (fun b4 _=>[aA b4 54 [fI y8.Op,fI y8.N,fSl aO y8.AU,fSl tI y8.AM,fSl tI y8.AQ]])) (p:=3) (φs':=[fI y8.Op,fI y8.N,fSl aO y8.AU,fSl tI y8.AM,fSl tI y8.AQ]) rfl (fun _=>rfl) (fun _=>rfl) a2g rfl rfl rfl (has rfl) (has rfl) (aF (aH a2g) (aF (aH a2g) (aF (aS) (aF (aS) (aF (aS) bF))))) (sz rfl) rfl rfl rfl (fun _=>?_)
 refine Z2 ?_
 refine aI ?_
 revert H;refine I7 (fun c11 H=>?_) fun c11 H=>?_
 refine Z12 ?_
 refine Z12 ?_
 refine Z12 ?_
 revert H;refine B3 fun r3 H e3=>?_
 cases e3;cases Hr4
 revert H;refine B3 fun r4 H e4=>?_
 cases e4;cases Hr3
 cases H
 refine aE [] (by decide) ?_
 exact To
 revert H;refine I7 (fun c12 H=>?_) fun c12 H=>?_
 refine Z12 ?_
 refine Z12 ?_
 revert H;refine B8 fun r5 H e5=>?_
 cases e5;cases Hr4
 revert H;refine B3 fun r6 H e6=>?_
 cases e6;cases Hr3
 cases H
 refine aE [] (by decide) ?_
 exact To
 revert H;refine I9 (fun c13 H=>?_) fun c13 H=>?_
 refine Z12 ?_
 revert H;refine B11 fun r7 H e7=>?_
 cases e7;cases Hr4
 revert H;refine B3 fun r8 H e8=>?_
 cases e8;cases Hr3
 cases H
 refine aE [] (by decide) ?_
 exact To
 revert H;refine B4 fun y9 h11 H=>?_
 refine Tc (zH _ _ _ _ h11) ?_
 refine Z3 ?_
 revert H;refine cs (fun c14 H=>?_) fun c14 H=>?_
 refine Z12 ?_
 revert H;refine B3 fun r9 H e9=>?_
 cases e9;cases Hr4
 revert H;refine B3 fun r10 H e10=>?_
 cases e10;cases Hr3
 cases H
 refine aE [] (by decide) ?_
 exact To
 revert H;refine B4 fun y10 h12 H=>?_
 refine Tc (zH _ _ _ _ h12) ?_
 refine Z3 ?_
 revert H;refine cs (fun c15 H=>?_) fun c15 H=>?_
 refine Z7 ?_
 refine Tl (ι:=Nat × Int) (fun i=>pR AA y7 y8 i.1 i.2=_) (fun i=>i.1) (fun i=>[(2,fEq (ptr b1)),(3,fEq (ptr b2)),(7,fI x6),(8,fEq (ptr b3)),(9,fEq (ptr b4)),(10,fI i.2)]) (fun i=>[aA b2 30 [fSl aD a1.AF,fSl tI a1.AQ,fSl bM a1.AD,fSl aB a1.AE,fI a1.AG],aA b1 30 [fSl aD a0.AF,fSl tI a0.AQ,fSl bM a0.AD,fSl aB a0.AE,fI a0.AG],aA b3 54 [fI y7.Op,fI y7.N,fSl aO y7.AU,fSl tI y7.AM,fSl tI y7.AQ],aA b4 54 [fI y8.Op,fI y8.N,fSl aO y8.AU,fSl tI y8.AM,fSl tI y8.AQ]]) (AA,0) H ?_
 clear H;rintro⟨k4,x8⟩ H
 replace H:pR AA y7 y8 k4 x8=_:=H
 try dsimp only
 obtain _ | k4:=k4
 rw [pR]at H;cases H
 rw [pR]at H
 refine aI ?_
 revert H;refine I7 (fun c16 H=>?_) fun c16 H=>?_
 refine Z3 ?_
 refine aI ?_
 refine Z1 ?_
 refine aI ?_
 revert H;refine bs fun y11 h13 H=>?_
 revert H;refine bs fun y12 h14 H=>?_
 revert H;refine bs fun y13 h15 H=>?_
 apply bL (ods:=[_,_,_,_,_,_,_,_,_,_,_,_]) 12 0 4 bK rfl rfl rfl
 refine ND ?_
 refine M8 ?_
 intros
 refine M2 ?_
 intros
 refine Nc (aLb _ _ _ _ h15) fun _=>?_
 refine M1 ?_
 intros
 refine Z2 ?_
 revert H;refine cs (fun c17 H=>?_) fun c17 H=>?_
 revert H;refine B6 fun z3 h16 H=>?_
 refine Z3 ?_
 exact Tm ((k4,z3)) ⟨H,ls⟩
 revert H;refine B11 fun r11 H e11=>?_
 cases e11;cases Hr4
 revert H;refine B3 fun r12 H e12=>?_
 cases e12;cases Hr3
 cases H
 refine aE [] (by decide) ?_
 exact To
 exact fk
 kernel_rfl
 refine Z7 ?_
 refine aE [0,1] (by decide) ?_
 exact Tm (()) (ij H)
 revert H;refine B7 fun r13 H e13=>?_
 cases e13;cases Hr4
 revert H;refine B3 fun r14 H e14=>?_
 cases e14;cases Hr3
 cases H
 refine aE [] (by decide) ?_
 exact To
 exact fk
 kernel_rfl
 clear H;intro i hi;subst o4;have H:=Hr4;clear Hr4;try dsimp only at H
 try dsimp only
 revert H;refine B2 fun z4 h17 H=>?_
 refine Z3 ?_
 exact Tm ((k3,z4)) ⟨H,ls⟩
 refine Z6 ?_
 exact Tm (()) (ij H)
 clear H;intro i hi;subst o3;have H:=Hr3;clear Hr3;try dsimp only at H
 try dsimp only
 refine Z4 ?_
 cases H
 refine aE [] (by decide) ?_
 exact To
def oQ (a0:List Int) (a1:Int):Nat->Int->Option ((Unit) ⊕ (Bool))
| 0,_=>none
| k+1,x2=>
 if x2<(a0.length:Int)then
  ((idx a0 x2).bind fun y1=>
  if y1<0 then
   ((some false).bind fun r=>some (Sum.inr r)).bind fun r=>some (Sum.inr r)
  else
   if a1<=y1 then
    ((some false).bind fun r=>some (Sum.inr r)).bind fun r=>some (Sum.inr r)
   else
    if 0<x2 then
     (chk (x2 - 1)).bind fun z1=>
     (idx a0 z1).bind fun y2=>
     if y1<=y2 then
      ((some false).bind fun r=>some (Sum.inr r)).bind fun r=>some (Sum.inr r)
     else
      some (Sum.inl ())
    else
     some (Sum.inl ())).bind fun o=>match o with
  | Sum.inr r=>some r
  | Sum.inl _=>
  (chk (x2+1)).bind fun z2=>
  oQ a0 a1 k z2
 else
  some (Sum.inl ())
def sU (AA:Nat) (a0:List Int) (a1:Int):Option (Bool):=
 (oQ a0 a1 AA 0).bind fun o=>match o with
 | Sum.inr r=>some r
 | Sum.inl _=>
 some true
theorem aDY (AA:Nat)  (a0:List Int) (a1:Int) (r:Bool) (H:sU AA a0 a1=some r):FnS Tryz.prog 76 [fSl tI a0,fI a1] [] (aK r) (fun _=>[]):=by
 unfold sU at H
 refine bG Tryz.func76 rfl Tryz.ntmps76 rfl (fun β=>?_)
 revert H;refine B3 fun o1 H Hr1=>?_
 refine aR (ι:=Unit) (fun i=>o1=Sum.inl ()) (fun i=>[]) (fun i=>[]) ?_ ?_
 refine Z6 ?_
 refine Tl (ι:=Nat × Int) (fun i=>oQ a0 a1 i.1 i.2=_) (fun i=>i.1) (fun i=>[(0,fSl tI a0),(1,fI a1),(7,fSl tI a0),(8,fI (a0.length:Int)),(9,fI i.2)]) (fun i=>[]) (AA,0) H ?_
 clear H;rintro⟨k1,x2⟩ H
 replace H:oQ a0 a1 k1 x2=_:=H
 try dsimp only
 obtain _ | k1:=k1
 rw [oQ]at H;cases H
 rw [oQ]at H
 refine Z3 ?_
 refine aI ?_
 revert H;refine is (fun c1 H=>?_) fun c1 H=>?_
 revert H;refine B3 fun o2 H Hr2=>?_
 refine aR (ι:=Unit) (fun i=>o2=Sum.inl ()) (fun i=>[(0,fSl tI a0),(1,fI a1),(7,fSl tI a0),(8,fI (a0.length:Int)),(9,fI x2)]) (fun i=>[]) ?_ ?_
 revert H;refine B3 fun y1 h1 H=>?_
 revert H;refine I9 (fun c2 H=>?_) fun c2 H=>?_
 refine Z8 ?_
 refine cR (⟨_,_,_,_,rfl,rfl,rfl,nu⟩) rfl rfl ?_
 refine cR (⟨_,_,_,_,rfl,rfl,rfl,nu⟩) rfl rfl ?_
 refine cR (⟨_,_,_,_,rfl,rfl,rfl,nu⟩) rfl rfl ?_
 refine cR (⟨_,_,_,_,rfl,rfl,rfl,nu⟩) rfl rfl ?_
 refine cR (⟨_,_,_,_,rfl,rfl,rfl,nu⟩) rfl rfl ?_
 refine cR (⟨_,_,_,_,rfl,rfl,rfl,nu⟩) rfl rfl ?_
 refine cR (⟨_,_,_,_,rfl,rfl,rfl,nu⟩) rfl rfl ?_
 revert H;refine B10 fun r1 H e1=>?_
 cases e1;cases Hr2
 revert H;refine B3 fun r2 H e2=>?_
 cases e2;cases Hr1
 cases H
 exact To
 revert H;refine I5 (fun c3 H=>?_) fun c3 H=>?_
 refine Z3 ?_
 refine cR (⟨_,_,_,_,rfl,rfl,rfl,nu⟩) rfl rfl ?_
 refine cR (⟨_,_,_,_,rfl,rfl,rfl,nu⟩) rfl rfl ?_
 refine cR (⟨_,_,_,_,rfl,rfl,rfl,nu⟩) rfl rfl ?_
 refine cR (⟨_,_,_,_,rfl,rfl,rfl,nu⟩) rfl rfl ?_
 refine cR (⟨_,_,_,_,rfl,rfl,rfl,nu⟩) rfl rfl ?_
 refine cR (⟨_,_,_,_,rfl,rfl,rfl,nu⟩) rfl rfl ?_
 refine cR (⟨_,_,_,_,rfl,rfl,rfl,nu⟩) rfl rfl ?_
 revert H;refine B10 fun r3 H e3=>?_
 cases e3;cases Hr2
 revert H;refine B3 fun r4 H e4=>?_
 cases e4;cases Hr1
 cases H
 exact To
 revert H;refine I3 (fun c4 H=>?_) fun c4 H=>?_
 revert H;refine B3 fun z1 h2 H=>?_
 revert H;refine B1 fun y2 h3 H=>?_
 revert H;refine I6 (fun c5 H=>?_) fun c5 H=>?_
 revert H;refine B7 fun r5 H e5=>?_
 cases e5;cases Hr2
 revert H;refine B3 fun r6 H e6=>?_
 cases e6;cases Hr1
 cases H
 exact To
 refine Z4 ?_
 exact Tm (()) (ij H)
 refine Z12 ?_
 refine Z2 ?_
 exact Tm (()) (ij H)
 clear H;intro i hi;subst o2;have H:=Hr2;clear Hr2;try dsimp only at H
 try dsimp only
 revert H;refine B1 fun z2 h4 H=>?_
 refine Z3 ?_
 exact Tm ((k1,z2)) ⟨H,ls⟩
 refine Z6 ?_
 exact Tm (()) (ij H)
 clear H;intro i hi;subst o1;have H:=Hr1;clear Hr1;try dsimp only at H
 try dsimp only
 refine Z4 ?_
 cases H
 exact To
def pO (a0:List Int) (a1:List Int):Nat->(List Int)->Int->Option (List Int)
| 0,_,_=>none
| k+1,x4,x5=>
 if x5<(a1.length:Int)then
  (idx a1 x5).bind fun y1=>
  (idx a0 y1).bind fun y2=>
  (dG (x4++[y2])).bind fun z1=>
  (chk (x5+1)).bind fun z2=>
  pO a0 a1 k z1 z2
 else
  some x4
def vV (AA:Nat) (a0:List Int) (a1:List Int):Option (List Int):=
 (pO a0 a1 AA [] 0).bind fun x1=>
 some x1
theorem aKA (AA:Nat)  (a0:List Int) (a1:List Int) (r:List Int) (H:vV AA a0 a1=some r):FnS Tryz.prog 106 [fSl tI a0,fSl tI a1] [] (fSl tI r) (fun _=>[]):=by
 unfold vV at H
 refine bG Tryz.func106 rfl Tryz.ntmps106 rfl (fun β=>?_)
 revert H;refine B6 fun o1 H Hr1=>?_
 refine aR (ι:=List Int × Value) (fun i=>o1=i.1) (fun i=>[(5,fEq i.2)]) (fun i=>[aC i.2 3 tI i.1]) ?_ ?_
 refine Z6 ?_
 refine iW tI 3 ?_
 refine Tl (ι:=Nat × List Int × Int × Value) (fun i=>pO a0 a1 i.1 i.2.1 i.2.2.1=_) (fun i=>i.1) (fun i=>[(0,fSl tI a0),(5,fEq i.2.2.2),(8,fSl tI a1),(9,fI (a1.length:Int)),(10,fI i.2.2.1)]) (fun i=>[aC i.2.2.2 3 tI i.2.1]) (AA,[],0,(.slice none 0 0)) H ?_
 clear H;rintro⟨k1,x4,x5,v3⟩ H
 replace H:pO a0 a1 k1 x4 x5=_:=H
 try dsimp only
 obtain _ | k1:=k1
 rw [pO]at H;cases H
 rw [pO]at H
 refine aJ 0 rfl (fun hc_v3=>?_)
 refine Z3 ?_
 refine aI ?_
 revert H;refine is (fun c1 H=>?_) fun c1 H=>?_
 refine Z3 ?_
 refine aI ?_
 revert H;refine B2 fun y1 h1 H=>?_
 revert H;refine B8 fun y2 h2 H=>?_
 refine Z2 ?_
 refine Tn (gR (t:=tI) (xs:=[y2]) rfl (et rfl) (cM.cons rfl (has rfl) (cJ (aH a2g)) cM.nil) rfl rfl rfl) fun b1=>?_
 generalize (Value.slice (some ⟨b1,0,none⟩) _ _)=v4
 refine aJ 0 rfl (fun hc_v4=>?_)
 revert H;refine bs fun z1 h3 H=>?_
 refine lL a2g rfl rfl rfl (has rfl) (has rfl) (et rfl) rfl h3 (fun v5=>?_)
 refine aJ 0 rfl (fun hc_v5=>?_)
 revert H;refine B5 fun z2 h4 H=>?_
 refine Z3 ?_
 exact Tm ((k1,z1,z2,v5)) ⟨H,ls⟩
 refine Z6 ?_
 exact Tm ((x4,v3)) (ij H)
 clear H;intro i hi;obtain⟨x1,v1⟩:=i;subst o1;have H:=Hr1;clear Hr1;try dsimp only at H
 try dsimp only
 refine aJ 0 rfl (fun hc_v1=>?_)
 refine Z5 ?_
 refine cE (φ:=fSl tI x1) (v:=v1) [5,22,4] dI fz ?_
 refine cD ?_
 cases H
 exact To
open Go.SX Go.SW Go.Dt
def lY (rec_flat_exp:AS->(List Int)->Option (AS × Bool)) (a0:AS) (a1:List Int) (x1:Int):Nat->Int->(List AS)->Option ((List AS) ⊕ (AS × Bool))
| 0,_,_=>none
| k+1,x5,x6=>
 if x5<(a0.AM.length:Int)then
  (idx a0.AM x5).bind fun y2=>
  (rec_flat_exp (⟨y2.Op,y2.N,y2.AM⟩:AS) a1).bind fun y3=>
  bif y3.2 then
   (dG (x6++[(⟨y3.1.Op,y3.1.N,y3.1.AM⟩:AS)])).bind fun z1=>
   (chk (x5+1)).bind fun z2=>
   lY rec_flat_exp a0 a1 x1 k z2 z1
  else
   (some ((⟨a0.Op,x1,x6⟩:AS),false)).bind fun r=>some (Sum.inr r)
 else
  some (Sum.inl x6)
def kN:Nat->AS->(List Int)->Option (AS × Bool)
| 0,_,_=>none
| AA+1,a0,a1=>
 (if a0.Op=2 then
  if a0.N<0 then
   (some ((⟨a0.Op,a0.N,[]⟩:AS),false)).bind fun r=>some (Sum.inr r)
  else
   if (a1.length:Int)<=a0.N then
    (some ((⟨a0.Op,a0.N,[]⟩:AS),false)).bind fun r=>some (Sum.inr r)
   else
    (idx a1 a0.N).bind fun y1=>
    some (Sum.inl y1)
 else
  some (Sum.inl a0.N)).bind fun o=>match o with
 | Sum.inr r=>some r
 | Sum.inl x1=>
 (lY (kN AA) a0 a1 x1 AA 0 []).bind fun o=>match o with
 | Sum.inr r=>some r
 | Sum.inl x2=>
 some ((⟨a0.Op,x1,x2⟩:AS),true)
theorem aJG:∀ (AA:Nat),(∀  (a0:AS) (a1:List Int) (r:AS × Bool) (H:kN AA a0 a1=some r),FnS Tryz.prog 107 [fSt aO a0,fSl tI a1] [] (dF [fSt aO r.1,aK r.2]) (fun _=>[])):=by
 intro AA
 induction AA with
 | zero=>exact fun a0 a1 r H=>(by rw [kN]at H;cases H)
 | succ AA ih=>
 have ih_flat_exp:=@ih
 refine ?_
 intro a0 a1 r H
 rw [kN]at H
 refine bG Tryz.func107 rfl Tryz.ntmps107 rfl (fun β=>?_)
 refine Z1 ?_
 refine Tn (bU rfl hh bS) fun b1=>?_
 refine Tn (bN rfl iP rfl) fun b2=>?_
 refine Z7 ?_
 refine Yy (gP (ψs:=[fI a0.Op,fI a0.N,fEq (.slice none 0 0)]) rfl aFL rfl (bQ.cons (has rfl) (cJ (aH a2g)) (bQ.cons (has rfl) (cJ (aH a2g)) bQ.nil)) rfl) ?_
 refine Tn (bN rfl iP rfl) fun b3=>?_
 refine cG (φs':=[fI a0.Op,fI a0.N,fEq (.slice none 0 0)]) a2g rfl rfl (has rfl) (has rfl) (aF (aH a2g) (aF (aH a2g) (aF (aH a2g) bF))) (sz rfl) rfl rfl rfl ?_
 revert H;refine B1 fun o1 H Hr1=>?_
 refine aR (ι:=Int) (fun i=>o1=Sum.inl i) (fun i=>[(1,fSl tI a1),(2,fEq (ptr b1)),(4,fEq (ptr b2)),(6,fEq (ptr b3))]) (fun i=>[aA b3 71 [fI a0.Op,fI i,fEq (.slice none 0 0)],aA b2 71 [fI 0,fI 0,fEq (.slice none 0 0)],aA b1 71 [fI a0.Op,fI a0.N,cU a0.AM]]) ?_ ?_
 revert H;refine I5 (fun c1 H=>?_) fun c1 H=>?_
 refine Z1 ?_
 refine aI ?_
 revert H;refine I5 (fun c2 H=>?_) fun c2 H=>?_
 refine Z10 ?_
 refine cK ?_
 refine cG (φs':=[fI a0.Op,fI a0.N,fEq (.slice none 0 0)]) a2g rfl rfl (has rfl) (has rfl) (aF (aH a2g) (aF (aH a2g) (aF (aH a2g) bF))) (sz rfl) rfl rfl rfl ?_
 revert H;refine B4 fun r1 H e1=>?_
 cases e1;cases Hr1
 cases H
 refine aE [0] (by decide) ?_
 exact qT rfl (ag rfl) rfl (bP rfl) (bP rfl) (sE (aP.cons Ent.rfl (aP.cons Ent.rfl (aP.cons (zV cW) aP.nil)))) rfl
 revert H;refine I7 (fun c3 H=>?_) fun c3 H=>?_
 refine Z3 ?_
 refine cK ?_
 refine cG (φs':=[fI a0.Op,fI a0.N,fEq (.slice none 0 0)]) a2g rfl rfl (has rfl) (has rfl) (aF (aH a2g) (aF (aH a2g) (aF (aH a2g) bF))) (sz rfl) rfl rfl rfl ?_
 revert H;refine B4 fun r2 H e2=>?_
 cases e2;cases Hr1
 cases H
 refine aE [0] (by decide) ?_
 exact qT rfl (ag rfl) rfl (bP rfl) (bP rfl) (sE (aP.cons Ent.rfl (aP.cons Ent.rfl (aP.cons (zV cW) aP.nil)))) rfl
 revert H;refine B7 fun y1 h1 H=>?_
 refine Z3 ?_
 refine cC (φs':=[fI a0.Op,fI y1,fEq (.slice none 0 0)]) a2g rfl rfl (has rfl) (has rfl) (aH a2g) (sz rfl) rfl rfl ?_
 refine Z1 ?_
 exact Tm (y1) (ij H)
 refine Z3 ?_
 exact Tm (a0.N) (ij H)
 clear H;intro x1 hi;subst o1;have H:=Hr1;clear Hr1;try dsimp only at H
 try dsimp only
 revert H;refine bs fun o2 H Hr2=>?_
 refine aR (ι:=List AS × Value) (fun i=>o2=Sum.inl i.1) (fun i=>[(4,fEq (ptr b2)),(6,fEq (ptr b3))]) (fun i=>[aA b3 71 [fI a0.Op,fI x1,fEq i.2],aA b2 71 [fI 0,fI 0,fEq (.slice none 0 0)],aA b1 71 [fI a0.Op,fI a0.N,cU a0.AM],aC i.2 71 aO i.1]) ?_ ?_
 refine Z2 ?_
 refine Yo 2 rfl (bB rfl hh (sc rfl) rfl (eS eG)) ?_
 refine Z4 ?_
 refine iW aO 71 ?_
 refine aE [1,2,3,0] (by decide) ?_
 refine Tl (ι:=Nat × Int × List AS × Value) (fun i=>lY (kN AA) a0 a1 x1 i.1 i.2.1 i.2.2.1=_) (fun i=>i.1) (fun i=>[(1,fSl tI a1),(4,fEq (ptr b2)),(6,fEq (ptr b3)),(37,fSl aO a0.AM),(38,fI (a0.AM.length:Int)),(39,fI i.2.1)]) (fun i=>[aA b3 71 [fI a0.Op,fI x1,fEq i.2.2.2],aA b2 71 [fI 0,fI 0,fEq (.slice none 0 0)],aA b1 71 [fI a0.Op,fI a0.N,cU a0.AM],aC i.2.2.2 71 aO i.2.2.1]) (AA,0,[],(.slice none 0 0)) H ?_
 clear H;rintro⟨k1,x5,x6,v3⟩ H
 replace H:lY (kN AA) a0 a1 x1 k1 x5 x6=_:=H
 try dsimp only
 obtain _ | k1:=k1
 rw [lY]at H;cases H
 rw [lY]at H
 refine aJ 3 rfl (fun hc_v3=>?_)
 refine Z3 ?_
 refine aI ?_
 revert H;refine is (fun c4 H=>?_) fun c4 H=>?_
 refine Z3 ?_
 refine aI ?_
 revert H;refine B2 fun y2 h2 H=>?_
 refine Z2 ?_
 refine Tn (bN rfl iP rfl) fun b4=>?_
 refine cG (φs':=[fI y2.Op,fI y2.N,cU y2.AM]) a2g rfl rfl (has rfl) (has rfl) (aF (aH a2g) (aF (aH a2g) (aF (lE) bF))) (sz rfl) rfl rfl rfl ?_
 revert H;refine B4 fun y3 h3 H=>?_
 refine Tc (ih_flat_exp _ _ _ h3) ?_
 refine Z3 ?_
 refine Tn (bN rfl iP rfl) fun b5=>?_
 refine cG (φs':=[fI y3.1.Op,fI y3.1.N,cU y3.1.AM]) a2g rfl rfl (has rfl) (has rfl) (aF (aH a2g) (aF (aH a2g) (aF (lE) bF))) (sz rfl) rfl rfl rfl ?_
 refine Z2 ?_
 refine aI ?_
 refine Z4 ?_
 revert H;refine cs (fun c5 H=>?_) fun c5 H=>?_
 refine Z7 ?_
 refine Tn (gR (t:=aO) (xs:=[(⟨y3.1.Op,y3.1.N,y3.1.AM⟩:AS)]) rfl (et rfl) (cM.cons rfl hh bS cM.nil) rfl rfl rfl) fun b6=>?_
 generalize (Value.slice (some ⟨b6,0,none⟩) _ _)=v4
 refine aJ 0 rfl (fun hc_v4=>?_)
 revert H;refine bs fun z1 h4 H=>?_
 refine dQ ?_
 refine cK ?_
 refine lL a2g rfl rfl rfl (has rfl) (has rfl) (et rfl) rfl h4 (fun v5=>?_)
 refine aJ 0 rfl (fun hc_v5=>?_)
 refine Z1 ?_
 refine cY ?_
 refine cC (φs':=[fI a0.Op,fI x1,fEq v5]) a2g rfl rfl (has rfl) (has rfl) (aH hc_v5) (sz rfl) rfl rfl ?_
 revert H;refine B4 fun z2 h5 H=>?_
 refine Z3 ?_
 refine aE [0,4,5,1] (by decide) ?_
 exact Tm ((k1,z2,z1,v5)) ⟨H,ls⟩
 refine Z3 ?_
 refine cY ?_
 refine cG (φs':=[fI a0.Op,fI x1,fEq v3]) a2g rfl rfl (has rfl) (has rfl) (aF (aH a2g) (aF (aH a2g) (aF (aH hc_v3) bF))) (sz rfl) rfl rfl rfl ?_
 revert H;refine B8 fun r3 H e3=>?_
 cases e3;cases Hr2
 refine dA ?_
 refine cE (φ:=fSl aO x6) (v:=v3) [] dI (fun _ h=>nomatch h) ?_
 refine aZ ?_
 refine cK ?_
 refine eY (φs':=[fI a0.Op,fI x1,fSl aO x6]) (i:=2) rfl rfl ?_
 refine dK ?_
 refine cK ?_
 refine eY (φs':=[fI a0.Op,fI x1,fSl aO x6]) (i:=2) rfl rfl ?_
 refine rI 51 (ψ:=eI [fI a0.Op,fI x1,fEq v3]) rfl (qP (i:=2) (φs:=[fI a0.Op,fI x1,fEq v3]) (φs':=[fI a0.Op,fI x1,fSl aO x6]) rfl rfl) ?_
 refine cD ?_
 cases H
 refine aE [0] (by decide) ?_
 exact qT rfl (ag rfl) rfl (bP rfl) (bP rfl) (sE (aP.cons Ent.rfl (aP.cons Ent.rfl (aP.cons (zV .rfl) aP.nil)))) rfl
 refine Z6 ?_
 exact Tm ((x6,v3)) (ij H)
 clear H;intro i hi;obtain⟨x2,v1⟩:=i;subst o2;have H:=Hr2;clear Hr2;try dsimp only at H
 try dsimp only
 refine aJ 3 rfl (fun hc_v1=>?_)
 refine Z2 ?_
 refine cK ?_
 refine cG (φs':=[fI a0.Op,fI x1,fEq v1]) a2g rfl rfl (has rfl) (has rfl) (aF (aH a2g) (aF (aH a2g) (aF (aH hc_v1) bF))) (sz rfl) rfl rfl rfl ?_
 refine Z3 ?_
 refine cY ?_
 refine cE (φ:=fSl aO x2) (v:=v1) [] dI (fun _ h=>nomatch h) ?_
 refine dK ?_
 refine cK ?_
 refine eY (φs':=[fI a0.Op,fI x1,fSl aO x2]) (i:=2) rfl rfl ?_
 refine dK ?_
 refine cK ?_
 refine eY (φs':=[fI a0.Op,fI x1,fSl aO x2]) (i:=2) rfl rfl ?_
 refine rI 59 (ψ:=eI [fI a0.Op,fI x1,fEq v1]) rfl (qP (i:=2) (φs:=[fI a0.Op,fI x1,fEq v1]) (φs':=[fI a0.Op,fI x1,fSl aO x2]) rfl rfl) ?_
 refine cD ?_
 cases H
 refine aE [0] (by decide) ?_
 exact qT rfl (ag rfl) rfl (bP rfl) (bP rfl) (sE (aP.cons Ent.rfl (aP.cons Ent.rfl (aP.cons (zV .rfl) aP.nil)))) rfl
open Go.SX Go.SW Go.Dt
def lX (AA:Nat) (a0:Ae) (a1:Int) (a2:List Int) (y4:Aj) (y8:List Int):Nat->Int->(List AS)->Option ((List AS) ⊕ (Ae × Bool))
| 0,_,_=>none
| k+1,x8,x9=>
 if x8<(y4.AU.length:Int)then
  (idx y4.AU x8).bind fun y13=>
  (kN AA (⟨y13.Op,y13.N,y13.AM⟩:AS) a2).bind fun y14=>
  bif y14.2 then
   (dG (x9++[(⟨y14.1.Op,y14.1.N,y14.1.AM⟩:AS)])).bind fun z1=>
   (chk (x8+1)).bind fun z2=>
   lX AA a0 a1 a2 y4 y8 k z2 z1
  else
   (some ((⟨(⟨a0.AH.AF,a0.AH.AQ,a0.AH.AD,a0.AH.AE,a0.AH.AG⟩:AH),a0.Ai.set a1.toNat a2,a0.Ab.set a1.toNat y8,a0.AZ.set a1.toNat true,(⟨a0.AK.AF,a0.AK.AD,a0.AK.AE,a0.AK.AG⟩:AI)⟩:Ae),false)).bind fun r=>some (Sum.inr r)
 else
  some (Sum.inl x9)
def nD (AA:Nat) (rec_flat_view_node:Ae->Int->(List Int)->Int->Option (Ae × Bool)) (y2:AO) (z2:Int) (y5:List Int):Nat->Int->(List ByteArray)->(List Int)->(List Aj)->(List AO)->Int->(List (List Int))->(List (List Int))->(List Bool)->(List ByteArray)->(List AW)->(List AO)->Int->Option ((List ByteArray × List Int × List Aj × List AO × Int × List (List Int) × List (List Int) × List Bool × List ByteArray × List AW × List AO × Int) ⊕ (Ae × Bool))
| 0,_,_,_,_,_,_,_,_,_,_,_,_,_=>none
| k+1,x26,x27,x28,x29,x30,x31,x32,x33,x34,x35,x36,x37,x38=>
 if x26<(y2.AP.length:Int)then
  (idx y2.AP x26).bind fun y6=>
  (nV AA (⟨y2.AN,y2.AR,y2.AP⟩:AO) (⟨y6.At,y6.AY,y6.AV⟩:Am)).bind fun y7=>
  if y7<0 then
   (some ((⟨(⟨x27,x28,x29,x30,x31⟩:AH),x32,x33,x34,(⟨x35,x36,x37,x38⟩:AI)⟩:Ae),false)).bind fun r=>some (Sum.inr r)
  else
   (rA AA z2 y7).bind fun y8=>
   (mE y5 y8).bind fun y9=>
   (chk (z2+y7)).bind fun z3=>
   (rec_flat_view_node (⟨(⟨x27,x28,x29,x30,x31⟩:AH),x32,x33,x34,(⟨x35,x36,x37,x38⟩:AI)⟩:Ae) y6.AV y9 z3).bind fun y10=>
   bif y10.2 then
    (chk (x26+1)).bind fun z4=>
    nD AA rec_flat_view_node y2 z2 y5 k z4 y10.1.AH.AF y10.1.AH.AQ y10.1.AH.AD y10.1.AH.AE y10.1.AH.AG y10.1.Ai y10.1.Ab y10.1.AZ y10.1.AK.AF y10.1.AK.AD y10.1.AK.AE y10.1.AK.AG
   else
    (some ((⟨(⟨y10.1.AH.AF,y10.1.AH.AQ,y10.1.AH.AD,y10.1.AH.AE,y10.1.AH.AG⟩:AH),y10.1.Ai,y10.1.Ab,y10.1.AZ,(⟨y10.1.AK.AF,y10.1.AK.AD,y10.1.AK.AE,y10.1.AK.AG⟩:AI)⟩:Ae),false)).bind fun r=>some (Sum.inr r)
 else
  some (Sum.inl (x27,x28,x29,x30,x31,x32,x33,x34,x35,x36,x37,x38))
def mY (rec_flat_view_node:Ae->Int->(List Int)->Int->Option (Ae × Bool)) (y2:AO) (z2:Int) (y5:List Int):Nat->Int->(List ByteArray)->(List Int)->(List Aj)->(List AO)->Int->(List (List Int))->(List (List Int))->(List Bool)->(List ByteArray)->(List AW)->(List AO)->Int->Option ((List ByteArray × List Int × List Aj × List AO × Int × List (List Int) × List (List Int) × List Bool × List ByteArray × List AW × List AO × Int) ⊕ (Ae × Bool))
| 0,_,_,_,_,_,_,_,_,_,_,_,_,_=>none
| k+1,x64,x65,x66,x67,x68,x69,x70,x71,x72,x73,x74,x75,x76=>
 if x64<(y2.AR.length:Int)then
  (idx y2.AR x64).bind fun y11=>
  (rec_flat_view_node (⟨(⟨x65,x66,x67,x68,x69⟩:AH),x70,x71,x72,(⟨x73,x74,x75,x76⟩:AI)⟩:Ae) y11.AV y5 z2).bind fun y12=>
  bif y12.2 then
   (chk (x64+1)).bind fun z5=>
   mY rec_flat_view_node y2 z2 y5 k z5 y12.1.AH.AF y12.1.AH.AQ y12.1.AH.AD y12.1.AH.AE y12.1.AH.AG y12.1.Ai y12.1.Ab y12.1.AZ y12.1.AK.AF y12.1.AK.AD y12.1.AK.AE y12.1.AK.AG
  else
   (some ((⟨(⟨y12.1.AH.AF,y12.1.AH.AQ,y12.1.AH.AD,y12.1.AH.AE,y12.1.AH.AG⟩:AH),y12.1.Ai,y12.1.Ab,y12.1.AZ,(⟨y12.1.AK.AF,y12.1.AK.AD,y12.1.AK.AE,y12.1.AK.AG⟩:AI)⟩:Ae),false)).bind fun r=>some (Sum.inr r)
 else
  some (Sum.inl (x65,x66,x67,x68,x69,x70,x71,x72,x73,x74,x75,x76))
def nJ (rec_flat_view_node:Ae->Int->(List Int)->Int->Option (Ae × Bool)) (a1:List Int) (a2:List Int) (a3:Int):Nat->Int->(List ByteArray)->(List Int)->(List Aj)->(List AO)->Int->(List (List Int))->(List (List Int))->(List Bool)->(List ByteArray)->(List AW)->(List AO)->Int->Option ((List ByteArray × List Int × List Aj × List AO × Int × List (List Int) × List (List Int) × List Bool × List ByteArray × List AW × List AO × Int) ⊕ (Ae × Bool))
| 0,_,_,_,_,_,_,_,_,_,_,_,_,_=>none
| k+1,x26,x27,x28,x29,x30,x31,x32,x33,x34,x35,x36,x37,x38=>
 if x26<(a1.length:Int)then
  (idx a1 x26).bind fun y1=>
  (rec_flat_view_node (⟨(⟨x27,x28,x29,x30,x31⟩:AH),x32,x33,x34,(⟨x35,x36,x37,x38⟩:AI)⟩:Ae) y1 a2 a3).bind fun y2=>
  bif y2.2 then
   (chk (x26+1)).bind fun z1=>
   nJ rec_flat_view_node a1 a2 a3 k z1 y2.1.AH.AF y2.1.AH.AQ y2.1.AH.AD y2.1.AH.AE y2.1.AH.AG y2.1.Ai y2.1.Ab y2.1.AZ y2.1.AK.AF y2.1.AK.AD y2.1.AK.AE y2.1.AK.AG
  else
   (some ((⟨(⟨y2.1.AH.AF,y2.1.AH.AQ,y2.1.AH.AD,y2.1.AH.AE,y2.1.AH.AG⟩:AH),y2.1.Ai,y2.1.Ab,y2.1.AZ,(⟨y2.1.AK.AF,y2.1.AK.AD,y2.1.AK.AE,y2.1.AK.AG⟩:AI)⟩:Ae),false)).bind fun r=>some (Sum.inr r)
 else
  some (Sum.inl (x27,x28,x29,x30,x31,x32,x33,x34,x35,x36,x37,x38))
mutual
def eC:Nat->Ae->Int->(List Int)->Int->Option (Ae × Bool)
| 0,_,_,_,_=>none
| AA+1,a0,a1,a2,a3=>
 if a1<0 then
  some ((⟨(⟨a0.AH.AF,a0.AH.AQ,a0.AH.AD,a0.AH.AE,a0.AH.AG⟩:AH),a0.Ai,a0.Ab,a0.AZ,(⟨a0.AK.AF,a0.AK.AD,a0.AK.AE,a0.AK.AG⟩:AI)⟩:Ae),false)
 else
  if (a0.AH.AD.length:Int)<=a1 then
   some ((⟨(⟨a0.AH.AF,a0.AH.AQ,a0.AH.AD,a0.AH.AE,a0.AH.AG⟩:AH),a0.Ai,a0.Ab,a0.AZ,(⟨a0.AK.AF,a0.AK.AD,a0.AK.AE,a0.AK.AG⟩:AI)⟩:Ae),false)
  else
   (idx a0.AZ a1).bind fun y1=>
   bif y1 then
    some ((⟨(⟨a0.AH.AF,a0.AH.AQ,a0.AH.AD,a0.AH.AE,a0.AH.AG⟩:AH),a0.Ai,a0.Ab,a0.AZ,(⟨a0.AK.AF,a0.AK.AD,a0.AK.AE,a0.AK.AG⟩:AI)⟩:Ae),false)
   else
    (idx a0.AZ a1).bind fun y2=>
    (idx a0.Ai a1).bind fun y3=>
    (idx a0.AH.AD a1).bind fun y4=>
    ((qS y4.Op).bind fun y5=>
    bif !y5 then
     if 0<(y4.AQ.length:Int)then
      (some ((⟨(⟨a0.AH.AF,a0.AH.AQ,a0.AH.AD,a0.AH.AE,a0.AH.AG⟩:AH),a0.Ai.set a1.toNat a2,a0.Ab,a0.AZ.set a1.toNat true,(⟨a0.AK.AF,a0.AK.AD,a0.AK.AE,a0.AK.AG⟩:AI)⟩:Ae),false)).bind fun r=>some (Sum.inr r)
     else
      (sU AA y4.AQ (a2.length:Int)).bind fun y6=>
      bif y6 then
       some (Sum.inl ())
      else
       (some ((⟨(⟨a0.AH.AF,a0.AH.AQ,a0.AH.AD,a0.AH.AE,a0.AH.AG⟩:AH),a0.Ai.set a1.toNat a2,a0.Ab,a0.AZ.set a1.toNat true,(⟨a0.AK.AF,a0.AK.AD,a0.AK.AE,a0.AK.AG⟩:AI)⟩:Ae),false)).bind fun r=>some (Sum.inr r)
    else
     (sU AA y4.AQ (a2.length:Int)).bind fun y7=>
     bif y7 then
      some (Sum.inl ())
     else
      (some ((⟨(⟨a0.AH.AF,a0.AH.AQ,a0.AH.AD,a0.AH.AE,a0.AH.AG⟩:AH),a0.Ai.set a1.toNat a2,a0.Ab,a0.AZ.set a1.toNat true,(⟨a0.AK.AF,a0.AK.AD,a0.AK.AE,a0.AK.AG⟩:AI)⟩:Ae),false)).bind fun r=>some (Sum.inr r)).bind fun o=>match o with
    | Sum.inr r=>some r
    | Sum.inl _=>
    (vV AA a2 y4.AQ).bind fun y8=>
    (idx a0.Ab a1).bind fun y9=>
    (gQ y4.AM).bind fun y10=>
    ((if y4.Op=6 then
     some (decide (y4.Op=6))
    else
     some (decide (y4.Op=8))).bind fun x2=>
    bif x2 then
     (idx (a0.Ab.set a1.toNat y8) a1).bind fun y11=>
     some y11
    else
     some a2).bind fun x1=>
    ((if y4.Op=2 then
     some (decide (y4.Op=2))
    else
     if y4.Op=6 then
      some (decide (y4.Op=6))
     else
      some (decide (y4.Op=8))).bind fun x4=>
    bif x4 then
     if y4.N<0 then
      (some ((⟨(⟨a0.AH.AF,a0.AH.AQ,a0.AH.AD,a0.AH.AE,a0.AH.AG⟩:AH),a0.Ai.set a1.toNat a2,a0.Ab.set a1.toNat y8,a0.AZ.set a1.toNat true,(⟨a0.AK.AF,a0.AK.AD,a0.AK.AE,a0.AK.AG⟩:AI)⟩:Ae),false)).bind fun r=>some (Sum.inr r)
     else
      if (x1.length:Int)<=y4.N then
       (some ((⟨(⟨a0.AH.AF,a0.AH.AQ,a0.AH.AD,a0.AH.AE,a0.AH.AG⟩:AH),a0.Ai.set a1.toNat a2,a0.Ab.set a1.toNat y8,a0.AZ.set a1.toNat true,(⟨a0.AK.AF,a0.AK.AD,a0.AK.AE,a0.AK.AG⟩:AI)⟩:Ae),false)).bind fun r=>some (Sum.inr r)
      else
       (idx x1 y4.N).bind fun y12=>
       some (Sum.inl y12)
    else
     some (Sum.inl y4.N)).bind fun o=>match o with
    | Sum.inr r=>some r
    | Sum.inl x3=>
    (lX AA a0 a1 a2 y4 y8 AA 0 []).bind fun o=>match o with
    | Sum.inr r=>some r
    | Sum.inl x5=>
    (idx a0.AK.AD a1).bind fun y15=>
    if y4.Op=4 then
     ((rT AA) (⟨(⟨a0.AH.AF,a0.AH.AQ,a0.AH.AD,a0.AH.AE,a0.AH.AG⟩:AH),a0.Ai.set a1.toNat a2,a0.Ab.set a1.toNat y8,a0.AZ.set a1.toNat true,(⟨a0.AK.AF,a0.AK.AD.set a1.toNat (⟨y4.Op,x3,x5,y10⟩:AW),a0.AK.AE,a0.AK.AG⟩:AI)⟩:Ae) a1 a2 a3).bind fun y16=>
     some ((⟨(⟨y16.1.AH.AF,y16.1.AH.AQ,y16.1.AH.AD,y16.1.AH.AE,y16.1.AH.AG⟩:AH),y16.1.Ai,y16.1.Ab,y16.1.AZ,(⟨y16.1.AK.AF,y16.1.AK.AD,y16.1.AK.AE,y16.1.AK.AG⟩:AI)⟩:Ae),y16.2)
    else
     ((lN AA) (⟨(⟨a0.AH.AF,a0.AH.AQ,a0.AH.AD,a0.AH.AE,a0.AH.AG⟩:AH),a0.Ai.set a1.toNat a2,a0.Ab.set a1.toNat y8,a0.AZ.set a1.toNat true,(⟨a0.AK.AF,a0.AK.AD.set a1.toNat (⟨y4.Op,x3,x5,y10⟩:AW),a0.AK.AE,a0.AK.AG⟩:AI)⟩:Ae) y4.AM x1 a3).bind fun y17=>
     some ((⟨(⟨y17.1.AH.AF,y17.1.AH.AQ,y17.1.AH.AD,y17.1.AH.AE,y17.1.AH.AG⟩:AH),y17.1.Ai,y17.1.Ab,y17.1.AZ,(⟨y17.1.AK.AF,y17.1.AK.AD,y17.1.AK.AE,y17.1.AK.AG⟩:AI)⟩:Ae),y17.2)
def rT:Nat->Ae->Int->(List Int)->Int->Option (Ae × Bool)
| 0,_,_,_,_=>none
| AA+1,a0,a1,a2,a3=>
 (idx a0.AH.AD a1).bind fun y1=>
 if y1.N<0 then
  some ((⟨(⟨a0.AH.AF,a0.AH.AQ,a0.AH.AD,a0.AH.AE,a0.AH.AG⟩:AH),a0.Ai,a0.Ab,a0.AZ,(⟨a0.AK.AF,a0.AK.AD,a0.AK.AE,a0.AK.AG⟩:AI)⟩:Ae),false)
 else
  if (a0.AH.AE.length:Int)<=y1.N then
   some ((⟨(⟨a0.AH.AF,a0.AH.AQ,a0.AH.AD,a0.AH.AE,a0.AH.AG⟩:AH),a0.Ai,a0.Ab,a0.AZ,(⟨a0.AK.AF,a0.AK.AD,a0.AK.AE,a0.AK.AG⟩:AI)⟩:Ae),false)
  else
   (idx a0.AH.AE y1.N).bind fun y2=>
   (chk ((y2.AN.length:Int)+(y2.AR.length:Int))).bind fun z1=>
   (rA AA a3 z1).bind fun y3=>
   (chk (a3+(y3.length:Int))).bind fun z2=>
   (idx a0.Ab a1).bind fun y4=>
   (mE y4 y3).bind fun y5=>
   (nD AA (eC AA) y2 z2 y5 AA 0 a0.AH.AF a0.AH.AQ a0.AH.AD a0.AH.AE a0.AH.AG a0.Ai a0.Ab a0.AZ a0.AK.AF a0.AK.AD a0.AK.AE a0.AK.AG).bind fun o=>match o with
   | Sum.inr r=>some r
   | Sum.inl (x1,x2,x3,x4,x5,x6,x7,x8,x9,x10,x11,x12)=>
   (mY (eC AA) y2 z2 y5 AA 0 x1 x2 x3 x4 x5 x6 x7 x8 x9 x10 x11 x12).bind fun o=>match o with
   | Sum.inr r=>some r
   | Sum.inl (x39,x40,x41,x42,x43,x44,x45,x46,x47,x48,x49,x50)=>
   (mE a2 y3).bind fun y13=>
   ((lN AA) (⟨(⟨x39,x40,x41,x42,x43⟩:AH),x44,x45,x46,(⟨x47,x48,x49,x50⟩:AI)⟩:Ae) y1.AM y13 z2).bind fun y14=>
   some ((⟨(⟨y14.1.AH.AF,y14.1.AH.AQ,y14.1.AH.AD,y14.1.AH.AE,y14.1.AH.AG⟩:AH),y14.1.Ai,y14.1.Ab,y14.1.AZ,(⟨y14.1.AK.AF,y14.1.AK.AD,y14.1.AK.AE,y14.1.AK.AG⟩:AI)⟩:Ae),y14.2)
def lN:Nat->Ae->(List Int)->(List Int)->Int->Option (Ae × Bool)
| 0,_,_,_,_=>none
| AA+1,a0,a1,a2,a3=>
 (nJ (eC AA) a1 a2 a3 AA 0 a0.AH.AF a0.AH.AQ a0.AH.AD a0.AH.AE a0.AH.AG a0.Ai a0.Ab a0.AZ a0.AK.AF a0.AK.AD a0.AK.AE a0.AK.AG).bind fun o=>match o with
 | Sum.inr r=>some r
 | Sum.inl (x1,x2,x3,x4,x5,x6,x7,x8,x9,x10,x11,x12)=>
 some ((⟨(⟨x1,x2,x3,x4,x5⟩:AH),x6,x7,x8,(⟨x9,x10,x11,x12⟩:AI)⟩:Ae),true)
end
theorem aIQ:∀ (AA:Nat),(∀ (p0:Nat) (a0:Ae) (a1:Int) (a2:List Int) (a3:Int) (r:Ae × Bool) (H:eC AA a0 a1 a2 a3=some r),FnS Tryz.prog 77 [fEq (.pointer (some ⟨p0,0,none⟩)),fI a1,fSl tI a2,fI a3] [lU p0 a0] (aK r.2) (fun _=>[lU p0 r.1]))/\(∀ (p0:Nat) (a0:Ae) (a1:Int) (a2:List Int) (a3:Int) (r:Ae × Bool) (H:rT AA a0 a1 a2 a3=some r),FnS Tryz.prog 108 [fEq (.pointer (some ⟨p0,0,none⟩)),fI a1,fSl tI a2,fI a3] [lU p0 a0] (aK r.2) (fun _=>[lU p0 r.1]))/\(∀ (p0:Nat) (a0:Ae) (a1:List Int) (a2:List Int) (a3:Int) (r:Ae × Bool) (H:lN AA a0 a1 a2 a3=some r),FnS Tryz.prog 109 [fEq (.pointer (some ⟨p0,0,none⟩)),fSl tI a1,fSl tI a2,fI a3] [lU p0 a0] (aK r.2) (fun _=>[lU p0 r.1])):=by
 intro AA
 induction AA with
 | zero=>exact⟨fun p0 a0 a1 a2 a3 r H=>(by rw [eC]at H;cases H),fun p0 a0 a1 a2 a3 r H=>(by rw [rT]at H;cases H),fun p0 a0 a1 a2 a3 r H=>(by rw [lN]at H;cases H)⟩
 | succ AA ih=>
 obtain⟨ih_flat_view_node,ih_flat_view_def,ih_flat_view_kids⟩:=@ih
 refine⟨?_,?_,?_⟩
 intro p0 a0 a1 a2 a3 r H
 rw [eC]at H
 refine bG Tryz.func77 rfl Tryz.ntmps77 rfl (fun β=>?_)
 refine nI (fun v1 v2 v3 v4=>?_)
 refine aJ 1 rfl (fun hc_v1=>?_)
 refine aJ 2 rfl (fun hc_v2=>?_)
 refine aJ 3 rfl (fun hc_v3=>?_)
 refine aJ 4 rfl (fun hc_v4=>?_)
 refine Z3 ?_
 refine aI ?_
 revert H;refine I4 (fun c1 H=>?_) fun c1 H=>?_
 refine Z12 ?_
 refine Z12 ?_
 refine eW (x:=(⟨(⟨a0.AH.AF,a0.AH.AQ,a0.AH.AD,a0.AH.AE,a0.AH.AG⟩:AH),a0.Ai,a0.Ab,a0.AZ,(⟨a0.AK.AF,a0.AK.AD,a0.AK.AE,a0.AK.AG⟩:AI)⟩:Ae)) ?_
 cases H
 exact To
 revert H;refine I10 (fun c2 H=>?_) fun c2 H=>?_
 refine Z12 ?_
 refine Z2 ?_
 refine eW (x:=(⟨(⟨a0.AH.AF,a0.AH.AQ,a0.AH.AD,a0.AH.AE,a0.AH.AG⟩:AH),a0.Ai,a0.Ab,a0.AZ,(⟨a0.AK.AF,a0.AK.AD,a0.AK.AE,a0.AK.AG⟩:AI)⟩:Ae)) ?_
 cases H
 exact To
 revert H;refine B5 fun y1 h1 H=>?_
 refine Z1 ?_
 refine Yh 3 rfl c2 (kI rfl rfl hh (sc rfl) (eF h1) rfl) ?_
 refine Z2 ?_
 revert H;refine cs (fun c3 H=>?_) fun c3 H=>?_
 refine Z5 ?_
 refine eW (x:=(⟨(⟨a0.AH.AF,a0.AH.AQ,a0.AH.AD,a0.AH.AE,a0.AH.AG⟩:AH),a0.Ai,a0.Ab,a0.AZ,(⟨a0.AK.AF,a0.AK.AD,a0.AK.AE,a0.AK.AG⟩:AI)⟩:Ae)) ?_
 cases H
 exact To
 refine Z3 ?_
 refine aI ?_
 revert H;refine bs fun y2 h2 H=>?_
 revert H;refine bs fun y3 h3 H=>?_
 apply bL (ods:=[_,_,_,_,_,_,_,_,_,_,_,_,_,_,_]) 15 0 5 bK rfl rfl rfl
 refine ND ?_
 refine M8 ?_
 intros
 refine M4 ?_
 intros
 refine sS (od:=odC [3] true (dX) [aC v3 4 bE (a0.AZ.set a1.toNat true)]) (p:=3) (z':=true) rfl (fun _=>rfl) (fun _=>rfl) a2g rfl rfl rfl rfl (has rfl) (has rfl) (aH a2g) (sz rfl) (eF h2) rfl rfl (fun _=>?_)
 refine M1 ?_
 intros
 refine sS (od:=odC [1] true (dX) [aC v1 27 (tSl tI) (a0.Ai.set a1.toNat a2)]) (p:=1) (z':=a2) rfl (fun _=>rfl) (fun _=>rfl) a2g rfl rfl rfl rfl (has rfl) (has rfl) (aS) (sz rfl) (eF h3) rfl rfl (fun _=>?_)
 revert H;refine B9 fun y4 h4 H=>?_
 refine Z2 ?_
 refine Tn (bN rfl tR rfl) fun b1=>?_
 refine cG (φs':=[fI y4.Op,fI y4.N,fSl aO y4.AU,fSl tI y4.AM,fSl tI y4.AQ]) a2g rfl rfl (has rfl) (has rfl) (aF (aH a2g) (aF (aH a2g) (aF (aS) (aF (aS) (aF (aS) bF))))) (sz rfl) rfl rfl rfl ?_
 revert H;refine B1 fun o1 H Hr1=>?_
 refine aR (ι:=Unit) (fun i=>o1=Sum.inl ()) (fun i=>[(0,fEq (ptr p0)),(1,fI a1),(2,fSl tI a2),(3,fI a3),(9,fEq (ptr b1))]) (fun i=>[aA b1 54 [fI y4.Op,fI y4.N,fSl aO y4.AU,fSl tI y4.AM,fSl tI y4.AQ],aA p0 113 [fSl aD a0.AH.AF,fSl tI a0.AH.AQ,fSl bM a0.AH.AD,fSl aB a0.AH.AE,fI a0.AH.AG,fEq v1,fEq v2,fEq v3,fSl aD a0.AK.AF,fEq v4,fSl aB a0.AK.AE,fI a0.AK.AG],aC v1 27 (tSl tI) (a0.Ai.set a1.toNat a2),aC v2 27 (tSl tI) a0.Ab,aC v3 4 bE (a0.AZ.set a1.toNat true),aC v4 65 aM a0.AK.AD]) ?_ ?_
 revert H;refine B3 fun y5 h5 H=>?_
 refine Tc (aDS _ _ h5) ?_
 refine Z2 ?_
 revert H;refine cs (fun c4 H=>?_) fun c4 H=>?_
 revert H;refine I6 (fun c5 H=>?_) fun c5 H=>?_
 refine Z12 ?_
 revert H;refine B1 fun r1 H e1=>?_
 cases e1;cases Hr1
 refine dA ?_
 refine dA ?_
 refine dA ?_
 refine dA ?_
 refine dA ?_
 refine eW (x:=(⟨(⟨a0.AH.AF,a0.AH.AQ,a0.AH.AD,a0.AH.AE,a0.AH.AG⟩:AH),a0.Ai.set a1.toNat a2,a0.Ab,a0.AZ.set a1.toNat true,(⟨a0.AK.AF,a0.AK.AD,a0.AK.AE,a0.AK.AG⟩:AI)⟩:Ae)) ?_
 cases H
 refine aE [0] (by decide) ?_
 exact To
 revert H;refine B4 fun y6 h6 H=>?_
 refine Tc (aDY _ _ _ _ h6) ?_
 refine Z3 ?_
 revert H;refine cs (fun c6 H=>?_) fun c6 H=>?_
 refine Z3 ?_
 exact Tm (()) (ij H)
 revert H;refine B5 fun r2 H e2=>?_
 cases e2;cases Hr1
 refine dA ?_
 refine dA ?_
 refine dA ?_
 refine dA ?_
 refine dA ?_
 refine eW (x:=(⟨(⟨a0.AH.AF,a0.AH.AQ,a0.AH.AD,a0.AH.AE,a0.AH.AG⟩:AH),a0.Ai.set a1.toNat a2,a0.Ab,a0.AZ.set a1.toNat true,(⟨a0.AK.AF,a0.AK.AD,a0.AK.AE,a0.AK.AG⟩:AI)⟩:Ae)) ?_
 cases H
 refine aE [0] (by decide) ?_
 exact To
 revert H;refine B10 fun y7 h7 H=>?_
 refine Tc (aDY _ _ _ _ h7) ?_
 refine Z3 ?_
 revert H;refine cs (fun c7 H=>?_) fun c7 H=>?_
 refine Z3 ?_
 exact Tm (()) (ij H)
 revert H;refine B5 fun r3 H e3=>?_
 cases e3;cases Hr1
 refine dA ?_
 refine dA ?_
 refine dA ?_
 refine dA ?_
 refine dA ?_
 refine eW (x:=(⟨(⟨a0.AH.AF,a0.AH.AQ,a0.AH.AD,a0.AH.AE,a0.AH.AG⟩:AH),a0.Ai.set a1.toNat a2,a0.Ab,a0.AZ.set a1.toNat true,(⟨a0.AK.AF,a0.AK.AD,a0.AK.AE,a0.AK.AG⟩:AI)⟩:Ae)) ?_
 cases H
 refine aE [0] (by decide) ?_
 exact To
 clear H;intro i hi;subst o1;have H:=Hr1;clear Hr1;try dsimp only at H
 try dsimp only
 refine aI ?_
 revert H;refine bs fun y8 h8 H=>?_
 revert H;refine bs fun y9 h9 H=>?_
 apply bL (ods:=[_,_,_,_,_,_,_,_,_,_,_]) 11 0 6 bK rfl rfl rfl
 refine ND ?_
 refine M8 ?_
 intros
 refine Nc (aKA _ _ _ _ h8) fun _=>?_
 refine M1 ?_
 intros
 refine sS (od:=odC [3] true (dX) [aC v2 27 (tSl tI) (a0.Ab.set a1.toNat y8)]) (p:=3) (z':=y8) rfl (fun _=>rfl) (fun _=>rfl) a2g rfl rfl rfl rfl (has rfl) (has rfl) (aS) (sz rfl) (eF h9) rfl rfl (fun _=>?_)
 refine Z2 ?_
 refine aI ?_
 revert H;refine bs fun y10 h10 H=>?_
 apply bL (ods:=[_,_,_,_,_,_,_,_,_,_]) 10 1 7 bK rfl rfl rfl
 refine ND ?_
 refine M6 ?_
 intros
 refine wV (od:=odC [] true (fSl tI y10) []) (Φ:=fSl tI y10) rfl (fun _=>rfl) a2g rfl rfl (has rfl) (aN.cons (has rfl) aN.nil) rfl (cb rfl) (vD y4.AM y10 h10) (fun _=>?_)
 refine My (gP (ψs:=[fI y4.Op,fI y4.N,fEq (.slice none 0 0),fSl tI y10]) rfl ty_bu_65 rfl (bQ.cons (has rfl) (cJ (aH a2g)) (bQ.cons (has rfl) (cJ (aH a2g)) (bQ.cons (has rfl) (cJ (aS)) bQ.nil))) rfl) fun _=>?_
 refine Mn 6 (fun b2=>ptr b2) (fun b2=>aA b2 65 [fI 0,fI 0,fEq (.slice none 0 0),fEq (.slice none 0 0)]) rfl (bN rfl rP rfl) (fun b2 u1=>?_)
 refine pA (od:=od1 8 [6] true (fun b2 _=>dX) (fun b2 _=>[aA b2 65 [fI y4.Op,fI y4.N,fEq (.slice none 0 0),fSl tI y10]])) (p:=6) (φs':=[fI y4.Op,fI y4.N,fEq (.slice none 0 0),fSl tI y10]) rfl (fun _=>rfl) (fun _=>rfl) a2g rfl rfl rfl (has rfl) (has rfl) (aF (aH a2g) (aF (aH a2g) (aF (aH a2g) (aF (aS) bF)))) (sz rfl) rfl rfl rfl (fun _=>?_)
 revert H;refine B6 fun o2 H Hr2=>?_
 refine aR (ι:=List Int) (fun i=>o2=i) (fun i=>[(0,fEq (ptr p0)),(1,fI a1),(2,fSl tI a2),(3,fI a3),(9,fEq (ptr b1)),(10,fEq (ptr b2)),(11,fSl tI i)]) (fun i=>[aA b1 54 [fI y4.Op,fI y4.N,fSl aO y4.AU,fSl tI y4.AM,fSl tI y4.AQ],aA p0 113 [fSl aD a0.AH.AF,fSl tI a0.AH.AQ,fSl bM a0.AH.AD,fSl aB a0.AH.AE,fI a0.AH.AG,fEq v1,fEq v2,fEq v3,fSl aD a0.AK.AF,fEq v4,fSl aB a0.AK.AE,fI a0.AK.AG],aA b2 65 [fI y4.Op,fI y4.N,fEq (.slice none 0 0),fSl tI y10],aC v1 27 (tSl tI) (a0.Ai.set a1.toNat a2),aC v2 27 (tSl tI) (a0.Ab.set a1.toNat y8),aC v3 4 bE (a0.AZ.set a1.toNat true),aC v4 65 aM a0.AK.AD]) ?_ ?_
 revert H;refine B5 fun o3 H Hr3=>?_
 refine aR (ι:=Bool) (fun i=>o3=i) (fun i=>[(0,fEq (ptr p0)),(1,fI a1),(2,fSl tI a2),(3,fI a3),(9,fEq (ptr b1)),(10,fEq (ptr b2)),(11,fSl tI a2),(97,aK i)]) (fun i=>[aA b1 54 [fI y4.Op,fI y4.N,fSl aO y4.AU,fSl tI y4.AM,fSl tI y4.AQ],aA p0 113 [fSl aD a0.AH.AF,fSl tI a0.AH.AQ,fSl bM a0.AH.AD,fSl aB a0.AH.AE,fI a0.AH.AG,fEq v1,fEq v2,fEq v3,fSl aD a0.AK.AF,fEq v4,fSl aB a0.AK.AE,fI a0.AK.AG],aA b2 65 [fI y4.Op,fI y4.N,fEq (.slice none 0 0),fSl tI y10],aC v1 27 (tSl tI) (a0.Ai.set a1.toNat a2),aC v2 27 (tSl tI) (a0.Ab.set a1.toNat y8),aC v3 4 bE (a0.AZ.set a1.toNat true),aC v4 65 aM a0.AK.AD]) ?_ ?_
 revert H;refine I4 (fun c8 H=>?_) fun c8 H=>?_
 refine Z3 ?_
 refine aE [0,1,6,2,3,4,5] (by decide) ?_
 exact Tm (decide (y4.Op=6)) (ij H)
 refine Z5 ?_
 refine aE [0,1,6,2,3,4,5] (by decide) ?_
 exact Tm (decide (y4.Op=8)) (ij H)
 clear H;intro x2 hi;subst o3;have H:=Hr3;clear Hr3;try dsimp only at H
 try dsimp only
 revert H;refine cs (fun c9 H=>?_) fun c9 H=>?_
 revert H;refine B7 fun y11 h11 H=>?_
 refine Z1 ?_
 refine Yo 4 rfl (kI rfl rfl hh (sc rfl) (eF h11) rfl) ?_
 refine Z4 ?_
 exact Tm (y11) (ij H)
 refine Z4 ?_
 exact Tm (a2) (ij H)
 clear H;intro x1 hi;subst o2;have H:=Hr2;clear Hr2;try dsimp only at H
 try dsimp only
 revert H;refine bs fun o4 H Hr4=>?_
 refine aR (ι:=Int) (fun i=>o4=Sum.inl i) (fun i=>[(0,fEq (ptr p0)),(1,fI a1),(2,fSl tI a2),(3,fI a3),(9,fEq (ptr b1)),(10,fEq (ptr b2)),(11,fSl tI x1)]) (fun i=>[aA b2 65 [fI y4.Op,fI i,fEq (.slice none 0 0),fSl tI y10],aA b1 54 [fI y4.Op,fI y4.N,fSl aO y4.AU,fSl tI y4.AM,fSl tI y4.AQ],aA p0 113 [fSl aD a0.AH.AF,fSl tI a0.AH.AQ,fSl bM a0.AH.AD,fSl aB a0.AH.AE,fI a0.AH.AG,fEq v1,fEq v2,fEq v3,fSl aD a0.AK.AF,fEq v4,fSl aB a0.AK.AE,fI a0.AK.AG],aC v1 27 (tSl tI) (a0.Ai.set a1.toNat a2),aC v2 27 (tSl tI) (a0.Ab.set a1.toNat y8),aC v3 4 bE (a0.AZ.set a1.toNat true),aC v4 65 aM a0.AK.AD]) ?_ ?_
 revert H;refine B5 fun o5 H Hr5=>?_
 refine aR (ι:=Bool) (fun i=>o5=i) (fun i=>[(0,fEq (ptr p0)),(1,fI a1),(2,fSl tI a2),(3,fI a3),(9,fEq (ptr b1)),(10,fEq (ptr b2)),(11,fSl tI x1),(109,aK i)]) (fun i=>[aA b1 54 [fI y4.Op,fI y4.N,fSl aO y4.AU,fSl tI y4.AM,fSl tI y4.AQ],aA p0 113 [fSl aD a0.AH.AF,fSl tI a0.AH.AQ,fSl bM a0.AH.AD,fSl aB a0.AH.AE,fI a0.AH.AG,fEq v1,fEq v2,fEq v3,fSl aD a0.AK.AF,fEq v4,fSl aB a0.AK.AE,fI a0.AK.AG],aA b2 65 [fI y4.Op,fI y4.N,fEq (.slice none 0 0),fSl tI y10],aC v1 27 (tSl tI) (a0.Ai.set a1.toNat a2),aC v2 27 (tSl tI) (a0.Ab.set a1.toNat y8),aC v3 4 bE (a0.AZ.set a1.toNat true),aC v4 65 aM a0.AK.AD]) ?_ ?_
 revert H;refine I4 (fun c10 H=>?_) fun c10 H=>?_
 refine Z3 ?_
 exact Tm (decide (y4.Op=2)) (ij H)
 revert H;refine I5 (fun c11 H=>?_) fun c11 H=>?_
 refine Z3 ?_
 exact Tm (decide (y4.Op=6)) (ij H)
 refine Z5 ?_
 exact Tm (decide (y4.Op=8)) (ij H)
 clear H;intro x4 hi;subst o5;have H:=Hr5;clear Hr5;try dsimp only at H
 try dsimp only
 revert H;refine cs (fun c12 H=>?_) fun c12 H=>?_
 refine Z1 ?_
 refine aI ?_
 revert H;refine I5 (fun c13 H=>?_) fun c13 H=>?_
 refine Z12 ?_
 revert H;refine B2 fun r4 H e4=>?_
 cases e4;cases Hr4
 refine dQ ?_
 refine dQ ?_
 refine dQ ?_
 refine dQ ?_
 refine dA ?_
 refine eW (x:=(⟨(⟨a0.AH.AF,a0.AH.AQ,a0.AH.AD,a0.AH.AE,a0.AH.AG⟩:AH),a0.Ai.set a1.toNat a2,a0.Ab.set a1.toNat y8,a0.AZ.set a1.toNat true,(⟨a0.AK.AF,a0.AK.AD,a0.AK.AE,a0.AK.AG⟩:AI)⟩:Ae)) ?_
 cases H
 refine aE [0] (by decide) ?_
 exact To
 revert H;refine I7 (fun c14 H=>?_) fun c14 H=>?_
 revert H;refine B7 fun r5 H e5=>?_
 cases e5;cases Hr4
 refine dQ ?_
 refine dQ ?_
 refine dQ ?_
 refine dQ ?_
 refine dA ?_
 refine eW (x:=(⟨(⟨a0.AH.AF,a0.AH.AQ,a0.AH.AD,a0.AH.AE,a0.AH.AG⟩:AH),a0.Ai.set a1.toNat a2,a0.Ab.set a1.toNat y8,a0.AZ.set a1.toNat true,(⟨a0.AK.AF,a0.AK.AD,a0.AK.AE,a0.AK.AG⟩:AI)⟩:Ae)) ?_
 cases H
 refine aE [0] (by decide) ?_
 exact To
 revert H;refine B7 fun y12 h12 H=>?_
 refine Z3 ?_
 refine dK ?_
 refine cC (φs':=[fI y4.Op,fI y12,fEq (.slice none 0 0),fSl tI y10]) a2g rfl rfl (has rfl) (has rfl) (aH a2g) (sz rfl) rfl rfl ?_
 refine Z3 ?_
 exact Tm (y12) (ij H)
 refine Z4 ?_
 refine aE [2,0,1,3,4,5,6] (by decide) ?_
 exact Tm (y4.N) (ij H)
 clear H;intro x3 hi;subst o4;have H:=Hr4;clear Hr4;try dsimp only at H
 try dsimp only
 revert H;refine bs fun o6 H Hr6=>?_
 refine aR (ι:=List AS × Value) (fun i=>o6=Sum.inl i.1) (fun i=>[(0,fEq (ptr p0)),(1,fI a1),(2,fSl tI a2),(3,fI a3),(9,fEq (ptr b1)),(10,fEq (ptr b2)),(11,fSl tI x1)]) (fun i=>[aA b2 65 [fI y4.Op,fI x3,fEq i.2,fSl tI y10],aA b1 54 [fI y4.Op,fI y4.N,fSl aO y4.AU,fSl tI y4.AM,fSl tI y4.AQ],aA p0 113 [fSl aD a0.AH.AF,fSl tI a0.AH.AQ,fSl bM a0.AH.AD,fSl aB a0.AH.AE,fI a0.AH.AG,fEq v1,fEq v2,fEq v3,fSl aD a0.AK.AF,fEq v4,fSl aB a0.AK.AE,fI a0.AK.AG],aC i.2 71 aO i.1,aC v1 27 (tSl tI) (a0.Ai.set a1.toNat a2),aC v2 27 (tSl tI) (a0.Ab.set a1.toNat y8),aC v3 4 bE (a0.AZ.set a1.toNat true),aC v4 65 aM a0.AK.AD]) ?_ ?_
 refine Z7 ?_
 refine iW aO 71 ?_
 refine aE [1,2,3,0,4,5,6,7] (by decide) ?_
 refine Tl (ι:=Nat × Int × List AS × Value) (fun i=>lX AA a0 a1 a2 y4 y8 i.1 i.2.1 i.2.2.1=_) (fun i=>i.1) (fun i=>[(0,fEq (ptr p0)),(1,fI a1),(2,fSl tI a2),(3,fI a3),(9,fEq (ptr b1)),(10,fEq (ptr b2)),(11,fSl tI x1),(130,fSl aO y4.AU),(131,fI (y4.AU.length:Int)),(132,fI i.2.1)]) (fun i=>[aA b2 65 [fI y4.Op,fI x3,fEq i.2.2.2,fSl tI y10],aA b1 54 [fI y4.Op,fI y4.N,fSl aO y4.AU,fSl tI y4.AM,fSl tI y4.AQ],aA p0 113 [fSl aD a0.AH.AF,fSl tI a0.AH.AQ,fSl bM a0.AH.AD,fSl aB a0.AH.AE,fI a0.AH.AG,fEq v1,fEq v2,fEq v3,fSl aD a0.AK.AF,fEq v4,fSl aB a0.AK.AE,fI a0.AK.AG],aC i.2.2.2 71 aO i.2.2.1,aC v1 27 (tSl tI) (a0.Ai.set a1.toNat a2),aC v2 27 (tSl tI) (a0.Ab.set a1.toNat y8),aC v3 4 bE (a0.AZ.set a1.toNat true),aC v4 65 aM a0.AK.AD]) (AA,0,[],(.slice none 0 0)) H ?_
 clear H;rintro⟨k1,x8,x9,v7⟩ H
 replace H:lX AA a0 a1 a2 y4 y8 k1 x8 x9=_:=H
 try dsimp only
 obtain _ | k1:=k1
 rw [lX]at H;cases H
 rw [lX]at H
 refine aJ 3 rfl (fun hc_v7=>?_)
 refine Z3 ?_
 refine aI ?_
 revert H;refine is (fun c15 H=>?_) fun c15 H=>?_
 refine Z3 ?_
 refine aI ?_
 revert H;refine B2 fun y13 h13 H=>?_
 refine Z2 ?_
 refine Tn (bN rfl iP rfl) fun b3=>?_
 refine cG (φs':=[fI y13.Op,fI y13.N,cU y13.AM]) a2g rfl rfl (has rfl) (has rfl) (aF (aH a2g) (aF (aH a2g) (aF (lE) bF))) (sz rfl) rfl rfl rfl ?_
 revert H;refine B4 fun y14 h14 H=>?_
 refine Tc (aJG _ _ _ _ h14) ?_
 refine Z3 ?_
 refine Tn (bN rfl iP rfl) fun b4=>?_
 refine cG (φs':=[fI y14.1.Op,fI y14.1.N,cU y14.1.AM]) a2g rfl rfl (has rfl) (has rfl) (aF (aH a2g) (aF (aH a2g) (aF (lE) bF))) (sz rfl) rfl rfl rfl ?_
 refine Z2 ?_
 refine aI ?_
 refine Z4 ?_
 revert H;refine cs (fun c16 H=>?_) fun c16 H=>?_
 refine Z7 ?_
 refine Tn (gR (t:=aO) (xs:=[(⟨y14.1.Op,y14.1.N,y14.1.AM⟩:AS)]) rfl (et rfl) (cM.cons rfl hh bS cM.nil) rfl rfl rfl) fun b5=>?_
 generalize (Value.slice (some ⟨b5,0,none⟩) _ _)=v8
 refine aJ 0 rfl (fun hc_v8=>?_)
 revert H;refine bs fun z1 h15 H=>?_
 refine dQ ?_
 refine cK ?_
 refine lL a2g rfl rfl rfl (has rfl) (has rfl) (et rfl) rfl h15 (fun v9=>?_)
 refine aJ 0 rfl (fun hc_v9=>?_)
 refine Z1 ?_
 refine cY ?_
 refine cC (φs':=[fI y4.Op,fI x3,fEq v9,fSl tI y10]) a2g rfl rfl (has rfl) (has rfl) (aH hc_v9) (sz rfl) rfl rfl ?_
 revert H;refine B4 fun z2 h16 H=>?_
 refine Z3 ?_
 refine aE [0,4,5,1,6,7,8,9] (by decide) ?_
 exact Tm ((k1,z2,z1,v9)) ⟨H,ls⟩
 revert H;refine B10 fun r6 H e6=>?_
 cases e6;cases Hr6
 refine T_fr9 ?_
 refine T_fr9 ?_
 refine T_fr9 ?_
 refine T_fr9 ?_
 refine T_fr8 ?_
 refine eW (x:=(⟨(⟨a0.AH.AF,a0.AH.AQ,a0.AH.AD,a0.AH.AE,a0.AH.AG⟩:AH),a0.Ai.set a1.toNat a2,a0.Ab.set a1.toNat y8,a0.AZ.set a1.toNat true,(⟨a0.AK.AF,a0.AK.AD,a0.AK.AE,a0.AK.AG⟩:AI)⟩:Ae)) ?_
 cases H
 refine aE [0] (by decide) ?_
 exact To
 refine Z6 ?_
 exact Tm ((x9,v7)) (ij H)
 clear H;intro i hi;obtain⟨x5,v5⟩:=i;subst o6;have H:=Hr6;clear Hr6;try dsimp only at H
 try dsimp only
 refine aJ 3 rfl (fun hc_v5=>?_)
 refine aI ?_
 revert H;refine bs fun y15 h17 H=>?_
 apply bL (ods:=[_,_,_,_,_,_,_,_]) 8 0 8 bK rfl rfl rfl
 refine ND ?_
 refine M8 ?_
 intros
 refine Z1 ?_
 refine cY ?_
 refine cE (φ:=fSl aO x5) (v:=v5) [] dI (fun _ h=>nomatch h) ?_
 refine eY (φs':=[fI y4.Op,fI x3,fSl aO x5,fSl tI y10]) (i:=2) rfl rfl ?_
 refine rI 157 (ψ:=eI [fI y4.Op,fI x3,fEq v5,fSl tI y10]) rfl (qP (i:=2) (φs:=[fI y4.Op,fI x3,fEq v5,fSl tI y10]) (φs':=[fI y4.Op,fI x3,fSl aO x5,fSl tI y10]) rfl rfl) ?_
 refine cD ?_
 refine dQ ?_
 refine aG5 (z:=(⟨y4.Op,x3,x5,y10⟩:AW)) a2g rfl rfl rfl (has rfl) (has rfl) (sz rfl) (a0K.1 (eF h17)).1 ?_
 refine Z1 ?_
 refine aI ?_
 revert H;refine I5 (fun c17 H=>?_) fun c17 H=>?_
 refine Z6 ?_
 refine dQ ?_
 refine dQ ?_
 refine dQ ?_
 refine dQ ?_
 refine eW (x:=(⟨(⟨a0.AH.AF,a0.AH.AQ,a0.AH.AD,a0.AH.AE,a0.AH.AG⟩:AH),a0.Ai.set a1.toNat a2,a0.Ab.set a1.toNat y8,a0.AZ.set a1.toNat true,(⟨a0.AK.AF,a0.AK.AD.set a1.toNat (⟨y4.Op,x3,x5,y10⟩:AW),a0.AK.AE,a0.AK.AG⟩:AI)⟩:Ae)) ?_
 revert H;refine bs fun y16 h18 H=>?_
 refine Tc (ih_flat_view_def _ _ _ _ _ _ h18) ?_
 refine nI (fun v10 v11 v12 v13=>?_)
 refine aJ 1 rfl (fun hc_v10=>?_)
 refine aJ 2 rfl (fun hc_v11=>?_)
 refine aJ 3 rfl (fun hc_v12=>?_)
 refine aJ 4 rfl (fun hc_v13=>?_)
 refine Z3 ?_
 refine eW (x:=(⟨(⟨y16.1.AH.AF,y16.1.AH.AQ,y16.1.AH.AD,y16.1.AH.AE,y16.1.AH.AG⟩:AH),y16.1.Ai,y16.1.Ab,y16.1.AZ,(⟨y16.1.AK.AF,y16.1.AK.AD,y16.1.AK.AE,y16.1.AK.AG⟩:AI)⟩:Ae)) ?_
 cases H
 refine aE [0] (by decide) ?_
 exact To
 refine Z9 ?_
 refine dQ ?_
 refine dQ ?_
 refine dQ ?_
 refine dQ ?_
 refine eW (x:=(⟨(⟨a0.AH.AF,a0.AH.AQ,a0.AH.AD,a0.AH.AE,a0.AH.AG⟩:AH),a0.Ai.set a1.toNat a2,a0.Ab.set a1.toNat y8,a0.AZ.set a1.toNat true,(⟨a0.AK.AF,a0.AK.AD.set a1.toNat (⟨y4.Op,x3,x5,y10⟩:AW),a0.AK.AE,a0.AK.AG⟩:AI)⟩:Ae)) ?_
 revert H;refine bs fun y17 h19 H=>?_
 refine Tc (ih_flat_view_kids _ _ _ _ _ _ h19) ?_
 refine nI (fun v14 v15 v16 v17=>?_)
 refine aJ 1 rfl (fun hc_v14=>?_)
 refine aJ 2 rfl (fun hc_v15=>?_)
 refine aJ 3 rfl (fun hc_v16=>?_)
 refine aJ 4 rfl (fun hc_v17=>?_)
 refine Z3 ?_
 refine eW (x:=(⟨(⟨y17.1.AH.AF,y17.1.AH.AQ,y17.1.AH.AD,y17.1.AH.AE,y17.1.AH.AG⟩:AH),y17.1.Ai,y17.1.Ab,y17.1.AZ,(⟨y17.1.AK.AF,y17.1.AK.AD,y17.1.AK.AE,y17.1.AK.AG⟩:AI)⟩:Ae)) ?_
 cases H
 refine aE [0] (by decide) ?_
 exact To
 exact fk
 kernel_rfl
 exact fk
 kernel_rfl
 exact fk
 kernel_rfl
 exact fk
 kernel_rfl
 intro p0 a0 a1 a2 a3 r H
 rw [rT]at H
 refine bG Tryz.func108 rfl Tryz.ntmps108 rfl (fun β=>?_)
 refine nI (fun v1 v2 v3 v4=>?_)
 refine aJ 1 rfl (fun hc_v1=>?_)
 refine aJ 2 rfl (fun hc_v2=>?_)
 refine aJ 3 rfl (fun hc_v3=>?_)
 refine aJ 4 rfl (fun hc_v4=>?_)
 revert H;refine B10 fun y1 h1 H=>?_
 refine Z2 ?_
 refine Tn (bN rfl tR rfl) fun b1=>?_
 refine cG (φs':=[fI y1.Op,fI y1.N,fSl aO y1.AU,fSl tI y1.AM,fSl tI y1.AQ]) a2g rfl rfl (has rfl) (has rfl) (aF (aH a2g) (aF (aH a2g) (aF (aS) (aF (aS) (aF (aS) bF))))) (sz rfl) rfl rfl rfl ?_
 refine Z1 ?_
 refine aI ?_
 refine aI ?_
 revert H;refine is (fun c1 H=>?_) fun c1 H=>?_
 apply bL (ods:=[_,_,_,_,_,_,_,_,_,_,_,_,_,_]) 14 0 6 bK rfl rfl rfl
 refine ND ?_
 refine M8 ?_
 intros
 refine M6 ?_
 intros
 refine Z7 ?_
 refine dA ?_
 refine dA ?_
 refine dA ?_
 refine dA ?_
 refine dA ?_
 refine eW (x:=(⟨(⟨a0.AH.AF,a0.AH.AQ,a0.AH.AD,a0.AH.AE,a0.AH.AG⟩:AH),a0.Ai,a0.Ab,a0.AZ,(⟨a0.AK.AF,a0.AK.AD,a0.AK.AE,a0.AK.AG⟩:AI)⟩:Ae)) ?_
 cases H
 refine aE [0] (by decide) ?_
 exact To
 exact fk
 kernel_rfl
 apply bL (ods:=[_,_,_,_,_,_,_,_,_,_,_,_,_,_]) 14 0 6 bK rfl rfl rfl
 refine ND ?_
 refine M8 ?_
 intros
 refine M6 ?_
 intros
 revert H;refine I2 (fun c2 H=>?_) fun c2 H=>?_
 refine Z5 ?_
 refine dA ?_
 refine dA ?_
 refine dA ?_
 refine dA ?_
 refine dA ?_
 refine eW (x:=(⟨(⟨a0.AH.AF,a0.AH.AQ,a0.AH.AD,a0.AH.AE,a0.AH.AG⟩:AH),a0.Ai,a0.Ab,a0.AZ,(⟨a0.AK.AF,a0.AK.AD,a0.AK.AE,a0.AK.AG⟩:AI)⟩:Ae)) ?_
 cases H
 refine aE [0] (by decide) ?_
 exact To
 refine Z3 ?_
 refine aI ?_
 revert H;refine bs fun y2 h2 H=>?_
 apply bL (ods:=[_,_,_,_,_,_,_,_,_,_,_]) 11 1 7 bK rfl rfl rfl
 refine ND ?_
 refine M8 ?_
 intros
 refine M1 ?_
 intros
 refine Mn 6 (fun b2=>ptr b2) (fun b2=>aA b2 77 [fEq (.slice none 0 0),fEq (.slice none 0 0),fEq (.slice none 0 0)]) rfl (bN rfl vI rfl) (fun b2 u1=>?_)
 refine pA (od:=od1 9 [6] true (fun b2 _=>dX) (fun b2 _=>[aA b2 77 [fSl aW y2.AN,fSl bD y2.AR,fSl aY y2.AP]])) (p:=6) (φs':=[fSl aW y2.AN,fSl bD y2.AR,fSl aY y2.AP]) rfl (fun _=>rfl) (fun _=>rfl) a2g rfl rfl rfl (has rfl) (has rfl) (aF (aS) (aF (aS) (aF (aS) bF))) (sz rfl) rfl rfl rfl (fun _=>?_)
 revert H;refine B10 fun z1 h3 H=>?_
 revert H;refine B1 fun y3 h4 H=>?_
 refine Tc (aAW _ _ _ _ h4) ?_
 revert H;refine B6 fun z2 h5 H=>?_
 revert H;refine B9 fun y4 h6 H=>?_
 refine Z1 ?_
 refine Yo 3 rfl (kI rfl rfl hh (sc rfl) (eF h6) rfl) ?_
 revert H;refine B1 fun y5 h7 H=>?_
 refine Tc (vK _ _ _ h7) ?_
 revert H;refine B2 fun o1 H Hr1=>?_
 refine aR (ι:=List ByteArray × List Int × List Aj × List AO × Int × List (List Int) × List (List Int) × List Bool × List ByteArray × List AW × List AO × Int × Value × Value × Value × Value) (fun i=>o1=Sum.inl (i.1,i.2.1,i.2.2.1,i.2.2.2.1,i.2.2.2.2.1,i.2.2.2.2.2.1,i.2.2.2.2.2.2.1,i.2.2.2.2.2.2.2.1,i.2.2.2.2.2.2.2.2.1,i.2.2.2.2.2.2.2.2.2.1,i.2.2.2.2.2.2.2.2.2.2.1,i.2.2.2.2.2.2.2.2.2.2.2.1)) (fun i=>[(0,fEq (ptr p0)),(2,fSl tI a2),(3,fI z2),(9,fEq (ptr b1)),(10,fEq (ptr b2)),(11,fSl tI y3),(12,fSl tI y5)]) (fun i=>[aA b1 54 [fI y1.Op,fI y1.N,fSl aO y1.AU,fSl tI y1.AM,fSl tI y1.AQ],aA p0 113 [fSl aD i.1,fSl tI i.2.1,fSl bM i.2.2.1,fSl aB i.2.2.2.1,fI i.2.2.2.2.1,fEq i.2.2.2.2.2.2.2.2.2.2.2.2.1,fEq i.2.2.2.2.2.2.2.2.2.2.2.2.2.1,fEq i.2.2.2.2.2.2.2.2.2.2.2.2.2.2.1,fSl aD i.2.2.2.2.2.2.2.2.1,fEq i.2.2.2.2.2.2.2.2.2.2.2.2.2.2.2,fSl aB i.2.2.2.2.2.2.2.2.2.2.1,fI i.2.2.2.2.2.2.2.2.2.2.2.1],aA b2 77 [fSl aW y2.AN,fSl bD y2.AR,fSl aY y2.AP],aC i.2.2.2.2.2.2.2.2.2.2.2.2.1 27 (tSl tI) i.2.2.2.2.2.1,aC i.2.2.2.2.2.2.2.2.2.2.2.2.2.1 27 (tSl tI) i.2.2.2.2.2.2.1,aC i.2.2.2.2.2.2.2.2.2.2.2.2.2.2.1 4 bE i.2.2.2.2.2.2.2.1,aC i.2.2.2.2.2.2.2.2.2.2.2.2.2.2.2 65 aM i.2.2.2.2.2.2.2.2.2.1]) ?_ ?_
 refine Z7 ?_
 refine aE [0,1,6,2,3,4,5] (by decide) ?_
 refine Tl (ι:=Nat × Int × List ByteArray × List Int × List Aj × List AO × Int × List (List Int) × List (List Int) × List Bool × List ByteArray × List AW × List AO × Int × Value × Value × Value × Value) (fun i=>nD AA (eC AA) y2 z2 y5 i.1 i.2.1 i.2.2.1 i.2.2.2.1 i.2.2.2.2.1 i.2.2.2.2.2.1 i.2.2.2.2.2.2.1 i.2.2.2.2.2.2.2.1 i.2.2.2.2.2.2.2.2.1 i.2.2.2.2.2.2.2.2.2.1 i.2.2.2.2.2.2.2.2.2.2.1 i.2.2.2.2.2.2.2.2.2.2.2.1 i.2.2.2.2.2.2.2.2.2.2.2.2.1 i.2.2.2.2.2.2.2.2.2.2.2.2.2.1=_) (fun i=>i.1) (fun i=>[(0,fEq (ptr p0)),(2,fSl tI a2),(3,fI z2),(9,fEq (ptr b1)),(10,fEq (ptr b2)),(11,fSl tI y3),(12,fSl tI y5),(72,fSl aY y2.AP),(73,fI (y2.AP.length:Int)),(74,fI i.2.1)]) (fun i=>[aA b1 54 [fI y1.Op,fI y1.N,fSl aO y1.AU,fSl tI y1.AM,fSl tI y1.AQ],aA p0 113 [fSl aD i.2.2.1,fSl tI i.2.2.2.1,fSl bM i.2.2.2.2.1,fSl aB i.2.2.2.2.2.1,fI i.2.2.2.2.2.2.1,fEq i.2.2.2.2.2.2.2.2.2.2.2.2.2.2.1,fEq i.2.2.2.2.2.2.2.2.2.2.2.2.2.2.2.1,fEq i.2.2.2.2.2.2.2.2.2.2.2.2.2.2.2.2.1,fSl aD i.2.2.2.2.2.2.2.2.2.2.1,fEq i.2.2.2.2.2.2.2.2.2.2.2.2.2.2.2.2.2,fSl aB i.2.2.2.2.2.2.2.2.2.2.2.2.1,fI i.2.2.2.2.2.2.2.2.2.2.2.2.2.1],aA b2 77 [fSl aW y2.AN,fSl bD y2.AR,fSl aY y2.AP],aC i.2.2.2.2.2.2.2.2.2.2.2.2.2.2.1 27 (tSl tI) i.2.2.2.2.2.2.2.1,aC i.2.2.2.2.2.2.2.2.2.2.2.2.2.2.2.1 27 (tSl tI) i.2.2.2.2.2.2.2.2.1,aC i.2.2.2.2.2.2.2.2.2.2.2.2.2.2.2.2.1 4 bE i.2.2.2.2.2.2.2.2.2.1,aC i.2.2.2.2.2.2.2.2.2.2.2.2.2.2.2.2.2 65 aM i.2.2.2.2.2.2.2.2.2.2.2.1]) (AA,0,a0.AH.AF,a0.AH.AQ,a0.AH.AD,a0.AH.AE,a0.AH.AG,a0.Ai,a0.Ab,a0.AZ,a0.AK.AF,a0.AK.AD,a0.AK.AE,a0.AK.AG,v1,v2,v3,v4) H ?_
 clear H;rintro⟨k1,x26,x27,x28,x29,x30,x31,x32,x33,x34,x35,x36,x37,x38,v13,v14,v15,v16⟩ H
 replace H:nD AA (eC AA) y2 z2 y5 k1 x26 x27 x28 x29 x30 x31 x32 x33 x34 x35 x36 x37 x38=_:=H
 try dsimp only
 obtain _ | k1:=k1
 rw [nD]at H;cases H
 rw [nD]at H
 refine aJ 3 rfl (fun hc_v13=>?_)
 refine aJ 4 rfl (fun hc_v14=>?_)
 refine aJ 5 rfl (fun hc_v15=>?_)
 refine aJ 6 rfl (fun hc_v16=>?_)
 refine Z3 ?_
 refine aI ?_
 revert H;refine is (fun c3 H=>?_) fun c3 H=>?_
 refine Z3 ?_
 refine aI ?_
 revert H;refine B2 fun y6 h8 H=>?_
 refine Z2 ?_
 refine Tn (bN rfl rU rfl) fun b3=>?_
 refine cG (φs':=[fI y6.At,fSl tI y6.AY,fI y6.AV]) a2g rfl rfl (has rfl) (has rfl) (aF (aH a2g) (aF (aS) (aF (aH a2g) bF))) (sz rfl) rfl rfl rfl ?_
 revert H;refine B4 fun y7 h9 H=>?_
 refine Tc (aFT _ _ _ _ h9) ?_
 refine Z2 ?_
 refine aI ?_
 revert H;refine is (fun c4 H=>?_) fun c4 H=>?_
 apply bL (ods:=[_,_,_,_,_,_,_,_,_,_,_,_,_,_]) 14 0 8 bK rfl rfl rfl
 refine ND ?_
 refine M8 ?_
 intros
 refine M6 ?_
 intros
 refine Z12 ?_
 revert H;refine B3 fun r1 H e1=>?_
 cases e1;cases Hr1
 refine jT ?_
 refine jT ?_
 refine jT ?_
 refine jT ?_
 refine dQ ?_
 refine eW (x:=(⟨(⟨x27,x28,x29,x30,x31⟩:AH),x32,x33,x34,(⟨x35,x36,x37,x38⟩:AI)⟩:Ae)) ?_
 cases H
 refine aE [0] (by decide) ?_
 exact To
 exact fk
 kernel_rfl
 revert H;refine bs fun y8 h10 H=>?_
 revert H;refine bs fun y9 h11 H=>?_
 revert H;refine bs fun z3 h12 H=>?_
 apply bL (ods:=[_,_,_,_,_,_,_,_,_,_,_,_,_,_]) 14 0 8 bK rfl rfl rfl
 refine ND ?_
 refine M8 ?_
 intros
 refine M1 ?_
 intros
 refine Nc (aAW _ _ _ _ h10) fun _=>?_
 refine Nc (vK _ _ _ h11) fun _=>?_
 refine M3 ?_
 intros
 refine Z1 ?_
 refine jT ?_
 refine jT ?_
 refine jT ?_
 refine jT ?_
 refine dQ ?_
 refine eW (x:=(⟨(⟨x27,x28,x29,x30,x31⟩:AH),x32,x33,x34,(⟨x35,x36,x37,x38⟩:AI)⟩:Ae)) ?_
 revert H;refine bs fun y10 h13 H=>?_
 refine Tc (ih_flat_view_node _ _ _ _ _ _ h13) ?_
 refine nI (fun v17 v18 v19 v20=>?_)
 refine aJ 1 rfl (fun hc_v17=>?_)
 refine aJ 2 rfl (fun hc_v18=>?_)
 refine aJ 3 rfl (fun hc_v19=>?_)
 refine aJ 4 rfl (fun hc_v20=>?_)
 refine Z3 ?_
 revert H;refine cs (fun c5 H=>?_) fun c5 H=>?_
 revert H;refine B5 fun z4 h14 H=>?_
 refine Z3 ?_
 refine aE [6,0,7,1,2,3,4] (by decide) ?_
 exact Tm ((k1,z4,y10.1.AH.AF,y10.1.AH.AQ,y10.1.AH.AD,y10.1.AH.AE,y10.1.AH.AG,y10.1.Ai,y10.1.Ab,y10.1.AZ,y10.1.AK.AF,y10.1.AK.AD,y10.1.AK.AE,y10.1.AK.AG,v17,v18,v19,v20)) ⟨H,ls⟩
 revert H;refine B10 fun r2 H e2=>?_
 cases e2;cases Hr1
 refine eW (x:=(⟨(⟨y10.1.AH.AF,y10.1.AH.AQ,y10.1.AH.AD,y10.1.AH.AE,y10.1.AH.AG⟩:AH),y10.1.Ai,y10.1.Ab,y10.1.AZ,(⟨y10.1.AK.AF,y10.1.AK.AD,y10.1.AK.AE,y10.1.AK.AG⟩:AI)⟩:Ae)) ?_
 cases H
 refine aE [0] (by decide) ?_
 exact To
 exact fk
 kernel_rfl
 refine Z6 ?_
 exact Tm ((x27,x28,x29,x30,x31,x32,x33,x34,x35,x36,x37,x38,v13,v14,v15,v16)) (ij H)
 clear H;intro i hi;obtain⟨x1,x2,x3,x4,x5,x6,x7,x8,x9,x10,x11,x12,v5,v6,v7,v8⟩:=i;subst o1;have H:=Hr1;clear Hr1;try dsimp only at H
 try dsimp only
 refine aJ 3 rfl (fun hc_v5=>?_)
 refine aJ 4 rfl (fun hc_v6=>?_)
 refine aJ 5 rfl (fun hc_v7=>?_)
 refine aJ 6 rfl (fun hc_v8=>?_)
 revert H;refine bs fun o2 H Hr2=>?_
 refine aR (ι:=List ByteArray × List Int × List Aj × List AO × Int × List (List Int) × List (List Int) × List Bool × List ByteArray × List AW × List AO × Int × Value × Value × Value × Value) (fun i=>o2=Sum.inl (i.1,i.2.1,i.2.2.1,i.2.2.2.1,i.2.2.2.2.1,i.2.2.2.2.2.1,i.2.2.2.2.2.2.1,i.2.2.2.2.2.2.2.1,i.2.2.2.2.2.2.2.2.1,i.2.2.2.2.2.2.2.2.2.1,i.2.2.2.2.2.2.2.2.2.2.1,i.2.2.2.2.2.2.2.2.2.2.2.1)) (fun i=>[(0,fEq (ptr p0)),(2,fSl tI a2),(3,fI z2),(9,fEq (ptr b1)),(11,fSl tI y3)]) (fun i=>[aA b1 54 [fI y1.Op,fI y1.N,fSl aO y1.AU,fSl tI y1.AM,fSl tI y1.AQ],aA p0 113 [fSl aD i.1,fSl tI i.2.1,fSl bM i.2.2.1,fSl aB i.2.2.2.1,fI i.2.2.2.2.1,fEq i.2.2.2.2.2.2.2.2.2.2.2.2.1,fEq i.2.2.2.2.2.2.2.2.2.2.2.2.2.1,fEq i.2.2.2.2.2.2.2.2.2.2.2.2.2.2.1,fSl aD i.2.2.2.2.2.2.2.2.1,fEq i.2.2.2.2.2.2.2.2.2.2.2.2.2.2.2,fSl aB i.2.2.2.2.2.2.2.2.2.2.1,fI i.2.2.2.2.2.2.2.2.2.2.2.1],aA b2 77 [fSl aW y2.AN,fSl bD y2.AR,fSl aY y2.AP],aC i.2.2.2.2.2.2.2.2.2.2.2.2.1 27 (tSl tI) i.2.2.2.2.2.1,aC i.2.2.2.2.2.2.2.2.2.2.2.2.2.1 27 (tSl tI) i.2.2.2.2.2.2.1,aC i.2.2.2.2.2.2.2.2.2.2.2.2.2.2.1 4 bE i.2.2.2.2.2.2.2.1,aC i.2.2.2.2.2.2.2.2.2.2.2.2.2.2.2 65 aM i.2.2.2.2.2.2.2.2.2.1]) ?_ ?_
 refine Z7 ?_
 refine Tl (ι:=Nat × Int × List ByteArray × List Int × List Aj × List AO × Int × List (List Int) × List (List Int) × List Bool × List ByteArray × List AW × List AO × Int × Value × Value × Value × Value) (fun i=>mY (eC AA) y2 z2 y5 i.1 i.2.1 i.2.2.1 i.2.2.2.1 i.2.2.2.2.1 i.2.2.2.2.2.1 i.2.2.2.2.2.2.1 i.2.2.2.2.2.2.2.1 i.2.2.2.2.2.2.2.2.1 i.2.2.2.2.2.2.2.2.2.1 i.2.2.2.2.2.2.2.2.2.2.1 i.2.2.2.2.2.2.2.2.2.2.2.1 i.2.2.2.2.2.2.2.2.2.2.2.2.1 i.2.2.2.2.2.2.2.2.2.2.2.2.2.1=_) (fun i=>i.1) (fun i=>[(0,fEq (ptr p0)),(2,fSl tI a2),(3,fI z2),(9,fEq (ptr b1)),(11,fSl tI y3),(12,fSl tI y5),(100,fSl bD y2.AR),(101,fI (y2.AR.length:Int)),(102,fI i.2.1)]) (fun i=>[aA b1 54 [fI y1.Op,fI y1.N,fSl aO y1.AU,fSl tI y1.AM,fSl tI y1.AQ],aA p0 113 [fSl aD i.2.2.1,fSl tI i.2.2.2.1,fSl bM i.2.2.2.2.1,fSl aB i.2.2.2.2.2.1,fI i.2.2.2.2.2.2.1,fEq i.2.2.2.2.2.2.2.2.2.2.2.2.2.2.1,fEq i.2.2.2.2.2.2.2.2.2.2.2.2.2.2.2.1,fEq i.2.2.2.2.2.2.2.2.2.2.2.2.2.2.2.2.1,fSl aD i.2.2.2.2.2.2.2.2.2.2.1,fEq i.2.2.2.2.2.2.2.2.2.2.2.2.2.2.2.2.2,fSl aB i.2.2.2.2.2.2.2.2.2.2.2.2.1,fI i.2.2.2.2.2.2.2.2.2.2.2.2.2.1],aA b2 77 [fSl aW y2.AN,fSl bD y2.AR,fSl aY y2.AP],aC i.2.2.2.2.2.2.2.2.2.2.2.2.2.2.1 27 (tSl tI) i.2.2.2.2.2.2.2.1,aC i.2.2.2.2.2.2.2.2.2.2.2.2.2.2.2.1 27 (tSl tI) i.2.2.2.2.2.2.2.2.1,aC i.2.2.2.2.2.2.2.2.2.2.2.2.2.2.2.2.1 4 bE i.2.2.2.2.2.2.2.2.2.1,aC i.2.2.2.2.2.2.2.2.2.2.2.2.2.2.2.2.2 65 aM i.2.2.2.2.2.2.2.2.2.2.2.1]) (AA,0,x1,x2,x3,x4,x5,x6,x7,x8,x9,x10,x11,x12,v5,v6,v7,v8) H ?_
 clear H;rintro⟨k2,x64,x65,x66,x67,x68,x69,x70,x71,x72,x73,x74,x75,x76,v29,v30,v31,v32⟩ H
 replace H:mY (eC AA) y2 z2 y5 k2 x64 x65 x66 x67 x68 x69 x70 x71 x72 x73 x74 x75 x76=_:=H
 try dsimp only
 obtain _ | k2:=k2
 rw [mY]at H;cases H
 rw [mY]at H
 refine aJ 3 rfl (fun hc_v29=>?_)
 refine aJ 4 rfl (fun hc_v30=>?_)
 refine aJ 5 rfl (fun hc_v31=>?_)
 refine aJ 6 rfl (fun hc_v32=>?_)
 refine Z3 ?_
 refine aI ?_
 revert H;refine is (fun c6 H=>?_) fun c6 H=>?_
 refine Z3 ?_
 refine aI ?_
 revert H;refine B2 fun y11 h15 H=>?_
 refine Z2 ?_
 refine Tn (bN rfl xB rfl) fun b4=>?_
 refine cG (φs':=[fI y11.In,fI y11.AV]) a2g rfl rfl (has rfl) (has rfl) (aF (aH a2g) (aF (aH a2g) bF)) (sz rfl) rfl rfl rfl ?_
 refine Z7 ?_
 refine jT ?_
 refine jT ?_
 refine jT ?_
 refine jT ?_
 refine dQ ?_
 refine eW (x:=(⟨(⟨x65,x66,x67,x68,x69⟩:AH),x70,x71,x72,(⟨x73,x74,x75,x76⟩:AI)⟩:Ae)) ?_
 revert H;refine bs fun y12 h16 H=>?_
 refine Tc (ih_flat_view_node _ _ _ _ _ _ h16) ?_
 refine nI (fun v33 v34 v35 v36=>?_)
 refine aJ 1 rfl (fun hc_v33=>?_)
 refine aJ 2 rfl (fun hc_v34=>?_)
 refine aJ 3 rfl (fun hc_v35=>?_)
 refine aJ 4 rfl (fun hc_v36=>?_)
 refine Z2 ?_
 revert H;refine cs (fun c7 H=>?_) fun c7 H=>?_
 revert H;refine B5 fun z5 h17 H=>?_
 refine Z3 ?_
 refine aE [6,0,7,1,2,3,4] (by decide) ?_
 exact Tm ((k2,z5,y12.1.AH.AF,y12.1.AH.AQ,y12.1.AH.AD,y12.1.AH.AE,y12.1.AH.AG,y12.1.Ai,y12.1.Ab,y12.1.AZ,y12.1.AK.AF,y12.1.AK.AD,y12.1.AK.AE,y12.1.AK.AG,v33,v34,v35,v36)) ⟨H,ls⟩
 revert H;refine B10 fun r3 H e3=>?_
 cases e3;cases Hr2
 refine eW (x:=(⟨(⟨y12.1.AH.AF,y12.1.AH.AQ,y12.1.AH.AD,y12.1.AH.AE,y12.1.AH.AG⟩:AH),y12.1.Ai,y12.1.Ab,y12.1.AZ,(⟨y12.1.AK.AF,y12.1.AK.AD,y12.1.AK.AE,y12.1.AK.AG⟩:AI)⟩:Ae)) ?_
 cases H
 refine aE [0] (by decide) ?_
 exact To
 refine Z6 ?_
 exact Tm ((x65,x66,x67,x68,x69,x70,x71,x72,x73,x74,x75,x76,v29,v30,v31,v32)) (ij H)
 clear H;intro i hi;obtain⟨x39,x40,x41,x42,x43,x44,x45,x46,x47,x48,x49,x50,v21,v22,v23,v24⟩:=i;subst o2;have H:=Hr2;clear Hr2;try dsimp only at H
 try dsimp only
 refine aJ 3 rfl (fun hc_v21=>?_)
 refine aJ 4 rfl (fun hc_v22=>?_)
 refine aJ 5 rfl (fun hc_v23=>?_)
 refine aJ 6 rfl (fun hc_v24=>?_)
 refine aI ?_
 revert H;refine bs fun y13 h18 H=>?_
 apply bL (ods:=[_,_,_,_,_,_,_]) 7 0 7 bK rfl rfl rfl
 refine ND ?_
 refine M5 ?_
 intros
 refine Nc (vK _ _ _ h18) fun _=>?_
 refine M1 ?_
 intros
 refine Z1 ?_
 refine dQ ?_
 refine dQ ?_
 refine dQ ?_
 refine dQ ?_
 refine dA ?_
 refine eW (x:=(⟨(⟨x39,x40,x41,x42,x43⟩:AH),x44,x45,x46,(⟨x47,x48,x49,x50⟩:AI)⟩:Ae)) ?_
 revert H;refine bs fun y14 h19 H=>?_
 refine Tc (ih_flat_view_kids _ _ _ _ _ _ h19) ?_
 refine nI (fun v37 v38 v39 v40=>?_)
 refine aJ 1 rfl (fun hc_v37=>?_)
 refine aJ 2 rfl (fun hc_v38=>?_)
 refine aJ 3 rfl (fun hc_v39=>?_)
 refine aJ 4 rfl (fun hc_v40=>?_)
 refine Z3 ?_
 refine eW (x:=(⟨(⟨y14.1.AH.AF,y14.1.AH.AQ,y14.1.AH.AD,y14.1.AH.AE,y14.1.AH.AG⟩:AH),y14.1.Ai,y14.1.Ab,y14.1.AZ,(⟨y14.1.AK.AF,y14.1.AK.AD,y14.1.AK.AE,y14.1.AK.AG⟩:AI)⟩:Ae)) ?_
 cases H
 refine aE [0] (by decide) ?_
 exact To
 exact fk
 kernel_rfl
 exact fk
 kernel_rfl
 exact fk
 kernel_rfl
 intro p0 a0 a1 a2 a3 r H
 rw [lN]at H
 refine bG Tryz.func109 rfl Tryz.ntmps109 rfl (fun β=>?_)
 refine nI (fun v1 v2 v3 v4=>?_)
 refine aJ 1 rfl (fun hc_v1=>?_)
 refine aJ 2 rfl (fun hc_v2=>?_)
 refine aJ 3 rfl (fun hc_v3=>?_)
 refine aJ 4 rfl (fun hc_v4=>?_)
 revert H;refine B3 fun o1 H Hr1=>?_
 refine aR (ι:=List ByteArray × List Int × List Aj × List AO × Int × List (List Int) × List (List Int) × List Bool × List ByteArray × List AW × List AO × Int × Value × Value × Value × Value) (fun i=>o1=Sum.inl (i.1,i.2.1,i.2.2.1,i.2.2.2.1,i.2.2.2.2.1,i.2.2.2.2.2.1,i.2.2.2.2.2.2.1,i.2.2.2.2.2.2.2.1,i.2.2.2.2.2.2.2.2.1,i.2.2.2.2.2.2.2.2.2.1,i.2.2.2.2.2.2.2.2.2.2.1,i.2.2.2.2.2.2.2.2.2.2.2.1)) (fun i=>[(0,fEq (ptr p0))]) (fun i=>[aA p0 113 [fSl aD i.1,fSl tI i.2.1,fSl bM i.2.2.1,fSl aB i.2.2.2.1,fI i.2.2.2.2.1,fEq i.2.2.2.2.2.2.2.2.2.2.2.2.1,fEq i.2.2.2.2.2.2.2.2.2.2.2.2.2.1,fEq i.2.2.2.2.2.2.2.2.2.2.2.2.2.2.1,fSl aD i.2.2.2.2.2.2.2.2.1,fEq i.2.2.2.2.2.2.2.2.2.2.2.2.2.2.2,fSl aB i.2.2.2.2.2.2.2.2.2.2.1,fI i.2.2.2.2.2.2.2.2.2.2.2.1],aC i.2.2.2.2.2.2.2.2.2.2.2.2.1 27 (tSl tI) i.2.2.2.2.2.1,aC i.2.2.2.2.2.2.2.2.2.2.2.2.2.1 27 (tSl tI) i.2.2.2.2.2.2.1,aC i.2.2.2.2.2.2.2.2.2.2.2.2.2.2.1 4 bE i.2.2.2.2.2.2.2.1,aC i.2.2.2.2.2.2.2.2.2.2.2.2.2.2.2 65 aM i.2.2.2.2.2.2.2.2.2.1]) ?_ ?_
 refine Z6 ?_
 refine Tl (ι:=Nat × Int × List ByteArray × List Int × List Aj × List AO × Int × List (List Int) × List (List Int) × List Bool × List ByteArray × List AW × List AO × Int × Value × Value × Value × Value) (fun i=>nJ (eC AA) a1 a2 a3 i.1 i.2.1 i.2.2.1 i.2.2.2.1 i.2.2.2.2.1 i.2.2.2.2.2.1 i.2.2.2.2.2.2.1 i.2.2.2.2.2.2.2.1 i.2.2.2.2.2.2.2.2.1 i.2.2.2.2.2.2.2.2.2.1 i.2.2.2.2.2.2.2.2.2.2.1 i.2.2.2.2.2.2.2.2.2.2.2.1 i.2.2.2.2.2.2.2.2.2.2.2.2.1 i.2.2.2.2.2.2.2.2.2.2.2.2.2.1=_) (fun i=>i.1) (fun i=>[(0,fEq (ptr p0)),(2,fSl tI a2),(3,fI a3),(11,fSl tI a1),(12,fI (a1.length:Int)),(13,fI i.2.1)]) (fun i=>[aA p0 113 [fSl aD i.2.2.1,fSl tI i.2.2.2.1,fSl bM i.2.2.2.2.1,fSl aB i.2.2.2.2.2.1,fI i.2.2.2.2.2.2.1,fEq i.2.2.2.2.2.2.2.2.2.2.2.2.2.2.1,fEq i.2.2.2.2.2.2.2.2.2.2.2.2.2.2.2.1,fEq i.2.2.2.2.2.2.2.2.2.2.2.2.2.2.2.2.1,fSl aD i.2.2.2.2.2.2.2.2.2.2.1,fEq i.2.2.2.2.2.2.2.2.2.2.2.2.2.2.2.2.2,fSl aB i.2.2.2.2.2.2.2.2.2.2.2.2.1,fI i.2.2.2.2.2.2.2.2.2.2.2.2.2.1],aC i.2.2.2.2.2.2.2.2.2.2.2.2.2.2.1 27 (tSl tI) i.2.2.2.2.2.2.2.1,aC i.2.2.2.2.2.2.2.2.2.2.2.2.2.2.2.1 27 (tSl tI) i.2.2.2.2.2.2.2.2.1,aC i.2.2.2.2.2.2.2.2.2.2.2.2.2.2.2.2.1 4 bE i.2.2.2.2.2.2.2.2.2.1,aC i.2.2.2.2.2.2.2.2.2.2.2.2.2.2.2.2.2 65 aM i.2.2.2.2.2.2.2.2.2.2.2.1]) (AA,0,a0.AH.AF,a0.AH.AQ,a0.AH.AD,a0.AH.AE,a0.AH.AG,a0.Ai,a0.Ab,a0.AZ,a0.AK.AF,a0.AK.AD,a0.AK.AE,a0.AK.AG,v1,v2,v3,v4) H ?_
 clear H;rintro⟨k1,x26,x27,x28,x29,x30,x31,x32,x33,x34,x35,x36,x37,x38,v13,v14,v15,v16⟩ H
 replace H:nJ (eC AA) a1 a2 a3 k1 x26 x27 x28 x29 x30 x31 x32 x33 x34 x35 x36 x37 x38=_:=H
 try dsimp only
 obtain _ | k1:=k1
 rw [nJ]at H;cases H
 rw [nJ]at H
 refine aJ 1 rfl (fun hc_v13=>?_)
 refine aJ 2 rfl (fun hc_v14=>?_)
 refine aJ 3 rfl (fun hc_v15=>?_)
 refine aJ 4 rfl (fun hc_v16=>?_)
 refine Z3 ?_
 refine aI ?_
 revert H;refine is (fun c1 H=>?_) fun c1 H=>?_
 refine Z3 ?_
 refine aI ?_
 revert H;refine B2 fun y1 h1 H=>?_
 refine Z9 ?_
 refine eW (x:=(⟨(⟨x27,x28,x29,x30,x31⟩:AH),x32,x33,x34,(⟨x35,x36,x37,x38⟩:AI)⟩:Ae)) ?_
 revert H;refine bs fun y2 h2 H=>?_
 refine Tc (ih_flat_view_node _ _ _ _ _ _ h2) ?_
 refine nI (fun v17 v18 v19 v20=>?_)
 refine aJ 1 rfl (fun hc_v17=>?_)
 refine aJ 2 rfl (fun hc_v18=>?_)
 refine aJ 3 rfl (fun hc_v19=>?_)
 refine aJ 4 rfl (fun hc_v20=>?_)
 refine Z2 ?_
 revert H;refine cs (fun c2 H=>?_) fun c2 H=>?_
 revert H;refine B5 fun z1 h3 H=>?_
 refine Z3 ?_
 exact Tm ((k1,z1,y2.1.AH.AF,y2.1.AH.AQ,y2.1.AH.AD,y2.1.AH.AE,y2.1.AH.AG,y2.1.Ai,y2.1.Ab,y2.1.AZ,y2.1.AK.AF,y2.1.AK.AD,y2.1.AK.AE,y2.1.AK.AG,v17,v18,v19,v20)) ⟨H,ls⟩
 revert H;refine B10 fun r1 H e1=>?_
 cases e1;cases Hr1
 refine eW (x:=(⟨(⟨y2.1.AH.AF,y2.1.AH.AQ,y2.1.AH.AD,y2.1.AH.AE,y2.1.AH.AG⟩:AH),y2.1.Ai,y2.1.Ab,y2.1.AZ,(⟨y2.1.AK.AF,y2.1.AK.AD,y2.1.AK.AE,y2.1.AK.AG⟩:AI)⟩:Ae)) ?_
 cases H
 exact To
 refine Z6 ?_
 exact Tm ((x27,x28,x29,x30,x31,x32,x33,x34,x35,x36,x37,x38,v13,v14,v15,v16)) (ij H)
 clear H;intro i hi;obtain⟨x1,x2,x3,x4,x5,x6,x7,x8,x9,x10,x11,x12,v5,v6,v7,v8⟩:=i;subst o1;have H:=Hr1;clear Hr1;try dsimp only at H
 try dsimp only
 refine aJ 1 rfl (fun hc_v5=>?_)
 refine aJ 2 rfl (fun hc_v6=>?_)
 refine aJ 3 rfl (fun hc_v7=>?_)
 refine aJ 4 rfl (fun hc_v8=>?_)
 refine Z4 ?_
 refine eW (x:=(⟨(⟨x1,x2,x3,x4,x5⟩:AH),x6,x7,x8,(⟨x9,x10,x11,x12⟩:AI)⟩:Ae)) ?_
 cases H
 exact To
theorem aK4 (AA:Nat) (p0:Nat) (a0:Ae) (a1:Int) (a2:List Int) (a3:Int) (r:Ae × Bool) (H:eC AA a0 a1 a2 a3=some r):FnS Tryz.prog 77 [fEq (.pointer (some ⟨p0,0,none⟩)),fI a1,fSl tI a2,fI a3] [lU p0 a0] (aK r.2) (fun _=>[lU p0 r.1]):=(aIQ AA).1 p0 a0 a1 a2 a3 r H
open Go.SX Go.SW Go.Dt
def aBQ (AA:Nat) (a0:AI) (a1:Ad->Option Bool):Option (Bool × Int):=
 (tT AA (⟨a0.AF,a0.AD,a0.AE,a0.AG⟩:AI)).bind fun y1=>
 match y1 with
 | Sum.inr pv1=>(unI 245 pv1).bind fun e1=>some (false,e1)
 | Sum.inl y1=>
 (a1 y1).bind fun y2=>
 some (y2,0)
theorem aIB (AA:Nat)  (a0:AI) (a1:Ad->Option Bool) (r:Bool × Int) (H:aBQ AA a0 a1=some r):FnS Tryz.prog 110 [fSt cN a0,fFn Tryz.prog (fun (x:Ad)=>[aG bZ x]) (fun (r:Bool)=>aK r) a1] [] (dF [aK r.1,fI r.2]) (fun _=>[]):=by
 unfold aBQ at H
 refine aBW Tryz.func110 rfl Tryz.ntmps110 rfl (fun β=>?_)
 refine Z1 ?_
 refine Tn (bU rfl hh bS) fun b1=>?_
 refine Z1 ?_
 refine Tn (bN rfl aCs rfl) fun b2=>?_
 refine Z2 ?_
 refine aDq a2g rfl rfl (gX.cons (has rfl) gX.nil) ?_
 revert H;refine B4 fun y1 h1 H=>?_
 rcases y1 with y1 | pv1 <;> dsimp only at H
 refine Tc (wJ _ _ _ h1).s ?_
 revert H;refine bs fun y2 h2 H=>?_
 refine yU y1 a2g rfl rfl rfl (has rfl) (aN.cons (has rfl) aN.nil) h2 ?_
 refine Z1 ?_
 refine cC (φs':=[fI 0]) a2g rfl rfl (has rfl) (has rfl) (aH a2g) (sz rfl) rfl rfl ?_
 refine Z2 ?_
 cases H
 refine aE [0] (by decide) ?_
 exact aCg (vT (u:= .returning) (by simp) rfl (bP rfl) rfl (sc rfl) (cb rfl) (aCF b2 0) rfl rfl)
 refine Tp (wJ _ _ _ h1).pan ?_
 refine Z1 ?_
 have H0:=H;clear H;obtain⟨e1,h3,H⟩:=bind_some H0;clear H0;have hv_e1:=aDb h3;subst hv_e1
 cases H
 refine aE [0] (by decide) ?_
 exact aD8 (vT (u:= .panicking [{ v:= .iface 245 (.agg #[.int .i64 e1]),recovered:=false }]) (by simp) rfl (bP rfl) rfl (sc rfl) (cb rfl) (aD9 b2 0 e1) rfl rfl)
def aBv (a0:Ad):Option (Bool):=
 some true
theorem aI4  (a0:Ad) (r:Bool) (H:aBv a0=some r):FnS Tryz.prog 111 [aG bZ a0] [] (aK r) (fun _=>[]):=by
 unfold aBv at H
 refine bG Tryz.func111 rfl Tryz.ntmps111 rfl (fun β=>?_)
 refine Z7 ?_
 cases H
 exact To
def vA (AA:Nat) (a0:AI):Option (Int):=
 (aBQ AA (⟨a0.AF,a0.AD,a0.AE,a0.AG⟩:AI) (fun x=>aBv x)).bind fun y1=>
 some y1.2
theorem aLh (AA:Nat)  (a0:AI) (r:Int) (H:vA AA a0=some r):FnS Tryz.prog 78 [fSt cN a0] [] (fI r) (fun _=>[]):=by
 unfold vA at H
 refine bG Tryz.func78 rfl Tryz.ntmps78 rfl (fun β=>?_)
 refine Z1 ?_
 refine Tn (bU rfl hh bS) fun b1=>?_
 revert H;refine B4 fun y1 h1 H=>?_
 refine pI a2g rfl rfl rfl hh (aN.cons hh (aN.cons (gC rfl (aCD (cb rfl) (fun x r hx=>aI4 x r hx))) aN.nil)) rfl (cb rfl) (aIB AA (⟨a0.AF,a0.AD,a0.AE,a0.AG⟩:AI) (fun x=>aBv x) y1 h1) rfl ?_
 refine Z11 ?_
 cases H
 refine aE [] (by decide) ?_
 exact To
def mF (a0:AH):Nat->Int->Option ((Unit) ⊕ (Option Ae))
| 0,_=>none
| k+1,x2=>
 if x2<(a0.AE.length:Int)then
  (idx a0.AE x2).bind fun y2=>
  if 30<(y2.AN.length:Int)then
   (some none).bind fun r=>some (Sum.inr r)
  else
   if 30<(y2.AR.length:Int)then
    (some none).bind fun r=>some (Sum.inr r)
   else
    (chk (x2+1)).bind fun z1=>
    mF a0 k z1
 else
  some (Sum.inl ())
def tJ (AA:Nat) (a0:AH):Option (Option Ae):=
 if 60<(a0.AD.length:Int)then
  some none
 else
  if 12<(a0.AF.length:Int)then
   some none
  else
   if 12<(a0.AE.length:Int)then
    some none
   else
    (sU AA a0.AQ (a0.AF.length:Int)).bind fun y1=>
    bif y1 then
     (mF a0 AA 0).bind fun o=>match o with
     | Sum.inr r=>some r
     | Sum.inl _=>
     (mk [] (a0.AD.length:Int)).bind fun y3=>
     (mk [] (a0.AD.length:Int)).bind fun y4=>
     (mk false (a0.AD.length:Int)).bind fun y5=>
     (vB a0.AF).bind fun y6=>
     (mk (⟨0,0,[],[]⟩:AW) (a0.AD.length:Int)).bind fun y7=>
     (uZ AA a0.AE).bind fun y8=>
     (gQ a0.AQ).bind fun y9=>
     (eC AA (⟨(⟨a0.AF,a0.AQ,a0.AD,a0.AE,a0.AG⟩:AH),y3,y4,y5,(⟨y6,y7,y8,a0.AG⟩:AI)⟩:Ae) a0.AG y9 (a0.AF.length:Int)).bind fun y10=>
     bif !y10.2 then
      some none
     else
      (vA AA (⟨y10.1.AK.AF,y10.1.AK.AD,y10.1.AK.AE,y10.1.AK.AG⟩:AI)).bind fun y11=>
      if y11≠0 then
       some none
      else
       some (some (⟨(⟨y10.1.AH.AF,y10.1.AH.AQ,y10.1.AH.AD,y10.1.AH.AE,y10.1.AH.AG⟩:AH),y10.1.Ai,y10.1.Ab,y10.1.AZ,(⟨y10.1.AK.AF,y10.1.AK.AD,y10.1.AK.AE,y10.1.AK.AG⟩:AI)⟩:Ae))
    else
     some none
theorem aD2 (AA:Nat)  (a0:AH) (r:Option Ae) (H:tJ AA a0=some r):FnS Tryz.prog 45 [fSt oK a0] [] (fOpt aBd r) (fun _=>[]):=by
 unfold tJ at H
 refine bG Tryz.func45 rfl Tryz.ntmps45 rfl (fun β=>?_)
 refine Z1 ?_
 refine Tn (bU rfl hh bS) fun b1=>?_
 refine Z2 ?_
 refine aI ?_
 revert H;refine I6 (fun c1 H=>?_) fun c1 H=>?_
 refine Z12 ?_
 refine Z12 ?_
 refine Z2 ?_
 cases H
 refine aE [] (by decide) ?_
 exact eD rfl (fM rfl rR) rfl
 revert H;refine I6 (fun c2 H=>?_) fun c2 H=>?_
 refine Z12 ?_
 refine Z8 ?_
 cases H
 refine aE [] (by decide) ?_
 exact eD rfl (fM rfl rR) rfl
 revert H;refine I6 (fun c3 H=>?_) fun c3 H=>?_
 refine Z12 ?_
 refine Z2 ?_
 cases H
 refine aE [] (by decide) ?_
 exact eD rfl (fM rfl rR) rfl
 revert H;refine B5 fun y1 h1 H=>?_
 refine Tc (aDY _ _ _ _ h1) ?_
 refine Z3 ?_
 revert H;refine cs (fun c4 H=>?_) fun c4 H=>?_
 revert H;refine B3 fun o1 H Hr1=>?_
 refine aR (ι:=Unit) (fun i=>o1=Sum.inl ()) (fun i=>[(1,fEq (ptr b1))]) (fun i=>[aA b1 30 [fSl aD a0.AF,fSl tI a0.AQ,fSl bM a0.AD,fSl aB a0.AE,fI a0.AG]]) ?_ ?_
 refine Z7 ?_
 refine Tl (ι:=Nat × Int) (fun i=>mF a0 i.1 i.2=_) (fun i=>i.1) (fun i=>[(1,fEq (ptr b1)),(33,fSl aB a0.AE),(34,fI (a0.AE.length:Int)),(35,fI i.2)]) (fun i=>[aA b1 30 [fSl aD a0.AF,fSl tI a0.AQ,fSl bM a0.AD,fSl aB a0.AE,fI a0.AG]]) (AA,0) H ?_
 clear H;rintro⟨k1,x2⟩ H
 replace H:mF a0 k1 x2=_:=H
 try dsimp only
 obtain _ | k1:=k1
 rw [mF]at H;cases H
 rw [mF]at H
 refine Z3 ?_
 refine aI ?_
 revert H;refine is (fun c5 H=>?_) fun c5 H=>?_
 refine Z3 ?_
 refine aI ?_
 revert H;refine B2 fun y2 h2 H=>?_
 refine Z2 ?_
 refine Tn (bN rfl vI rfl) fun b2=>?_
 refine cG (φs':=[fSl aW y2.AN,fSl bD y2.AR,fSl aY y2.AP]) a2g rfl rfl (has rfl) (has rfl) (aF (aS) (aF (aS) (aF (aS) bF))) (sz rfl) rfl rfl rfl ?_
 revert H;refine I7 (fun c6 H=>?_) fun c6 H=>?_
 refine Z12 ?_
 revert H;refine B4 fun r1 H e1=>?_
 cases e1;cases Hr1
 cases H
 refine aE [] (by decide) ?_
 exact eD rfl (fM rfl rR) rfl
 revert H;refine I6 (fun c7 H=>?_) fun c7 H=>?_
 revert H;refine B10 fun r2 H e2=>?_
 cases e2;cases Hr1
 cases H
 refine aE [] (by decide) ?_
 exact eD rfl (fM rfl rR) rfl
 revert H;refine B5 fun z1 h3 H=>?_
 refine Z3 ?_
 refine aE [1] (by decide) ?_
 exact Tm ((k1,z1)) ⟨H,ls⟩
 refine Z6 ?_
 exact Tm (()) (ij H)
 clear H;intro i hi;subst o1;have H:=Hr1;clear Hr1;try dsimp only at H
 try dsimp only
 refine Z6 ?_
 refine aI ?_
 revert H;refine bs fun y3 h4 H=>?_
 revert H;refine bs fun y4 h5 H=>?_
 revert H;refine bs fun y5 h6 H=>?_
 apply bL (ods:=[_,_,_,_,_,_,_,_,_,_]) 10 4 5 bK rfl rfl rfl
 refine ND ?_
 refine M2 ?_
 intros
 refine Mn 1 (fun b3=> .slice (some ⟨b3,0,none⟩) y3.length y3.length) (fun b3=>aC (.slice (some ⟨b3,0,none⟩) y3.length y3.length) 27 (tSl tI) y3) rfl (aA8 (t:=(tSl tI)) (z:=[]) rfl (has rfl) (et rfl) rfl aAF (aP.cons cW aP.nil) h4) (fun b3 u1=>?_)
 refine M1 ?_
 intros
 refine Mn 2 (fun b4=> .slice (some ⟨b4,0,none⟩) y4.length y4.length) (fun b4=>aC (.slice (some ⟨b4,0,none⟩) y4.length y4.length) 27 (tSl tI) y4) rfl (aA8 (t:=(tSl tI)) (z:=[]) rfl (has rfl) (et rfl) rfl aAF (aP.cons cW aP.nil) h5) (fun b4 u2=>?_)
 refine M1 ?_
 intros
 refine Mn 3 (fun b5=> .slice (some ⟨b5,0,none⟩) y5.length y5.length) (fun b5=>aC (.slice (some ⟨b5,0,none⟩) y5.length y5.length) 4 bE y5) rfl (rC (t:=bE) (z:=false) rfl (has rfl) (et rfl) rfl aBE rfl h6) (fun b5 u3=>?_)
 refine N_y (od:=od3 2 4 6 [] false (fun b3 _ b4 _ b5 _=>eI [fSl aD a0.AF,fSl tI a0.AQ,fSl bM a0.AD,fSl aB a0.AE,fI a0.AG,fEq (.slice (some ⟨b3,0,none⟩) y3.length y3.length),fEq (.slice (some ⟨b4,0,none⟩) y4.length y4.length),fEq (.slice (some ⟨b5,0,none⟩) y5.length y5.length),fEq (.slice none 0 0),fEq (.slice none 0 0),fEq (.slice none 0 0),fI 0]) (fun b3 _ b4 _ b5 _=>[])) (φ:=eI [fSl aD a0.AF,fSl tI a0.AQ,fSl bM a0.AD,fSl aB a0.AE,fI a0.AG,fEq (.slice (some ⟨b3,0,none⟩) y3.length y3.length),fEq (.slice (some ⟨b4,0,none⟩) y4.length y4.length),fEq (.slice (some ⟨b5,0,none⟩) y5.length y5.length),fEq (.slice none 0 0),fEq (.slice none 0 0),fEq (.slice none 0 0),fI 0]) rfl (fun _=>rfl) a2g rfl (gP (ψs:=[fSl aD a0.AF,fSl tI a0.AQ,fSl bM a0.AD,fSl aB a0.AE,fI a0.AG,fEq (.slice (some ⟨b3,0,none⟩) y3.length y3.length),fEq (.slice (some ⟨b4,0,none⟩) y4.length y4.length),fEq (.slice (some ⟨b5,0,none⟩) y5.length y5.length),fEq (.slice none 0 0),fEq (.slice none 0 0),fEq (.slice none 0 0),fI 0]) rfl aJH rfl (bQ.cons (has rfl) bS (bQ.cons (has rfl) (cJ (aH a2g)) (bQ.cons (has rfl) (cJ (aH a2g)) (bQ.cons (has rfl) (cJ (aH a2g)) bQ.nil)))) rfl) (fun _=>?_)
 refine N_new (od:=odN3 2 4 6 [4] true (fun b3 _ b4 _ b5 _ b6 _=>fEq (ptr b6)) (fun b3 _ b4 _ b5 _ b6 _=>[aA b6 113 [fSl aD a0.AF,fSl tI a0.AQ,fSl bM a0.AD,fSl aB a0.AE,fI a0.AG,fEq (.slice (some ⟨b3,0,none⟩) y3.length y3.length),fEq (.slice (some ⟨b4,0,none⟩) y4.length y4.length),fEq (.slice (some ⟨b5,0,none⟩) y5.length y5.length),fEq (.slice none 0 0),fEq (.slice none 0 0),fEq (.slice none 0 0),fI 0]])) (p:=4) (f:=fun b6=>ptr b6) (τ:=fun b6=>aA b6 113 [fSl aD a0.AF,fSl tI a0.AQ,fSl bM a0.AD,fSl aB a0.AE,fI a0.AG,fEq (.slice (some ⟨b3,0,none⟩) y3.length y3.length),fEq (.slice (some ⟨b4,0,none⟩) y4.length y4.length),fEq (.slice (some ⟨b5,0,none⟩) y5.length y5.length),fEq (.slice none 0 0),fEq (.slice none 0 0),fEq (.slice none 0 0),fI 0]) rfl (fun _=>rfl) (fun _=>rfl) a2g rfl rfl (bU rfl (has rfl) bS) (fun b6 u4=>?_)
 refine D1 8 b6 _ (fun b6 _=>fEq (ptr b6)) rfl (aBS rfl hh) (fun _=>?_)
 refine Z1 ?_
 generalize (Value.slice (some ⟨b3,0,none⟩) _ _)=v1
 refine aJ 1 rfl (fun hc_v1=>?_)
 generalize (Value.slice (some ⟨b4,0,none⟩) _ _)=v2
 refine aJ 2 rfl (fun hc_v2=>?_)
 generalize (Value.slice (some ⟨b5,0,none⟩) _ _)=v3
 refine aJ 3 rfl (fun hc_v3=>?_)
 refine Z1 ?_
 refine aI ?_
 revert H;refine bs fun y6 h7 H=>?_
 revert H;refine bs fun y7 h8 H=>?_
 revert H;refine bs fun y8 h9 H=>?_
 apply bL (ods:=[_,_,_,_,_,_,_,_,_,_,_,_,_,_,_]) 15 1 6 bK rfl rfl rfl
 refine ND ?_
 refine M3 ?_
 intros
 refine Nc (aF5 _ _ h7) fun _=>?_
 refine M1 ?_
 intros
 refine Mn 5 (fun b7=> .slice (some ⟨b7,0,none⟩) y7.length y7.length) (fun b7=>aC (.slice (some ⟨b7,0,none⟩) y7.length y7.length) 65 aM y7) rfl (aA8 (t:=aM) (z:=(⟨0,0,[],[]⟩:AW)) rfl (has rfl) (et rfl) rfl rP (aP.cons Ent.rfl (aP.cons Ent.rfl (aP.cons cW (aP.cons cW aP.nil)))) h8) (fun b7 u5=>?_)
 refine M2 ?_
 intros
 refine Nc (aF4 _ _ _ h9) fun _=>?_
 refine M2 ?_
 intros
 refine D1 5 b7 _ (fun b7 _=>eI [fSl aD y6,fEq (.slice (some ⟨b7,0,none⟩) y7.length y7.length),fSl aB y8,fI a0.AG]) rfl (gP (ψs:=[fSl aD y6,fEq (.slice (some ⟨b7,0,none⟩) y7.length y7.length),fSl aB y8,fI a0.AG]) rfl aGV rfl (bQ.cons (has rfl) (cJ (aS)) (bQ.cons (has rfl) (cJ (aH a2g)) (bQ.cons (has rfl) (cJ (aS)) (bQ.cons (has rfl) (cJ (aH a2g)) bQ.nil)))) rfl) (fun _=>?_)
 refine M2 ?_
 intros
 refine pA (od:=od1 5 [4] true (fun b7 _=>dX) (fun b7 _=>[aA b6 113 [fSl aD a0.AF,fSl tI a0.AQ,fSl bM a0.AD,fSl aB a0.AE,fI a0.AG,fEq v1,fEq v2,fEq v3,fSl aD y6,fEq (.slice (some ⟨b7,0,none⟩) y7.length y7.length),fSl aB y8,fI a0.AG]])) (p:=4) (φs':=[fSl aD a0.AF,fSl tI a0.AQ,fSl bM a0.AD,fSl aB a0.AE,fI a0.AG,fEq v1,fEq v2,fEq v3,fSl aD y6,fEq (.slice (some ⟨b7,0,none⟩) y7.length y7.length),fSl aB y8,fI a0.AG]) rfl (fun _=>rfl) (fun _=>rfl) a2g rfl rfl rfl (has rfl) (has rfl) (aF (aS) (aF (aH a2g) (aF (aS) (aF (aH a2g) bF)))) (sz rfl) rfl rfl rfl (fun _=>?_)
 refine Z1 ?_
 generalize (Value.slice (some ⟨b7,0,none⟩) _ _)=v4
 refine aJ 5 rfl (fun hc_v4=>?_)
 refine Z1 ?_
 refine aI ?_
 refine aI ?_
 revert H;refine bs fun y9 h10 H=>?_
 apply bL (ods:=[_,_,_,_,_,_,_,_,_]) 9 0 6 bK rfl rfl rfl
 refine ND ?_
 refine M5 ?_
 intros
 refine wV (od:=odC [] true (fSl tI y9) []) (Φ:=fSl tI y9) rfl (fun _=>rfl) a2g rfl rfl (has rfl) (aN.cons (has rfl) aN.nil) rfl (cb rfl) (vD a0.AQ y9 h10) (fun _=>?_)
 refine M3 ?_
 intros
 refine Z1 ?_
 refine dA ?_
 refine aZ ?_
 refine aZ ?_
 refine aZ ?_
 refine dA ?_
 refine eW (x:=(⟨(⟨a0.AF,a0.AQ,a0.AD,a0.AE,a0.AG⟩:AH),y3,y4,y5,(⟨y6,y7,y8,a0.AG⟩:AI)⟩:Ae)) ?_
 revert H;refine bs fun y10 h11 H=>?_
 refine Tc (aK4 _ _ _ _ _ _ _ h11) ?_
 refine nI (fun v5 v6 v7 v8=>?_)
 refine aJ 1 rfl (fun hc_v5=>?_)
 refine aJ 2 rfl (fun hc_v6=>?_)
 refine aJ 3 rfl (fun hc_v7=>?_)
 refine aJ 4 rfl (fun hc_v8=>?_)
 refine Z2 ?_
 revert H;refine cs (fun c8 H=>?_) fun c8 H=>?_
 refine Z12 ?_
 refine Z1 ?_
 cases H
 refine aE [] (by decide) ?_
 exact eD rfl (fM rfl rR) rfl
 refine Z4 ?_
 refine aZ ?_
 refine cE (φ:=fSl aM y10.1.AK.AD) (v:=v8) [] dI (fun _ h=>nomatch h) ?_
 refine eY (φs':=[fSl aD y10.1.AH.AF,fSl tI y10.1.AH.AQ,fSl bM y10.1.AH.AD,fSl aB y10.1.AH.AE,fI y10.1.AH.AG,fEq v5,fEq v6,fEq v7,fSl aD y10.1.AK.AF,fSl aM y10.1.AK.AD,fSl aB y10.1.AK.AE,fI y10.1.AK.AG]) (i:=9) rfl rfl ?_
 refine rI 91 (ψ:=eI [fSl aD y10.1.AK.AF,fEq v8,fSl aB y10.1.AK.AE,fI y10.1.AK.AG]) rfl (qP (i:=1) (φs:=[fSl aD y10.1.AK.AF,fEq v8,fSl aB y10.1.AK.AE,fI y10.1.AK.AG]) (φs':=[fSl aD y10.1.AK.AF,fSl aM y10.1.AK.AD,fSl aB y10.1.AK.AE,fI y10.1.AK.AG]) rfl rfl) ?_
 refine cD ?_
 revert H;refine bs fun y11 h12 H=>?_
 refine Tc (aLh _ _ _ h12) ?_
 revert H;refine I3 (fun c9 H=>?_) fun c9 H=>?_
 refine Z5 ?_
 cases H
 refine aE [] (by decide) ?_
 exact eD rfl (fM rfl rR) rfl
 refine Z8 ?_
 refine cK ?_
 refine cE (φ:=fSl (tSl tI) y10.1.Ai) (v:=v5) [] dI (fun _ h=>nomatch h) ?_
 refine eY (φs':=[fSl aD y10.1.AH.AF,fSl tI y10.1.AH.AQ,fSl bM y10.1.AH.AD,fSl aB y10.1.AH.AE,fI y10.1.AH.AG,fSl (tSl tI) y10.1.Ai,fEq v6,fEq v7,fSl aD y10.1.AK.AF,fSl aM y10.1.AK.AD,fSl aB y10.1.AK.AE,fI y10.1.AK.AG]) (i:=5) rfl rfl ?_
 refine cD ?_
 refine cK ?_
 refine cE (φ:=fSl (tSl tI) y10.1.Ab) (v:=v6) [] dI (fun _ h=>nomatch h) ?_
 refine eY (φs':=[fSl aD y10.1.AH.AF,fSl tI y10.1.AH.AQ,fSl bM y10.1.AH.AD,fSl aB y10.1.AH.AE,fI y10.1.AH.AG,fSl (tSl tI) y10.1.Ai,fSl (tSl tI) y10.1.Ab,fEq v7,fSl aD y10.1.AK.AF,fSl aM y10.1.AK.AD,fSl aB y10.1.AK.AE,fI y10.1.AK.AG]) (i:=6) rfl rfl ?_
 refine cD ?_
 refine cK ?_
 refine cE (φ:=fSl bE y10.1.AZ) (v:=v7) [] dI (fun _ h=>nomatch h) ?_
 refine eY (φs':=[fSl aD y10.1.AH.AF,fSl tI y10.1.AH.AQ,fSl bM y10.1.AH.AD,fSl aB y10.1.AH.AE,fI y10.1.AH.AG,fSl (tSl tI) y10.1.Ai,fSl (tSl tI) y10.1.Ab,fSl bE y10.1.AZ,fSl aD y10.1.AK.AF,fSl aM y10.1.AK.AD,fSl aB y10.1.AK.AE,fI y10.1.AK.AG]) (i:=7) rfl rfl ?_
 refine cD ?_
 refine cE (φ:=aG aBd (⟨(⟨y10.1.AH.AF,y10.1.AH.AQ,y10.1.AH.AD,y10.1.AH.AE,y10.1.AH.AG⟩:AH),y10.1.Ai,y10.1.Ab,y10.1.AZ,(⟨y10.1.AK.AF,y10.1.AK.AD,y10.1.AK.AE,y10.1.AK.AG⟩:AI)⟩:Ae)) (v:=ptr b6) [61,6,62,74,76,88,89,95,2] (fQ aP.rfl) fz ?_
 refine cD ?_
 cases H
 refine aE [] (by decide) ?_
 exact eD rfl (fM rfl ent_optS) rfl
 exact fk
 kernel_rfl
 exact fk
 kernel_rfl
 exact fk
 kernel_rfl
 refine Z5 ?_
 cases H
 refine aE [] (by decide) ?_
 exact eD rfl (fM rfl rR) rfl
def xI (AA:Nat) (a0:AH):Option (AI × Int):=
 (tJ AA (⟨a0.AF,a0.AQ,a0.AD,a0.AE,a0.AG⟩:AH)).bind fun y1=>
 bif y1.isNone then
  some ((⟨[],[],[],0⟩:AI),2)
 else
  (y1).bind fun y2=>
  some ((⟨y2.AK.AF,y2.AK.AD,y2.AK.AE,y2.AK.AG⟩:AI),0)
theorem aIn (AA:Nat)  (a0:AH) (r:AI × Int) (H:xI AA a0=some r):FnS Tryz.prog 11 [fSt oK a0] [] (dF [fSt cN r.1,fI r.2]) (fun _=>[]):=by
 unfold xI at H
 refine bG Tryz.func11 rfl Tryz.ntmps11 rfl (fun β=>?_)
 refine Z1 ?_
 refine Tn (bU rfl hh bS) fun b1=>?_
 refine Tn (bN rfl aHY rfl) fun b2=>?_
 revert H;refine B4 fun y1 h1 H=>?_
 refine Tc (aD2 _ _ _ h1) ?_
 refine Z2 ?_
 refine aI ?_
 refine Z2 ?_
 refine Yy (aDt rfl hh aD0) ?_
 refine Z1 ?_
 revert H;refine cs (fun c1 H=>?_) fun c1 H=>?_
 refine Z2 ?_
 refine Yy (gP (ψs:=[fEq (.slice none 0 0),fEq (.slice none 0 0),fEq (.slice none 0 0),fI 0]) rfl aGV rfl bQ.nil rfl) ?_
 refine cG (φs':=[fEq (.slice none 0 0),fEq (.slice none 0 0),fEq (.slice none 0 0),fI 0]) a2g rfl rfl (has rfl) (has rfl) (aF (aH a2g) (aF (aH a2g) (aF (aH a2g) (aF (aH a2g) bF)))) (sz rfl) rfl rfl rfl ?_
 refine Z3 ?_
 cases H
 refine aE [0] (by decide) ?_
 exact qT rfl (ag rfl) rfl (bP rfl) (bP rfl) (sE (aP.cons cW (aP.cons cW (aP.cons cW (aP.cons Ent.rfl aP.nil))))) rfl
 revert H;refine B5 fun y2 h2 H=>?_
 refine nP 6 rfl (rG h2) ?_
 refine nP 4 rfl (rG h2) ?_
 refine nP 7 rfl (rG h2) ?_
 refine nP 10 rfl (rG h2) ?_
 refine Z3 ?_
 refine cG (φs':=[fSl aD y2.AK.AF,fSl aM y2.AK.AD,fSl aB y2.AK.AE,fI y2.AK.AG]) a2g rfl rfl (has rfl) (has rfl) (aF (aS) (aF (aS) (aF (aS) (aF (aH a2g) bF)))) (sz rfl) rfl rfl rfl ?_
 refine Z3 ?_
 cases H
 refine aE [0] (by decide) ?_
 exact qT rfl (ag rfl) rfl (bP rfl) (bP rfl) Ent.rfl rfl
def oV (AA:Nat) (a0:Int) (a1:List Int) (w0:aL Int (List Int)):Nat->Int->Int->Option (Int)
| 0,_,_=>none
| k+1,x3,x4=>
 if x3<(a1.length:Int)then
  ((idx a1 x3).bind fun y1=>
  (kY AA ((w0.get a0).getD []) y1).bind fun y2=>
  if y2<0 then
   (chk (x4+1)).bind fun z1=>
   some z1
  else
   some x4).bind fun x5=>
  (chk (x3+1)).bind fun z2=>
  oV AA a0 a1 w0 k z2 x5
 else
  some x4
def sY (AA:Nat) (a0:Int) (a1:List Int) (w0:aL Int (List Int)) (w1:Int):Option (Int):=
 oV AA a0 a1 w0 AA 0 w1
theorem aFM (AA:Nat) (q1:Nat) (a0:Int) (a1:List Int) (w0:aL Int (List Int)) (w1:Int) (r:Int) (H:sY AA a0 a1 w0 w1=some r):FnS Tryz.prog 47 [fI a0,fSl tI a1,aG (eO bX (fun y=>fSl tI y)) w0,fEq (.pointer (some ⟨q1,0,none⟩))] [aA q1 3 [fI w1]] (dF []) (fun _=>[aA q1 3 [fI r]]):=by
 unfold sY at H
 refine bG Tryz.func47 rfl Tryz.ntmps47 rfl (fun β=>?_)
 refine Z6 ?_
 refine Tl (ι:=Nat × Int × Int) (fun i=>oV AA a0 a1 w0 i.1 i.2.1 i.2.2=_) (fun i=>i.1) (fun i=>[(0,fI a0),(2,aG (eO bX (fun y=>fSl tI y)) w0),(3,fEq (ptr q1)),(8,fSl tI a1),(9,fI (a1.length:Int)),(10,fI i.2.1)]) (fun i=>[aA q1 3 [fI i.2.2]]) (AA,0,w1) H ?_
 clear H;rintro⟨k1,x3,x4⟩ H
 replace H:oV AA a0 a1 w0 k1 x3 x4=_:=H
 try dsimp only
 obtain _ | k1:=k1
 rw [oV]at H;cases H
 rw [oV]at H
 refine Z3 ?_
 refine aI ?_
 revert H;refine is (fun c1 H=>?_) fun c1 H=>?_
 revert H;refine B3 fun o1 H Hr1=>?_
 refine aR (ι:=Int) (fun i=>o1=i) (fun i=>[(0,fI a0),(2,aG (eO bX (fun y=>fSl tI y)) w0),(3,fEq (ptr q1)),(8,fSl tI a1),(9,fI (a1.length:Int)),(10,fI x3)]) (fun i=>[aA q1 3 [fI i]]) ?_ ?_
 revert H;refine B2 fun y1 h1 H=>?_
 refine Z7 ?_
 refine Yy (vU (zα:=[]) (k:=a0) rfl hh hh rfl sG cW) ?_
 revert H;refine B1 fun y2 h2 H=>?_
 refine Tc (aAw _ _ _ _ h2) ?_
 revert H;refine I2 (fun c2 H=>?_) fun c2 H=>?_
 revert H;refine B3 fun z1 h3 H=>?_
 refine Z1 ?_
 refine cC (φs':=[fI z1]) a2g rfl rfl (has rfl) (has rfl) (aH a2g) (sz rfl) rfl rfl ?_
 refine Z3 ?_
 exact Tm (z1) (ij H)
 refine Z4 ?_
 exact Tm (x4) (ij H)
 clear H;intro x5 hi;subst o1;have H:=Hr1;clear Hr1;try dsimp only at H
 try dsimp only
 revert H;refine B1 fun z2 h4 H=>?_
 refine Z3 ?_
 exact Tm ((k1,z2,x5)) ⟨H,ls⟩
 refine Z5 ?_
 cases H
 exact eP (.inr rfl) rfl rfl
def oM (AA:Nat) (a0:AH) (y2:Ae) (y3:(aL Int (List Int)) × Int):Nat->Int->Int->Option (Int)
| 0,_,_=>none
| k+1,x4,x5=>
 if x4<(a0.AD.length:Int)then
  ((idx a0.AD x4).bind fun y5=>
  (qS y5.Op).bind fun y6=>
  bif y6 then
   (idx y2.Ab x4).bind fun y7=>
   (sY AA x4 y7 y3.1 x5).bind fun y8=>
   some y8
  else
   some x5).bind fun x6=>
  (chk (x4+1)).bind fun z1=>
  oM AA a0 y2 y3 k z1 x6
 else
  some x5
def aAa (AA:Nat) (a0:AH):Option (Int × Int):=
 (tJ AA (⟨a0.AF,a0.AQ,a0.AD,a0.AE,a0.AG⟩:AH)).bind fun y1=>
 bif y1.isNone then
  some (0,2)
 else
  (y1).bind fun y2=>
  (sR AA y2.AK).bind fun y3=>
  if y3.2≠0 then
   some (0,y3.2)
  else
   (sY AA (-1) a0.AQ y3.1 0).bind fun y4=>
   (oM AA a0 y2 y3 AA 0 y4).bind fun x1=>
   some (x1,0)
theorem aKT (AA:Nat)  (a0:AH) (r:Int × Int) (H:aAa AA a0=some r):FnS Tryz.prog 13 [fSt oK a0] [] (dF [fI r.1,fI r.2]) (fun _=>[]):=by
 unfold aAa at H
 refine bG Tryz.func13 rfl Tryz.ntmps13 rfl (fun β=>?_)
 refine Z1 ?_
 refine Tn (bU rfl hh bS) fun b1=>?_
 revert H;refine B5 fun y1 h1 H=>?_
 refine Tc (aD2 _ _ _ h1) ?_
 refine Z2 ?_
 refine aI ?_
 refine Z2 ?_
 refine Yy (aDt rfl hh aD0) ?_
 refine Z1 ?_
 revert H;refine cs (fun c1 H=>?_) fun c1 H=>?_
 refine Z6 ?_
 cases H
 refine aE [] (by decide) ?_
 exact pU rfl (bP rfl) (bP rfl) rfl
 revert H;refine B5 fun y2 h2 H=>?_
 refine nP 12 rfl (rG h2) ?_
 refine nP 4 rfl (rG h2) ?_
 refine nP 13 rfl (rG h2) ?_
 refine nP 16 rfl (rG h2) ?_
 revert H;refine B3 fun y3 h3 H=>?_
 refine Tc (aHX _ _ _ h3) ?_
 refine Z3 ?_
 refine Tn (bN rfl aH8 rfl) fun b2=>?_
 refine cC (φs':=[kE bX (fun y=>fSl tI y) y3.1]) a2g rfl rfl (has rfl) (has rfl) (aDB) (sz rfl) rfl rfl ?_
 refine Z2 ?_
 refine aI ?_
 revert H;refine I4 (fun c2 H=>?_) fun c2 H=>?_
 refine Z7 ?_
 cases H
 refine aE [] (by decide) ?_
 exact pU rfl (bP rfl) (bP rfl) rfl
 refine Z4 ?_
 refine Tn (bN rfl tQ rfl) fun b3=>?_
 refine cC (φs':=[fI 0]) a2g rfl rfl (has rfl) (has rfl) (aH a2g) (sz rfl) rfl rfl ?_
 refine Z2 ?_
 refine cK ?_
 refine cE (φ:=aG (eO bX (fun y=>fSl tI y)) y3.1) (v:=ptr b2) [5] (fQ aP.rfl) fz ?_
 refine cD ?_
 refine Yy (oB rfl (aN.cons hh (aN.cons hh aN.nil))) ?_
 revert H;refine B6 fun y4 h4 H=>?_
 refine iB a2g rfl rfl rfl (has rfl) (aN.cons (has rfl) (aN.cons (has rfl) aN.nil)) rfl (cb rfl) (aFM AA b3 (-1) a0.AQ y3.1 0 y4 h4) rfl ?_
 revert H;refine B1 fun o1 H Hr1=>?_
 refine aR (ι:=Int) (fun i=>o1=i) (fun i=>[(7,fEq (ptr b3))]) (fun i=>[aA b3 3 [fI i],aA b1 30 [fSl aD a0.AF,fSl tI a0.AQ,fSl bM a0.AD,fSl aB a0.AE,fI a0.AG]]) ?_ ?_
 refine Z7 ?_
 refine Tl (ι:=Nat × Int × Int) (fun i=>oM AA a0 y2 y3 i.1 i.2.1 i.2.2=_) (fun i=>i.1) (fun i=>[(4,aG aBd y2),(7,fEq (ptr b3)),(8,cB 47 [aG (eO bX (fun y=>fSl tI y)) y3.1,fEq (ptr b3)]),(32,fSl bM a0.AD),(33,fI (a0.AD.length:Int)),(34,fI i.2.1)]) (fun i=>[aA b3 3 [fI i.2.2],aA b1 30 [fSl aD a0.AF,fSl tI a0.AQ,fSl bM a0.AD,fSl aB a0.AE,fI a0.AG]]) (AA,0,y4) H ?_
 clear H;rintro⟨k1,x4,x5⟩ H
 replace H:oM AA a0 y2 y3 k1 x4 x5=_:=H
 try dsimp only
 obtain _ | k1:=k1
 rw [oM]at H;cases H
 rw [oM]at H
 refine Z3 ?_
 refine aI ?_
 revert H;refine is (fun c3 H=>?_) fun c3 H=>?_
 revert H;refine B3 fun o2 H Hr2=>?_
 refine aR (ι:=Int) (fun i=>o2=i) (fun i=>[(4,aG aBd y2),(7,fEq (ptr b3)),(8,cB 47 [aG (eO bX (fun y=>fSl tI y)) y3.1,fEq (ptr b3)]),(32,fSl bM a0.AD),(33,fI (a0.AD.length:Int)),(34,fI x4)]) (fun i=>[aA b3 3 [fI i],aA b1 30 [fSl aD a0.AF,fSl tI a0.AQ,fSl bM a0.AD,fSl aB a0.AE,fI a0.AG]]) ?_ ?_
 revert H;refine B3 fun y5 h5 H=>?_
 refine Z2 ?_
 refine Tn (bN rfl tR rfl) fun b4=>?_
 refine Z1 ?_
 refine cG (φs':=[fI y5.Op,fI y5.N,fSl aO y5.AU,fSl tI y5.AM,fSl tI y5.AQ]) a2g rfl rfl (has rfl) (has rfl) (aF (aH a2g) (aF (aH a2g) (aF (aS) (aF (aS) (aF (aS) bF))))) (sz rfl) rfl rfl rfl ?_
 revert H;refine B4 fun y6 h6 H=>?_
 refine Tc (aDS _ _ h6) ?_
 refine Z1 ?_
 revert H;refine cs (fun c4 H=>?_) fun c4 H=>?_
 revert H;refine B9 fun y7 h7 H=>?_
 refine Z2 ?_
 refine cK ?_
 revert H;refine bs fun y8 h8 H=>?_
 refine iB a2g rfl rfl rfl (has rfl) (aN.cons (has rfl) (aN.cons (has rfl) aN.nil)) rfl (cb rfl) (aFM AA b3 x4 y7 y3.1 x5 y8 h8) rfl ?_
 refine Z3 ?_
 refine aE [0,2] (by decide) ?_
 exact Tm (y8) (ij H)
 refine Z4 ?_
 refine aE [1,2] (by decide) ?_
 exact Tm (x5) (ij H)
 clear H;intro x6 hi;subst o2;have H:=Hr2;clear Hr2;try dsimp only at H
 try dsimp only
 revert H;refine B1 fun z1 h9 H=>?_
 refine Z3 ?_
 exact Tm ((k1,z1,x6)) ⟨H,ls⟩
 refine Z6 ?_
 exact Tm (x5) (ij H)
 clear H;intro x1 hi;subst o1;have H:=Hr1;clear Hr1;try dsimp only at H
 try dsimp only
 refine Z6 ?_
 cases H
 refine aE [] (by decide) ?_
 exact pU rfl (bP rfl) (bP rfl) rfl
def oO (a0:List ByteArray) (a1:List ByteArray):Nat->Int->Option ((Unit) ⊕ (Bool))
| 0,_=>none
| k+1,x2=>
 if x2<(a0.length:Int)then
  (idx a0 x2).bind fun y1=>
  (idx a1 x2).bind fun y2=>
  if y1≠y2 then
   (some false).bind fun r=>some (Sum.inr r)
  else
   (chk (x2+1)).bind fun z1=>
   oO a0 a1 k z1
 else
  some (Sum.inl ())
def xS (AA:Nat) (a0:List ByteArray) (a1:List ByteArray):Option (Bool):=
 if (a0.length:Int)≠(a1.length:Int)then
  some false
 else
  (oO a0 a1 AA 0).bind fun o=>match o with
  | Sum.inr r=>some r
  | Sum.inl _=>
  some true
theorem aKl (AA:Nat)  (a0:List ByteArray) (a1:List ByteArray) (r:Bool) (H:xS AA a0 a1=some r):FnS Tryz.prog 49 [fSl aD a0,fSl aD a1] [] (aK r) (fun _=>[]):=by
 unfold xS at H
 refine bG Tryz.func49 rfl Tryz.ntmps49 rfl (fun β=>?_)
 refine Z3 ?_
 refine aI ?_
 revert H;refine I7 (fun c1 H=>?_) fun c1 H=>?_
 refine Z5 ?_
 cases H
 exact To
 revert H;refine B3 fun o1 H Hr1=>?_
 refine aR (ι:=Unit) (fun i=>o1=Sum.inl ()) (fun i=>[]) (fun i=>[]) ?_ ?_
 refine Z4 ?_
 refine Tl (ι:=Nat × Int) (fun i=>oO a0 a1 i.1 i.2=_) (fun i=>i.1) (fun i=>[(0,fSl aD a0),(1,fSl aD a1),(5,fI i.2)]) (fun i=>[]) (AA,0) H ?_
 clear H;rintro⟨k1,x2⟩ H
 replace H:oO a0 a1 k1 x2=_:=H
 try dsimp only
 obtain _ | k1:=k1
 rw [oO]at H;cases H
 rw [oO]at H
 refine aI ?_
 revert H;refine I6 (fun c2 H=>?_) fun c2 H=>?_
 refine Z3 ?_
 refine aI ?_
 refine Z1 ?_
 refine aI ?_
 revert H;refine bs fun y1 h1 H=>?_
 revert H;refine bs fun y2 h2 H=>?_
 apply bL (ods:=[_,_,_,_,_,_,_,_,_]) 9 0 0 bK rfl rfl rfl
 refine ND ?_
 refine M8 ?_
 intros
 refine My (o_neqS rfl hh hh) fun _=>?_
 revert H;refine I2 (fun c3 H=>?_) fun c3 H=>?_
 revert H;refine B10 fun r1 H e1=>?_
 cases e1;cases Hr1
 cases H
 exact To
 revert H;refine B6 fun z1 h3 H=>?_
 refine Z3 ?_
 exact Tm ((k1,z1)) ⟨H,ls⟩
 exact fk
 kernel_rfl
 refine Z6 ?_
 exact Tm (()) (ij H)
 clear H;intro i hi;subst o1;have H:=Hr1;clear Hr1;try dsimp only at H
 try dsimp only
 refine Z4 ?_
 cases H
 exact To
def nN (rec_r03_sameExp:AS->AS->Option (Bool)) (a0:AS) (a1:AS):Nat->Int->Option ((Unit) ⊕ (Bool))
| 0,_=>none
| k+1,x2=>
 if x2<(a0.AM.length:Int)then
  (idx a0.AM x2).bind fun y1=>
  (idx a1.AM x2).bind fun y2=>
  (rec_r03_sameExp y1 y2).bind fun y3=>
  bif y3 then
   (chk (x2+1)).bind fun z1=>
   nN rec_r03_sameExp a0 a1 k z1
  else
   (some false).bind fun r=>some (Sum.inr r)
 else
  some (Sum.inl ())
def mQ:Nat->AS->AS->Option (Bool)
| 0,_,_=>none
| AA+1,a0,a1=>
 if a0.Op≠a1.Op then
  some false
 else
  if a0.N≠a1.N then
   some false
  else
   if (a0.AM.length:Int)≠(a1.AM.length:Int)then
    some false
   else
    (nN (mQ AA) a0 a1 AA 0).bind fun o=>match o with
    | Sum.inr r=>some r
    | Sum.inl _=>
    some true
theorem aIt:∀ (AA:Nat),(∀  (a0:AS) (a1:AS) (r:Bool) (H:mQ AA a0 a1=some r),FnS Tryz.prog 81 [fSt aO a0,fSt aO a1] [] (aK r) (fun _=>[])):=by
 intro AA
 induction AA with
 | zero=>exact fun a0 a1 r H=>(by rw [mQ]at H;cases H)
 | succ AA ih=>
 have ih_r03_sameExp:=@ih
 refine ?_
 intro a0 a1 r H
 rw [mQ]at H
 refine bG Tryz.func81 rfl Tryz.ntmps81 rfl (fun β=>?_)
 refine Z1 ?_
 refine Tn (bU rfl hh bS) fun b1=>?_
 refine Tn (bU rfl hh bS) fun b2=>?_
 refine Z2 ?_
 refine aI ?_
 revert H;refine I7 (fun c1 H=>?_) fun c1 H=>?_
 refine Z12 ?_
 refine Z9 ?_
 cases H
 refine aE [] (by decide) ?_
 exact To
 revert H;refine I7 (fun c2 H=>?_) fun c2 H=>?_
 refine Z12 ?_
 refine Z2 ?_
 cases H
 refine aE [] (by decide) ?_
 exact To
 refine Z1 ?_
 refine Yh 1 rfl c2 (bB rfl hh (sc rfl) rfl (eS eG)) ?_
 refine Z2 ?_
 refine Yh 0 rfl c2 (bB rfl hh (sc rfl) rfl (eS eG)) ?_
 revert H;refine I4 (fun c3 H=>?_) fun c3 H=>?_
 refine Z5 ?_
 cases H
 refine aE [] (by decide) ?_
 exact To
 revert H;refine B3 fun o1 H Hr1=>?_
 refine aR (ι:=Unit) (fun i=>o1=Sum.inl ()) (fun i=>[]) (fun i=>[aA b2 71 [fI a1.Op,fI a1.N,cU a1.AM],aA b1 71 [fI a0.Op,fI a0.N,cU a0.AM]]) ?_ ?_
 refine Z4 ?_
 refine Tl (ι:=Nat × Int) (fun i=>nN (mQ AA) a0 a1 i.1 i.2=_) (fun i=>i.1) (fun i=>[(2,fEq (ptr b1)),(3,fEq (ptr b2)),(5,fI i.2)]) (fun i=>[aA b2 71 [fI a1.Op,fI a1.N,cU a1.AM],aA b1 71 [fI a0.Op,fI a0.N,cU a0.AM]]) (AA,0) H ?_
 clear H;rintro⟨k1,x2⟩ H
 replace H:nN (mQ AA) a0 a1 k1 x2=_:=H
 try dsimp only
 obtain _ | k1:=k1
 rw [nN]at H;cases H
 rw [nN]at H
 refine aI ?_
 refine Z3 ?_
 refine Yo 1 rfl (bB rfl hh (sc rfl) rfl (eS eG)) ?_
 revert H;refine I3 (fun c4 H=>?_) fun c4 H=>?_
 refine Z3 ?_
 refine aI ?_
 refine Z1 ?_
 refine aI ?_
 revert H;refine bs fun y1 h1 H=>?_
 revert H;refine bs fun y2 h2 H=>?_
 revert H;refine bs fun y3 h3 H=>?_
 apply bL (ods:=[_,_,_,_,_,_,_,_,_,_,_,_]) 12 0 2 bK rfl rfl rfl
 refine ND ?_
 refine M1 ?_
 intros
 refine Mo 1 rfl (bB rfl hh (sc rfl) rfl (eS eG)) fun _=>?_
 refine M4 ?_
 intros
 refine Mo 0 rfl (bB rfl hh (sc rfl) rfl (eS eG)) fun _=>?_
 refine M3 ?_
 intros
 refine Nc (ih_r03_sameExp _ _ _ h3) fun _=>?_
 refine M1 ?_
 intros
 refine Z2 ?_
 revert H;refine cs (fun c5 H=>?_) fun c5 H=>?_
 revert H;refine B6 fun z1 h4 H=>?_
 refine Z3 ?_
 exact Tm ((k1,z1)) ⟨H,ls⟩
 revert H;refine B10 fun r1 H e1=>?_
 cases e1;cases Hr1
 cases H
 refine aE [] (by decide) ?_
 exact To
 exact fk
 kernel_rfl
 refine Z6 ?_
 exact Tm (()) (ij H)
 clear H;intro i hi;subst o1;have H:=Hr1;clear Hr1;try dsimp only at H
 try dsimp only
 refine Z4 ?_
 cases H
 refine aE [] (by decide) ?_
 exact To
end Go.Proofs.YtgidgoahhepmlaaGreat
