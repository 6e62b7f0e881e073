/- Parts of the proof: lemmas, and the steps through the program. -/
import Derived.Test.YtgidgoahhepmlaaGreatFf1
import Derived.Test.YtgidgoahhepmlaaGreatProg
import Derived.Shelf.Sort.Plain
import Derived.Shelf.Slices.CompactI
import Derived.Shelf.Slices.In.SortNone
set_option linter.unusedVariables false
set_option linter.unusedSimpArgs false
set_option maxRecDepth 100000
set_option maxHeartbeats 2000000
namespace Go.Proofs.YtgidgoahhepmlaaGreat
open Go.SX Go.SW Go.Dt
attribute [local irreducible] Code.wpIn wpListIn Exit.then Exit.inBlock
def pL {σ:Type} (rec_scope_looker_below_1_1:Int->(Int->σ->Option σ)->σ->AX->Option (σ × Bool)) (Y:Int->σ->Option σ) (w1:AX) (y3:AM):Nat->Int->σ->Option ((σ) ⊕ ((σ) ⊕ (σ × Bool)))
| 0,_,_=>none
| k+1,x5,x6=>
 if x5<(y3.AL.length:Int)then
  (idx y3.AL x5).bind fun y4=>
  (rec_scope_looker_below_1_1 y4.AQ Y x6 w1).bind fun y5=>
  bif y5.2 then
   (chk (x5+1)).bind fun z1=>
   pL rec_scope_looker_below_1_1 Y w1 y3 k z1 y5.1
  else
   ((some (y5.1,false)).bind fun r=>some (Sum.inr r)).bind fun r=>some (Sum.inr r)
 else
  some (Sum.inl x6)
def oO {σ:Type} (rec_scope_looker_below_1_1:Int->(Int->σ->Option σ)->σ->AX->Option (σ × Bool)) (Y:Int->σ->Option σ) (w1:AX) (y6:AM):Nat->Int->σ->Option ((σ) ⊕ (σ × Bool))
| 0,_,_=>none
| k+1,x9,x10=>
 if x9<(y6.AO.length:Int)then
  (idx y6.AO x9).bind fun y7=>
  (rec_scope_looker_below_1_1 y7.AQ Y x10 w1).bind fun y8=>
  bif y8.2 then
   (chk (x9+1)).bind fun z2=>
   oO rec_scope_looker_below_1_1 Y w1 y6 k z2 y8.1
  else
   (some (y8.1,false)).bind fun r=>some (Sum.inr r)
 else
  some (Sum.inl x10)
def oX {σ:Type} (rec_scope_looker_below_1_1:Int->(Int->σ->Option σ)->σ->AX->Option (σ × Bool)) (Y:Int->σ->Option σ) (w1:AX) (y2:AW):Nat->Int->σ->Option ((σ) ⊕ (σ × Bool))
| 0,_,_=>none
| k+1,x14,x15=>
 if x14<(y2.AN.length:Int)then
  (idx y2.AN x14).bind fun y9=>
  (rec_scope_looker_below_1_1 y9 Y x15 w1).bind fun y10=>
  bif y10.2 then
   (chk (x14+1)).bind fun z3=>
   oX rec_scope_looker_below_1_1 Y w1 y2 k z3 y10.1
  else
   (some (y10.1,false)).bind fun r=>some (Sum.inr r)
 else
  some (Sum.inl x15)
def gT {σ:Type}:Nat->Int->(Int->σ->Option σ)->σ->AX->Option (σ × Bool)
| 0,_,_,_,_=>none
| AA+1,a0,Y,s0,w1=>
 (Y a0 s0).bind fun y1=>
 (idx w1.p.AD a0).bind fun y2=>
 (if y2.Op=4 then
  ((idx w1.p.AE y2.N).bind fun y3=>
  pL (gT AA) Y w1 y3 AA 0 y1).bind fun o=>match o with
  | Sum.inr r=>some r
  | Sum.inl x2=>
  (idx w1.p.AE y2.N).bind fun y6=>
  oO (gT AA) Y w1 y6 AA 0 x2
 else
  some (Sum.inl y1)).bind fun o=>match o with
 | Sum.inr r=>some r
 | Sum.inl x1=>
 (oX (gT AA) Y w1 y2 AA 0 x1).bind fun o=>match o with
 | Sum.inr r=>some r
 | Sum.inl x11=>
 some (x11,true)
theorem aJl:∀ (AA:Nat),(∀ {σ:Type} (q0:Nat) (J:σ->Tk) (q2:Nat) (a0:Int) (Y:Int->σ->Option σ) (s0:σ) (w1:AX) (r:σ × Bool) (H:gT AA a0 Y s0 w1=some r),FnS Tryz.prog 155 [fI a0,fEq (.pointer (some ⟨q0,0,none⟩)),aF (fN cA) w1,fEq (.pointer (some ⟨q2,0,none⟩))] [aA q0 234 [jD Tryz.prog (fun (x:Int)=>[fI x]) Y J],J s0,aA q2 234 [cD 155 [fEq (.pointer (some ⟨q0,0,none⟩)),aF (fN cA) w1,fEq (.pointer (some ⟨q2,0,none⟩))]]] (aM r.2) (fun _=>[aA q0 234 [jD Tryz.prog (fun (x:Int)=>[fI x]) Y J],J r.1,aA q2 234 [cD 155 [fEq (.pointer (some ⟨q0,0,none⟩)),aF (fN cA) w1,fEq (.pointer (some ⟨q2,0,none⟩))]]])):=by
 intro AA
 induction AA with
 | zero=>exact fun q0 J q2 a0 Y s0 w1 r H=>(by rw [gT]at H;cases H)
 | succ AA ih=>
 have ih_scope_looker_below_1_1:=@ih
 refine ?_
 intro σ q0 J q2 a0 Y s0 w1 r H
 rw [gT]at H
 refine bD Tryz.func155 rfl Tryz.ntmps155 rfl (fun β=>?_)
 refine Z3 ?_
 refine aI ?_
 refine Z3 ?_
 refine cL ?_
 revert H;refine bs fun y1 h1 H=>?_
 refine T_callY a0 a1Z rfl rfl rfl (has rfl) (aJ.cons (has rfl) aJ.nil) h1 ?_
 revert H;refine B12 fun y2 h2 H=>?_
 refine Z2 ?_
 refine Tn (bP rfl mG rfl) fun b1=>?_
 refine cT (φs':=[fI y2.Op,fI y2.N,fSl aO y2.AS,fSl tI y2.AN]) a1Z rfl rfl (has rfl) (has rfl) (aG (aH a1Z) (aG (aH a1Z) (aG (aT) (aG (aT) bH)))) (sz rfl) rfl rfl rfl ?_
 revert H;refine B1 fun o1 H Hr1=>?_
 refine aP (ι:=σ) (fun i=>o1=Sum.inl i) (fun i=>[(1,fEq (ptr q0)),(3,fEq (ptr q2)),(6,fEq (ptr b1))]) (fun i=>[aA b1 65 [fI y2.Op,fI y2.N,fSl aO y2.AS,fSl tI y2.AN],aA q0 234 [jD Tryz.prog (fun (x:Int)=>[fI x]) Y J],aA q2 234 [cD 155 [fEq (ptr q0),aF (fN cA) w1,fEq (ptr q2)]],J i]) ?_ ?_
 revert H;refine I5 (fun c1 H=>?_) fun c1 H=>?_
 revert H;refine B1 fun o2 H Hr2=>?_
 refine aP (ι:=σ) (fun i=>o2=Sum.inl i) (fun i=>[(1,fEq (ptr q0)),(2,aF (fN cA) w1),(3,fEq (ptr q2)),(6,fEq (ptr b1))]) (fun i=>[aA b1 65 [fI y2.Op,fI y2.N,fSl aO y2.AS,fSl tI y2.AN],aA q0 234 [jD Tryz.prog (fun (x:Int)=>[fI x]) Y J],aA q2 234 [cD 155 [fEq (ptr q0),aF (fN cA) w1,fEq (ptr q2)]],J i]) ?_ ?_
 refine aI ?_
 revert H;refine bs fun y3 h3 H=>?_
 apply bJ (ods:=[_,_,_,_,_,_,_,_,_,_,_,_]) 12 0 4 bI rfl rfl rfl
 refine ND ?_
 refine M8 ?_
 intros
 refine M4 ?_
 intros
 refine Z3 ?_
 refine aE [0,2,3,1] (by decide) ?_
 refine Tl (ι:=Nat × Int × σ) (fun i=>pL (gT AA) Y w1 y3 i.1 i.2.1 i.2.2=_) (fun i=>i.1) (fun i=>[(1,fEq (ptr q0)),(2,aF (fN cA) w1),(3,fEq (ptr q2)),(6,fEq (ptr b1)),(37,fSl aU y3.AL),(38,fI (y3.AL.length:Int)),(39,fI i.2.1)]) (fun i=>[aA b1 65 [fI y2.Op,fI y2.N,fSl aO y2.AS,fSl tI y2.AN],aA q0 234 [jD Tryz.prog (fun (x:Int)=>[fI x]) Y J],aA q2 234 [cD 155 [fEq (ptr q0),aF (fN cA) w1,fEq (ptr q2)]],J i.2.2]) (AA,0,y1) H ?_
 clear H;rintro⟨k1,x5,x6⟩ H
 replace H:pL (gT AA) Y w1 y3 k1 x5 x6=_:=H
 try dsimp only
 obtain _ | k1:=k1
 rw [pL]at H;cases H
 rw [pL]at H
 refine Z3 ?_
 refine aI ?_
 revert H;refine is (fun c2 H=>?_) fun c2 H=>?_
 refine Z3 ?_
 refine aI ?_
 revert H;refine B2 fun y4 h4 H=>?_
 refine Z2 ?_
 refine Tn (bP rfl rE rfl) fun b2=>?_
 refine cT (φs':=[fI y4.At,fSl tI y4.AU,fI y4.AQ]) a1Z rfl rfl (has rfl) (has rfl) (aG (aH a1Z) (aG (aT) (aG (aH a1Z) bH))) (sz rfl) rfl rfl rfl ?_
 refine Z5 ?_
 refine cV ?_
 refine aY ?_
 refine aY ?_
 revert H;refine bs fun y5 h5 H=>?_
 refine iB a1Z rfl rfl rfl (has rfl) (aJ.cons (has rfl) aJ.nil) rfl (cb rfl) (ih_scope_looker_below_1_1 q0 J q2 y4.AQ Y x6 w1 y5 h5) rfl ?_
 refine Z2 ?_
 revert H;refine cs (fun c3 H=>?_) fun c3 H=>?_
 revert H;refine B5 fun z1 h6 H=>?_
 refine Z3 ?_
 refine aE [4,0,2,1] (by decide) ?_
 exact Tm ((k1,z1,y5.1)) ⟨H,ls⟩
 revert H;refine B10 fun r1 H e1=>?_
 cases e1;cases Hr2
 revert H;refine B1 fun r2 H e2=>?_
 cases e2;cases Hr1
 cases H
 refine aE [0,1,2] (by decide) ?_
 exact To
 refine Z6 ?_
 exact Tm (x6) (ij H)
 exact fk
 kernel_rfl
 clear H;intro x2 hi;subst o2;have H:=Hr2;clear Hr2;try dsimp only at H
 try dsimp only
 refine aI ?_
 revert H;refine bs fun y6 h7 H=>?_
 apply bJ (ods:=[_,_,_,_,_,_,_,_,_,_,_,_]) 12 0 4 bI rfl rfl rfl
 refine ND ?_
 refine M8 ?_
 intros
 refine M4 ?_
 intros
 refine Z3 ?_
 refine Tl (ι:=Nat × Int × σ) (fun i=>oO (gT AA) Y w1 y6 i.1 i.2.1 i.2.2=_) (fun i=>i.1) (fun i=>[(1,fEq (ptr q0)),(3,fEq (ptr q2)),(6,fEq (ptr b1)),(58,fSl aV y6.AO),(59,fI (y6.AO.length:Int)),(60,fI i.2.1)]) (fun i=>[aA b1 65 [fI y2.Op,fI y2.N,fSl aO y2.AS,fSl tI y2.AN],aA q0 234 [jD Tryz.prog (fun (x:Int)=>[fI x]) Y J],aA q2 234 [cD 155 [fEq (ptr q0),aF (fN cA) w1,fEq (ptr q2)]],J i.2.2]) (AA,0,x2) H ?_
 clear H;rintro⟨k2,x9,x10⟩ H
 replace H:oO (gT AA) Y w1 y6 k2 x9 x10=_:=H
 try dsimp only
 obtain _ | k2:=k2
 rw [oO]at H;cases H
 rw [oO]at H
 refine Z3 ?_
 refine aI ?_
 revert H;refine is (fun c4 H=>?_) fun c4 H=>?_
 refine Z3 ?_
 refine aI ?_
 revert H;refine B2 fun y7 h8 H=>?_
 refine Z2 ?_
 refine Tn (bP rfl zG rfl) fun b3=>?_
 refine cT (φs':=[fI y7.In,fI y7.AQ]) a1Z rfl rfl (has rfl) (has rfl) (aG (aH a1Z) (aG (aH a1Z) bH)) (sz rfl) rfl rfl rfl ?_
 refine Z5 ?_
 refine cV ?_
 refine aY ?_
 refine aY ?_
 revert H;refine bs fun y8 h9 H=>?_
 refine iB a1Z rfl rfl rfl (has rfl) (aJ.cons (has rfl) aJ.nil) rfl (cb rfl) (ih_scope_looker_below_1_1 q0 J q2 y7.AQ Y x10 w1 y8 h9) rfl ?_
 refine Z2 ?_
 revert H;refine cs (fun c5 H=>?_) fun c5 H=>?_
 revert H;refine B5 fun z2 h10 H=>?_
 refine Z3 ?_
 refine aE [4,0,2,1] (by decide) ?_
 exact Tm ((k2,z2,y8.1)) ⟨H,ls⟩
 revert H;refine B10 fun r3 H e3=>?_
 cases e3;cases Hr1
 cases H
 refine aE [0,1,2] (by decide) ?_
 exact To
 refine Z6 ?_
 exact Tm (x10) (ij H)
 exact fk
 kernel_rfl
 refine Z3 ?_
 refine aE [0,2,3,1] (by decide) ?_
 exact Tm (y1) (ij H)
 clear H;intro x1 hi;subst o1;have H:=Hr1;clear Hr1;try dsimp only at H
 try dsimp only
 revert H;refine bs fun o3 H Hr3=>?_
 refine aP (ι:=σ) (fun i=>o3=Sum.inl i) (fun i=>[(1,fEq (ptr q0)),(3,fEq (ptr q2))]) (fun i=>[aA b1 65 [fI y2.Op,fI y2.N,fSl aO y2.AS,fSl tI y2.AN],aA q0 234 [jD Tryz.prog (fun (x:Int)=>[fI x]) Y J],aA q2 234 [cD 155 [fEq (ptr q0),aF (fN cA) w1,fEq (ptr q2)]],J i]) ?_ ?_
 refine Z7 ?_
 refine Tl (ι:=Nat × Int × σ) (fun i=>oX (gT AA) Y w1 y2 i.1 i.2.1 i.2.2=_) (fun i=>i.1) (fun i=>[(1,fEq (ptr q0)),(3,fEq (ptr q2)),(71,fSl tI y2.AN),(72,fI (y2.AN.length:Int)),(73,fI i.2.1)]) (fun i=>[aA b1 65 [fI y2.Op,fI y2.N,fSl aO y2.AS,fSl tI y2.AN],aA q0 234 [jD Tryz.prog (fun (x:Int)=>[fI x]) Y J],aA q2 234 [cD 155 [fEq (ptr q0),aF (fN cA) w1,fEq (ptr q2)]],J i.2.2]) (AA,0,x1) H ?_
 clear H;rintro⟨k3,x14,x15⟩ H
 replace H:oX (gT AA) Y w1 y2 k3 x14 x15=_:=H
 try dsimp only
 obtain _ | k3:=k3
 rw [oX]at H;cases H
 rw [oX]at H
 refine Z3 ?_
 refine aI ?_
 revert H;refine is (fun c6 H=>?_) fun c6 H=>?_
 refine Z3 ?_
 refine aI ?_
 revert H;refine B2 fun y9 h11 H=>?_
 refine Z7 ?_
 refine cW ?_
 refine cV ?_
 refine cV ?_
 revert H;refine bs fun y10 h12 H=>?_
 refine iB a1Z rfl rfl rfl (has rfl) (aJ.cons (has rfl) aJ.nil) rfl (cb rfl) (ih_scope_looker_below_1_1 q0 J q2 y9 Y x15 w1 y10 h12) rfl ?_
 refine Z2 ?_
 revert H;refine cs (fun c7 H=>?_) fun c7 H=>?_
 revert H;refine B5 fun z3 h13 H=>?_
 refine Z3 ?_
 refine aE [3,0,2,1] (by decide) ?_
 exact Tm ((k3,z3,y10.1)) ⟨H,ls⟩
 revert H;refine B10 fun r4 H e4=>?_
 cases e4;cases Hr3
 cases H
 refine aE [0,1,2] (by decide) ?_
 exact To
 refine Z6 ?_
 exact Tm (x15) (ij H)
 clear H;intro x11 hi;subst o3;have H:=Hr3;clear Hr3;try dsimp only at H
 try dsimp only
 refine Z4 ?_
 cases H
 refine aE [1,3,2] (by decide) ?_
 exact To
def aAz {σ:Type} (AA:Nat) (Y:Int->σ->Option σ) (s0:σ) (w0:AX) (w1:Int):Option (σ):=
 (gT AA w1 Y s0 w0).bind fun y1=>
 some y1.1
theorem aHp (AA:Nat) {σ:Type} (J:σ->Tk) (Y:Int->σ->Option σ) (s0:σ) (w0:AX) (w1:Int) (r:σ) (H:aAz AA Y s0 w0 w1=some r):FnS Tryz.prog 154 [jD Tryz.prog (fun (x:Int)=>[fI x]) Y J,aF (fN cA) w0,aF tI w1] [J s0] (dK []) (fun _=>[J r]):=by
 unfold aAz at H
 refine bD Tryz.func154 rfl Tryz.ntmps154 rfl (fun β=>?_)
 refine Z1 ?_
 refine Tn (bR rfl (has rfl) (cF (aG8))) fun b1=>?_
 refine Z2 ?_
 refine Tn (bP rfl aIU rfl) fun b2=>?_
 refine Z2 ?_
 refine Yy (qB rfl (aJ.cons hh (aJ.cons hh (aJ.cons hh aJ.nil)))) ?_
 refine bX (φs':=[cD 155 [fEq (ptr b1),aF (fN cA) w0,fEq (ptr b2)]]) a1Z rfl rfl (has rfl) (has rfl) (aCz) (sz rfl) rfl rfl ?_
 refine Z4 ?_
 refine cW ?_
 refine cW ?_
 revert H;refine bs fun y1 h1 H=>?_
 refine iB a1Z rfl rfl rfl (has rfl) (aJ.cons (has rfl) aJ.nil) rfl (cb rfl) (aJl AA b1 J b2 w1 Y s0 w0 y1 h1) rfl ?_
 refine Z1 ?_
 cases H
 refine aE [1] (by decide) ?_
 exact eD (.inr rfl) rfl rfl
def aAL (a0:AX) (a1:Int):Option (AX × Int):=
 some (a0,a1)
theorem aG9  (a0:AX) (a1:Int) (r:AX × Int) (H:aAL a0 a1=some r):FnS Tryz.prog 122 [aF cA a0,fI a1] [] (cD 154 [aF (fN cA) r.1,aF tI r.2]) (fun _=>[]):=by
 unfold aAL at H
 refine bD Tryz.func122 rfl Tryz.ntmps122 rfl (fun β=>?_)
 refine Z1 ?_
 refine Tn (bR rfl (has rfl) (cF (aB5))) fun b1=>?_
 refine Tn (bR rfl (has rfl) (cF (aH a1Z))) fun b2=>?_
 refine Z3 ?_
 refine cL ?_
 refine cB (φ:=aF (fN cA) a0) (v:=ptr b1) [2] (fV aQ.rfl) fz ?_
 refine bZ ?_
 refine cB (φ:=aF tI a1) (v:=ptr b2) [3] (fV aQ.rfl) fz ?_
 refine bZ ?_
 refine Yy (qB rfl (aJ.cons hh (aJ.cons hh aJ.nil))) ?_
 refine Z3 ?_
 cases H
 exact To
def lL (rec_scope_asks:(aL Int Bool)->AR->Option (aL Int Bool)) (a1:AR):Nat->Int->(aL Int Bool)->Option (aL Int Bool)
| 0,_,_=>none
| k+1,x4,x5=>
 if x4<(a1.AN.length:Int)then
  (idx a1.AN x4).bind fun y1=>
  (rec_scope_asks x5 (⟨y1.Op,y1.N,y1.AN⟩:AR)).bind fun y2=>
  (chk (x4+1)).bind fun z1=>
  lL rec_scope_asks a1 k z1 y2
 else
  some x5
def kH:Nat->(aL Int Bool)->AR->Option (aL Int Bool)
| 0,_,_=>none
| AA+1,a0,a1=>
 (if a1.Op=2 then
  some (aL.upd a0 a1.N true)
 else
  some a0).bind fun x1=>
 lL (kH AA) a1 AA 0 x1
theorem aJG:∀ (AA:Nat),(∀ (p0:Nat) (a0:aL Int Bool) (a1:AR) (r:aL Int Bool) (H:kH AA a0 a1=some r),FnS Tryz.prog 124 [fEq (.map (some p0)),fSt aO a1] [dS cH (fun y=>aM y) p0 a0] (dK []) (fun _=>[dS cH (fun y=>aM y) p0 r])):=by
 intro AA
 induction AA with
 | zero=>exact fun p0 a0 a1 r H=>(by rw [kH]at H;cases H)
 | succ AA ih=>
 have ih_scope_asks:=@ih
 refine ?_
 intro p0 a0 a1 r H
 rw [kH]at H
 refine bD Tryz.func124 rfl Tryz.ntmps124 rfl (fun β=>?_)
 refine Z1 ?_
 refine Tn (bR rfl hh bO) fun b1=>?_
 revert H;refine B1 fun o1 H Hr1=>?_
 refine aP (ι:=aL Int Bool) (fun i=>o1=i) (fun i=>[(0,fEq (.map (some p0))),(3,fEq (ptr b1))]) (fun i=>[aA b1 71 [fI a1.Op,fI a1.N,dD a1.AN],dS cH (fun y=>aM y) p0 i]) ?_ ?_
 revert H;refine I5 (fun c1 H=>?_) fun c1 H=>?_
 refine Z5 ?_
 refine cL ?_
 refine gL (k:=a1.N) (y:=true) a1Z (.inl rfl) rfl (has rfl) (has rfl) rfl (has rfl) rfl vH ?_
 refine Z1 ?_
 refine aE [1,0] (by decide) ?_
 exact Tm (aL.upd a0 a1.N true) (ij H)
 refine Z3 ?_
 exact Tm (a0) (ij H)
 clear H;intro x1 hi;subst o1;have H:=Hr1;clear Hr1;try dsimp only at H
 try dsimp only
 refine Z2 ?_
 refine Yo 0 rfl (bA rfl hh (sc rfl) rfl (eQ eG)) ?_
 refine Z4 ?_
 refine Tl (ι:=Nat × Int × aL Int Bool) (fun i=>lL (kH AA) a1 i.1 i.2.1 i.2.2=_) (fun i=>i.1) (fun i=>[(0,fEq (.map (some p0))),(13,fSl aO a1.AN),(14,fI (a1.AN.length:Int)),(15,fI i.2.1)]) (fun i=>[aA b1 71 [fI a1.Op,fI a1.N,dD a1.AN],dS cH (fun y=>aM y) p0 i.2.2]) (AA,0,x1) H ?_
 clear H;rintro⟨k1,x4,x5⟩ H
 replace H:lL (kH AA) a1 k1 x4 x5=_:=H
 try dsimp only
 obtain _ | k1:=k1
 rw [lL]at H;cases H
 rw [lL]at H
 refine Z3 ?_
 refine aI ?_
 revert H;refine is (fun c2 H=>?_) fun c2 H=>?_
 refine Z3 ?_
 refine aI ?_
 revert H;refine B2 fun y1 h1 H=>?_
 refine Z2 ?_
 refine Tn (bP rfl mW rfl) fun b2=>?_
 refine cT (φs':=[fI y1.Op,fI y1.N,dD y1.AN]) a1Z rfl rfl (has rfl) (has rfl) (aG (aH a1Z) (aG (aH a1Z) (aG (sR) bH))) (sz rfl) rfl rfl rfl ?_
 refine Z4 ?_
 refine cW ?_
 revert H;refine bs fun y2 h2 H=>?_
 refine Tc (ih_scope_asks _ _ _ _ h2) ?_
 revert H;refine B4 fun z1 h3 H=>?_
 refine Z3 ?_
 refine aE [2,0] (by decide) ?_
 exact Tm ((k1,z1,y2)) ⟨H,ls⟩
 refine Z5 ?_
 cases H
 refine aE [1] (by decide) ?_
 exact eD (.inr rfl) rfl rfl
def mD (AA:Nat) (y3:AW):Nat->Int->(aL Int Bool)->Option (aL Int Bool)
| 0,_,_=>none
| k+1,x10,x11=>
 if x10<(y3.AS.length:Int)then
  (idx y3.AS x10).bind fun y7=>
  (kH AA x11 (⟨y7.Op,y7.N,y7.AN⟩:AR)).bind fun y8=>
  (chk (x10+1)).bind fun z1=>
  mD AA y3 k z1 y8
 else
  some x11
def rG (AA:Nat) (a0:AX) (x1:Int) (x3:aL Int Bool):Option (aL Int Bool):=
 (idx a0.p.AD x1).bind fun y3=>
 ((hP y3.Op).bind fun y4=>
 (dW 207 (.agg #[]) y4).bind fun y5=>
 match y5 with
 | (u1,x6)=>
 (dW 208 (.agg #[]) y4).bind fun y6=>
 match y6 with
 | (u2,x7)=>
 bif x6 then
  some (aL.upd x3 y3.N true)
 else
  bif x7 then
   some (aL.upd x3 y3.N true)
  else
   some x3).bind fun x5=>
 mD AA y3 AA 0 x5
def nU (y2:aL Int Bool) (y9:Int):Nat->(List Int)->Int->Option (List Int)
| 0,_,_=>none
| k+1,x15,x16=>
 if x16<y9 then
  (bif ((y2.get x16).getD false)then
   (cQ (x15++[x16])).bind fun z2=>
   some z2
  else
   some x15).bind fun x17=>
  (chk (x16+1)).bind fun z3=>
  nU y2 y9 k x17 z3
 else
  some x15
def tZ (AA:Nat) (a0:AX) (a1:Int):Option (List Int):=
 (aAL a0 a1).bind fun y1=>
 (aAz AA (fun (x:Int) (t:aL Int Bool)=>rG AA a0 x t) (aL.none:aL Int Bool) y1.1 y1.2).bind fun y2=>
 ((idx a0.AY a1).bind fun y9=>
 nU y2 y9 AA [] 0).bind fun x12=>
 some x12
theorem aIb (AA:Nat)  (a0:AX) (a1:Int) (r:List Int) (H:tZ AA a0 a1=some r):FnS Tryz.prog 87 [aF cA a0,fI a1] [] (fSl tI r) (fun _=>[]):=by
 unfold tZ at H
 refine aCI Tryz.func87 rfl Tryz.ntmps87 rfl (fun β=>?_)
 refine Z1 ?_
 refine Tn (bR rfl (has rfl) (cF (aB5))) fun b1=>?_
 refine Z3 ?_
 refine Tn (aAF (fun y=>aM y) cH rfl) fun b2=>?_
 refine Tn (bP rfl aHJ rfl) fun b3=>?_
 refine bX (φs':=[fEq (.map (some b2))]) a1Z rfl rfl (has rfl) (has rfl) (aH a1Z) (sz rfl) rfl rfl ?_
 refine Z1 ?_
 refine aI ?_
 revert H;refine B3 fun y1 h1 H=>?_
 refine Tc (aG9 _ _ _ h1) ?_
 refine Z2 ?_
 refine aE [0,2,1] (by decide) ?_
 refine T_sub [(0,aF cA a0),(1,fI a1),(2,fEq (ptr b1)),(4,fEq (.slice none 0 0)),(12,fEq (.map (some b2))),(5,fEq (ptr b3)),(13,aF cA a0),(14,fI a1),(15,cD 154 [aF (fN cA) y1.1,aF tI y1.2])] (Sc (Sc (Sc (Sc (Sc (Sc (Sc (Sc (Sc cG.nil))))))))) ?_
 revert H;refine bs fun y2 h2 H=>?_
 refine aGS (s:=(aL.none:aL Int Bool)) (s':=y2) (fun (x:Int)=>[fI x]) (fun (x:Int) (t:aL Int Bool)=>rG AA a0 x t) (fun (t:aL Int Bool)=>[aA b3 201 [fEq (.map (some b2))],aA b1 129 [aF cA a0],dS cH (fun y=>aM y) b2 t]) (has rfl) (cb rfl) rfl (fun _=>rfl) rfl (fun J=>aHp AA J (fun (x:Int) (t:aL Int Bool)=>rG AA a0 x t) (aL.none:aL Int Bool) y1.1 y1.2 y2 h2) (fun β l rec x1 t t' hs hp hY=>?_) (fun rb=>?_)
 generalize t=x3 at *
 have H:rG AA a0 x1 x3=some t':=hY;clear hY;unfold rG at H;try dsimp only at H
 show T β _ _ (aAP [16] ((fun (x:Int)=>[fI x]) x1) [(0,aF cA a0),(1,fI a1),(2,fEq (ptr b1)),(4,fEq (.slice none 0 0)),(12,fEq (.map (some b2))),(5,fEq (ptr b3)),(13,aF cA a0),(14,fI a1),(15,cD 154 [aF (fN cA) y1.1,aF tI y1.2])]) (tObj l (.loop rec) :: [aA b3 201 [fEq (.map (some b2))],aA b1 129 [aF cA a0],dS cH (fun y=>aM y) b2 x3]) _
 refine Z3 ?_
 refine T_begin hs ?_
 revert H;refine B8 fun y3 h3 H=>?_
 refine Z2 ?_
 refine Tn (bP rfl mG rfl) fun b4=>?_
 refine cT (φs':=[fI y3.Op,fI y3.N,fSl aO y3.AS,fSl tI y3.AN]) a1Z rfl rfl (has rfl) (has rfl) (aG (aH a1Z) (aG (aH a1Z) (aG (aT) (aG (aT) bH)))) (sz rfl) rfl rfl rfl ?_
 revert H;refine B1 fun o1 H Hr1=>?_
 refine aP (ι:=aL Int Bool) (fun i=>o1=i) (fun i=>[(0,aF cA a0),(1,fI a1),(2,fEq (ptr b1)),(4,fEq (.slice none 0 0)),(12,fEq (.map (some b2))),(5,fEq (ptr b3)),(13,aF cA a0),(14,fI a1),(15,cD 154 [aF (fN cA) y1.1,aF tI y1.2]),(7,fEq (ptr b4))]) (fun i=>[aA b4 65 [fI y3.Op,fI y3.N,fSl aO y3.AS,fSl tI y3.AN],aA b3 201 [fEq (.map (some b2))],aA b1 129 [aF cA a0],dS cH (fun y=>aM y) b2 i,tObj l (busy rec)]) ?_ ?_
 revert H;refine B3 fun y4 h4 H=>?_
 refine Tc (aFI _ _ h4) ?_
 revert H;refine B3 fun y5 h5 H=>?_
 obtain⟨u1,x6⟩:=y5;dsimp only at H
 refine Yy (sO rfl (fZ rfl mY) aBD aDG h5) ?_
 revert H;refine B2 fun y6 h6 H=>?_
 obtain⟨u2,x7⟩:=y6;dsimp only at H
 refine Yy (sO rfl (fZ rfl mY) aCr aD4 h6) ?_
 refine Z2 ?_
 revert H;refine cs (fun c1 H=>?_) fun c1 H=>?_
 refine Z7 ?_
 refine aY ?_
 refine gL (k:=y3.N) (y:=true) a1Z (.inl rfl) rfl (has rfl) (has rfl) rfl (has rfl) rfl vH ?_
 refine Z3 ?_
 refine aE [1,3,4,0,2] (by decide) ?_
 exact Tm (aL.upd x3 y3.N true) (ij H)
 refine Z2 ?_
 revert H;refine cs (fun c2 H=>?_) fun c2 H=>?_
 refine Z5 ?_
 refine aY ?_
 refine gL (k:=y3.N) (y:=true) a1Z (.inl rfl) rfl (has rfl) (has rfl) rfl (has rfl) rfl vH ?_
 refine Z3 ?_
 refine aE [1,3,4,0,2] (by decide) ?_
 exact Tm (aL.upd x3 y3.N true) (ij H)
 refine Z4 ?_
 refine aE [0,2,3,4,1] (by decide) ?_
 exact Tm (x3) (ij H)
 clear H;intro x5 hi;subst o1;have H:=Hr1;clear Hr1;try dsimp only at H
 try dsimp only
 refine Z7 ?_
 refine Tl (ι:=Nat × Int × aL Int Bool) (fun i=>mD AA y3 i.1 i.2.1 i.2.2=_) (fun i=>i.1) (fun i=>[(0,aF cA a0),(1,fI a1),(2,fEq (ptr b1)),(4,fEq (.slice none 0 0)),(12,fEq (.map (some b2))),(5,fEq (ptr b3)),(13,aF cA a0),(14,fI a1),(15,cD 154 [aF (fN cA) y1.1,aF tI y1.2]),(39,fSl aO y3.AS),(40,fI (y3.AS.length:Int)),(41,fI i.2.1)]) (fun i=>[aA b4 65 [fI y3.Op,fI y3.N,fSl aO y3.AS,fSl tI y3.AN],aA b3 201 [fEq (.map (some b2))],aA b1 129 [aF cA a0],dS cH (fun y=>aM y) b2 i.2.2,tObj l (busy rec)]) (AA,0,x5) H ?_
 clear H;rintro⟨k1,x10,x11⟩ H
 replace H:mD AA y3 k1 x10 x11=_:=H
 try dsimp only
 obtain _ | k1:=k1
 rw [mD]at H;cases H
 rw [mD]at H
 refine Z3 ?_
 refine aI ?_
 revert H;refine is (fun c3 H=>?_) fun c3 H=>?_
 refine Z3 ?_
 refine aI ?_
 revert H;refine B2 fun y7 h7 H=>?_
 refine Z2 ?_
 refine Tn (bP rfl mW rfl) fun b5=>?_
 refine cT (φs':=[fI y7.Op,fI y7.N,dD y7.AN]) a1Z rfl rfl (has rfl) (has rfl) (aG (aH a1Z) (aG (aH a1Z) (aG (sR) bH))) (sz rfl) rfl rfl rfl ?_
 refine Z4 ?_
 refine aY ?_
 revert H;refine bs fun y8 h8 H=>?_
 refine Tc (aJG _ _ _ _ _ h8) ?_
 revert H;refine B4 fun z1 h9 H=>?_
 refine Z3 ?_
 refine aE [2,3,4,0,5] (by decide) ?_
 exact Tm ((k1,z1,y8)) ⟨H,ls⟩
 refine Z6 ?_
 refine aE [1,2,3,4] (by decide) ?_
 cases H
 refine aE [3,0,1,2] (by decide) ?_
 exact aI3 hs hp rfl
 generalize rb=rb1
 show T β _ _ [(0,aF cA a0),(1,fI a1),(2,fEq (ptr b1)),(4,fEq (.slice none 0 0)),(12,fEq (.map (some b2))),(5,fEq (ptr b3)),(13,aF cA a0),(14,fI a1),(15,cD 154 [aF (fN cA) y1.1,aF tI y1.2])] ([qR rb1]++[aA b3 201 [fEq (.map (some b2))],aA b1 129 [aF cA a0],dS cH (fun y=>aM y) b2 y2]) _
 dsimp only [List.append,_root_.List.cons_append,_root_.List.nil_append]
 revert H;refine B5 fun o2 H Hr2=>?_
 refine aP (ι:=List Int × Value) (fun i=>o2=i.1) (fun i=>[(10,fEq i.2)]) (fun i=>[aA b3 201 [fEq (.map (some b2))],aA b1 129 [aF cA a0],dS cH (fun y=>aM y) b2 y2,aC i.2 3 tI i.1,qR rb1]) ?_ ?_
 revert H;refine B6 fun y9 h10 H=>?_
 refine Z5 ?_
 refine eZ tI 3 ?_
 refine aE [2,3,4,0,1] (by decide) ?_
 refine Tl (ι:=Nat × List Int × Int × Value) (fun i=>nU y2 y9 i.1 i.2.1 i.2.2.1=_) (fun i=>i.1) (fun i=>[(5,fEq (ptr b3)),(10,fEq i.2.2.2),(55,fI y9),(56,fI i.2.2.1)]) (fun i=>[aA b3 201 [fEq (.map (some b2))],aA b1 129 [aF cA a0],dS cH (fun y=>aM y) b2 y2,aC i.2.2.2 3 tI i.2.1,qR rb1]) (AA,[],0,(.slice none 0 0)) H ?_
 clear H;rintro⟨k2,x15,x16,v3⟩ H
 replace H:nU y2 y9 k2 x15 x16=_:=H
 try dsimp only
 obtain _ | k2:=k2
 rw [nU]at H;cases H
 rw [nU]at H
 refine aK 3 rfl (fun hc_v3=>?_)
 refine Z3 ?_
 refine aI ?_
 revert H;refine is (fun c4 H=>?_) fun c4 H=>?_
 revert H;refine B3 fun o3 H Hr3=>?_
 refine aP (ι:=List Int × Value) (fun i=>o3=i.1) (fun i=>[(5,fEq (ptr b3)),(55,fI y9),(56,fI x16),(10,fEq i.2)]) (fun i=>[aA b3 201 [fEq (.map (some b2))],aA b1 129 [aF cA a0],dS cH (fun y=>aM y) b2 y2,aC i.2 3 tI i.1,qR rb1]) ?_ ?_
 refine Z8 ?_
 refine Yo 2 rfl (aHK (zα:=false) (k:=x16) rfl hh hh rfl vH Ent.rfl) ?_
 refine Z1 ?_
 revert H;refine cs (fun c5 H=>?_) fun c5 H=>?_
 refine Z4 ?_
 refine Tn (eJ (t:=tI) (xs:=[x16]) rfl (et rfl) (bM.cons rfl (has rfl) (cF (aH a1Z)) bM.nil) rfl rfl rfl) fun b6=>?_
 generalize (Value.slice (some ⟨b6,0,none⟩) _ _)=v5
 refine aK 0 rfl (fun hc_v5=>?_)
 revert H;refine bs fun z2 h11 H=>?_
 refine aY ?_
 refine cL ?_
 refine gO a1Z rfl rfl rfl (has rfl) (has rfl) (et rfl) rfl h11 (fun v6=>?_)
 refine aK 0 rfl (fun hc_v6=>?_)
 refine Z4 ?_
 refine aE [1,2,3,0,4] (by decide) ?_
 exact Tm ((z2,v6)) (ij H)
 refine Z4 ?_
 exact Tm ((x15,v3)) (ij H)
 clear H;intro i hi;obtain⟨x17,v4⟩:=i;subst o3;have H:=Hr3;clear Hr3;try dsimp only at H
 try dsimp only
 refine aK 3 rfl (fun hc_v4=>?_)
 revert H;refine B1 fun z3 h12 H=>?_
 refine Z3 ?_
 exact Tm ((k2,x17,z3,v4)) ⟨H,ls⟩
 refine Z6 ?_
 exact Tm ((x15,v3)) (ij H)
 clear H;intro i hi;obtain⟨x12,v1⟩:=i;subst o2;have H:=Hr2;clear Hr2;try dsimp only at H
 try dsimp only
 refine aK 3 rfl (fun hc_v1=>?_)
 refine Z5 ?_
 refine cV ?_
 refine cB (φ:=fSl tI x12) (v:=v1) [10,67,4] cZ fz ?_
 refine bZ ?_
 cases H
 refine aE [3] (by decide) ?_
 exact T_outM1 [rb1] rfl (cC rfl) rfl rfl
def tJ (AA:Nat) (a0:AX) (a1:Int):Option (List Int):=
 (tZ AA a0 a1).bind fun y1=>
 some y1
theorem aJL (AA:Nat)  (a0:AX) (a1:Int) (r:List Int) (H:tJ AA a0 a1=some r):FnS Tryz.prog 86 [aF cA a0,fI a1] [] (fSl tI r) (fun _=>[]):=by
 unfold tJ at H
 refine bD Tryz.func86 rfl Tryz.ntmps86 rfl (fun β=>?_)
 revert H;refine B6 fun y1 h1 H=>?_
 refine Tc (aIb _ _ _ _ h1) ?_
 refine Z3 ?_
 cases H
 exact To
def vM (AA:Nat) (a0:AI):Option ((List (List Int)) × Int):=
 (yK AA (⟨a0.AF,a0.AD,a0.AE,a0.AG⟩:AI) (fun x=>tJ AA x.1 x.2)).bind fun y1=>
 some (y1.1,y1.2)
theorem aJn (AA:Nat)  (a0:AI) (r:(List (List Int)) × Int) (H:vM AA a0=some r):FnS Tryz.prog 52 [fSt cK a0] [] (dK [fSl (tSl tI) r.1,fI r.2]) (fun _=>[]):=by
 unfold vM at H
 refine bD Tryz.func52 rfl Tryz.ntmps52 rfl (fun β=>?_)
 refine Z1 ?_
 refine Tn (bR rfl hh bO) fun b1=>?_
 revert H;refine B5 fun y1 h1 H=>?_
 refine gF a1Z rfl rfl rfl hh (aJ.cons hh (aJ.cons (fZ rfl (aDF (cb rfl) (fun (x:AX × Int) r hx=>aJL AA x.1 x.2 r hx))) aJ.nil)) rfl (cb rfl) (aJI AA (⟨a0.AF,a0.AD,a0.AE,a0.AG⟩:AI) (fun x=>tJ AA x.1 x.2) y1 h1) rfl ?_
 refine Z6 ?_
 cases H
 refine aE [] (by decide) ?_
 exact vA rfl (cC rfl) (cC rfl) rfl
open Go.SX Go.SW
def sortRen:Go.Shelf.Ren:=⟨fun x=>match x with
 | 189=>54 | 125=>89 | 257=>88 | 128=>134 | 129=>135
 | 294=>125 | 295=>126 | 296=>127 | 297=>128 | 298=>129
 | 299=>130 | 216=>131 | 300=>132 | 301=>133 | 328=>156
 | 329=>157 | 330=>158 | 331=>159 | 332=>160 | 215=>161 | 343=>173
 | n=>n,fun x=>match x with
 | 28=>27 | 3=>3 | 46=>166 | 0=>0 | 51=>220 | 53=>222 | 4=>4 | 183=>212 | 182=>211 | 131=>217 | 5=>5 | 9=>9
 | 218=>238 | 222=>242 | 228=>270 | 229=>271
 | n=>n,fun x=>x⟩
theorem aFb:Go.Proofs.Lays.n189 Tryz.prog sortRen:=by constructor <;> first | kernel_rfl | (intro w;kernel_rfl)
def compRen:Go.Shelf.Ren:=⟨fun x=>match x with | 20=>55 | n=>n,fun x=>match x with | 0=>0 | 3=>3 | 4=>4 | 22=>27 | n=>n,fun x=>x⟩
theorem aFp:Go.Proofs.Lays2.n20 Tryz.prog compRen:=by constructor <;> first | kernel_rfl | (intro w;kernel_rfl)
theorem heap_row {w:World} {b n:Nat} {c:Array Value} {e:TypeId} {f:Array Value->Array Value} {os:Array Obj} (h:w.heap[b]? =some (.cells c e (0,0))):
 (Go.Sort.grow (Go.Sort.mapBlock (Go.Sort.ahead w n) b f) os).heap[b]? =some (.cells (f c) e (0,0))/\∀ k,k≠b->k<w.heap.size->(Go.Sort.grow (Go.Sort.mapBlock (Go.Sort.ahead w n) b f) os).heap[k]? =w.heap[k]?:=by
 have hb:b<w.heap.size:=(a0d.1 h).1
 constructor
 ·simp only [Go.Sort.grow,Go.Sort.mapBlock,Go.Sort.ahead];rw [a0c (by simpa using hb),a0e,a1Y rfl,h];rfl
 ·intro k hk hk2;simp only [Go.Sort.grow,Go.Sort.mapBlock,Go.Sort.ahead];rw [a0c (by simpa using hk2),a0e,a1X (fun e=>hk e.symm)]
theorem st_row {w:World} {m:Mem} {b n:Nat} {c:Array Value} {e:TypeId} {f:Array Value->Array Value} {os:Array Obj} (hS:St ⟨w,m,[b]⟩ m [(b, .cells c e (0,0))] w):
 St ⟨w,m,[b]⟩ m [(b, .cells (f c) e (0,0))] (Go.Sort.grow (Go.Sort.mapBlock (Go.Sort.ahead w n) b f) os):=by
 obtain⟨h1,h2⟩:=heap_row (n:=n) (f:=f) (os:=os) (hS.own _ (.head _))
 have hm:m b=none:=hS.apart _ (.head _)
 refine⟨fun k o hk=>?_,fun x hx=>?_,fun x hx=>?_,by simp,hS.mle,fun k hk=>absurd rfl hk,fun x hx _=>?_,?_,fun k hk hf=>h2 k (fun e=>hf (by simp [e])) hk,rfl,rfl,rfl⟩
 ·have h3:=hS.mem k o hk;rw [h2 k (fun e=>by subst e;rw [hm]at hk;cases hk) (a0d.1 h3).1];exact h3
 ·cases hx with
  | head=>exact h1
  | tail _ h=>cases h
 ·cases hx with
  | head=>exact hm
  | tail _ h=>cases h
 ·cases hx with
  | head=>exact .head _
  | tail _ h=>cases h
 ·simp [Go.Sort.grow,Go.Sort.mapBlock,Go.Sort.ahead]
theorem aE2 {m:Mem}:∀ {xs:List Int} {cs:List Value},aX (xs.flatMap (dB .i64).Ai) m cs->cs=xs.map (.int .i64)
 | [],_,h=>by
  have h:_=[]:=h;rw [h];rfl
 | x :: xs,_,h=>by
  obtain⟨v,r,rfl,h1,h2⟩:=h;have h1:v= .int .i64 x:=h1;rw [h1,aE2 h2];rfl
theorem aFk {m:Mem}:∀ {xs:List Int},aX (xs.flatMap (dB .i64).Ai) m (xs.map (.int .i64))
 | []=>rfl
 | x :: xs=>⟨_,_,rfl,rfl,aFk⟩
theorem aEa {m:Mem} {L:AZ} {v:Value} {xs:List Int} (h:bQ [aC v 3 (dB .i64) xs] m L):xs.length<=1000000000/\((v= .slice none 0 0/\xs=[]/\L=[]) \/
 ∃ b c cap,v= .slice (some ⟨b,0,none⟩) xs.length cap/\L=[(b, .cells c 3 (0,0))]/\c.size=cap/\xs.length<=cap/\c.toList.take xs.length=xs.map (.int .i64)):=by
 obtain⟨H,R,rfl,⟨cs,h1,h2,h3⟩,hR⟩:=h
 have hR:R=[]:=hR
 subst hR
 have e:=aE2 h3
 subst e
 refine⟨h2,?_⟩
 rcases h1.2 with⟨rfl,h4,rfl⟩ | ⟨b,c,cap,rfl,rfl,h4,h5,h6⟩
 ·exact .inl ⟨rfl,a0y h4,rfl⟩
 ·exact .inr ⟨b,c,cap,rfl,rfl,by rw [h4];exact Nat.mul_one _,h5,by simpa using h6⟩
theorem row_of {m:Mem} {b cap:Nat} {c:Array Value} {xs:List Int} (h1:c.size=cap) (h2:xs.length<=cap) (h3:c.toList.take xs.length=xs.map (.int .i64)) (h4:xs.length<=1000000000):
 (aC (.slice (some ⟨b,0,none⟩) xs.length cap) 3 (dB .i64) xs).p m [(b, .cells c 3 (0,0))]:=
 ⟨xs.map (.int .i64),⟨by simp [show(dB .i64).sz=1 from rfl], .inr ⟨b,c,cap,rfl,rfl,by rw [h1];exact(Nat.mul_one _).symm,h2,by simpa using h3⟩⟩,h4,aFk⟩
theorem aDb {w:World} {b:Nat} {c:Array Value} {e:TypeId} {xs:List Int} (h:w.heap[b]? =some (.cells c e (0,0))) (hx:c.toList.take xs.length=xs.map (.int .i64)):Go.Sort.Holds (Value.int .i64) w b 0 xs.toArray:=by
 intro j hj
 have hj:j<xs.length:=by simpa using hj
 refine⟨?_,by simp [World.frozen?,h]⟩
 have h1:c.toList[j]? =some (.int .i64 xs[j]):=by
  have h2:(c.toList.take xs.length)[j]? =some (.int .i64 xs[j]):=by rw [hx];simp [hj]
  rwa [a0N,a1Y hj]at h2
 simp only [World.cell?,h,a1J,Option.isSome_none,Bool.false_eq_true,if_false]
 rw [<- a0g,h1]
 congr 2
 simp [hj]
theorem aE3 {c:Array Value} {ys:List Int} {k:Nat} (hk:k<=ys.length) (hc:ys.length<=c.size):(Go.Sort.putCells (Value.int .i64) 0 ys.toArray c).toList.take k=(ys.take k).map (.int .i64):=by
 apply a0z
 intro j
 rw [a0N]
 split
 ·rename_i hj;simp only [Go.Sort.putCells,a0g,Array.getElem?_mapIdx];have h1:j<c.size:=by omega
  have h2:j<ys.length:=by omega
  simp [h1,h2,hj]
 ·rename_i hj;rw [a0J];simp;omega
theorem aDZ {c:Array Value} {ys:Array Int}:(Go.Sort.putCells (Value.int .i64) 0 ys c).size=c.size:=by simp [Go.Sort.putCells]
def fB (xs:List Int):List Int:=xs.mergeSort fun x y=>decide (x<=y)
def aB2 (a0:List Int):Option (List Int):=some (fB a0)
theorem aHQ (p0:Value) (a0 r:List Int) (H:aB2 a0=some r):FnS Tryz.prog 54 [fEq p0] [aC p0 3 (dB .i64) a0] (dK []) (fun _=>[aC p0 3 (dB .i64) r]):=by
 have H:fB a0=r:=a1O H
 subst H
 intro m L vs hv hL w hS
 obtain⟨v,_,rfl,hv1,hv2⟩:=hv
 have hv1:v=p0:=hv1
 have hv2:_=[]:=hv2
 subst hv1;subst hv2
 obtain⟨hB,⟨rfl,rfl,rfl⟩ | ⟨b,c,cap,rfl,rfl,h1,h2,h3⟩⟩:=aEa hL
 ·refine(Any.slices_Sort_int_none aFb none 0 w).mono ?_;rintro e w' ⟨rfl,rfl⟩
  have e0:fB []=[]:=by simp [fB]
  exact⟨m,[],hS,_,rfl,⟨[],rfl,rfl⟩,by rw [e0];exact hL⟩
 ·have hw:=hS.own _ (.head _);have hl:(fB a0).length=a0.length:=by simp [fB]
  refine(Any.slices_Sort_int aFb b 0 cap a0 w (aDb hw h3) (a0d.1 hw).1 (by omega)).mono ?_
  rintro e w' ⟨rfl,n,os,rfl⟩
  refine⟨m,_,st_row hS,_,rfl,⟨[],rfl,rfl⟩,_,[],(a0v _).symm,?_,rfl⟩;rw [<- hl];exact row_of (by rw [aDZ,h1]) (by omega) (by
   have:=aE3 (c:=c) (ys:=fB a0) (k:=(fB a0).length) (a1B _) (by omega)
   rw [a1r]at this;exact this) (by omega)
def aCw (a0:List Int):Option (List Int):=some (Go.Lib.compact a0)
theorem aI7 (xs:List Int):(Go.Lib.compact xs).length<=xs.length:=by
 unfold Go.Lib.compact Go.Lib.compactUpTo
 rw [a0U]
 exact a1C (a0T _ _) (by simp)
theorem aG0 (p0:Value) (a0 r:List Int) (H:aCw a0=some r):FnS Tryz.prog 55 [fEq p0] [aC p0 3 (dB .i64) a0] (fSl (dB .i64) r) (fun _=>[]):=by
 have H:Go.Lib.compact a0=r:=a1O H
 subst H
 intro m L vs hv hL w hS
 obtain⟨v,_,rfl,hv1,hv2⟩:=hv
 have hv1:v=p0:=hv1
 have hv2:_=[]:=hv2
 subst hv1;subst hv2
 obtain⟨hB,⟨rfl,rfl,rfl⟩ | ⟨b,c,cap,rfl,rfl,h1,h2,h3⟩⟩:=aEa hL
 ·refine(Any.slices_Compact_int_empty aFp none 0 w).mono ?_;rintro e w' ⟨rfl,rfl⟩
  exact⟨m,[],hS,_,rfl,dF m _ rfl,rfl⟩
 ·have hw:=hS.own _ (.head _);have hl:=aI7 a0;refine(Any.slices_Compact_int aFp b 0 cap a0 w (aDb hw h3) (by omega) h2).mono ?_
  rintro e w' ⟨rfl,n,rfl⟩
  rw [<- Go.Sort.grow_empty (Go.Sort.putRow _ _ _ _ _)];have hS':=st_row (n:=n) (f:=Go.Sort.putCells (Value.int .i64) 0 (Go.Lib.compact a0++List.replicate (a0.length - (Go.Lib.compact a0).length) 0).toArray) (os:=#[]) hS;have hr:(aC (.slice (some ⟨b,0,none⟩) (Go.Lib.compact a0).length cap) 3 (dB .i64) (Go.Lib.compact a0)).p m [(b, .cells (Go.Sort.putCells (Value.int .i64) 0 (Go.Lib.compact a0++List.replicate (a0.length - (Go.Lib.compact a0).length) 0).toArray c) 3 (0,0))]:=
   row_of (by rw [aDZ,h1]) (by omega) (by
    rw [aE3 (by simp) (by simp;omega)];simp) (by omega)
  obtain⟨m',h4,h5,h6⟩:=tR (H:=[_]) (R:=[]) hS';exact⟨m',[],h5,_,rfl,cZ m _ hr m' h4 h6,rfl⟩
open Go.SX Go.SW Go.Dt
def oI (w1:List Int) (w2:Int) (y1:List Int):Nat->Int->(List Int)->Option (List Int)
| 0,_,_=>none
| k+1,x3,x4=>
 if x3<(y1.length:Int)then
  ((idx y1 x3).bind fun y2=>
  (idx w1 w2).bind fun y3=>
  if y2<y3 then
   (cQ (x4++[y2])).bind fun z1=>
   some z1
  else
   some x4).bind fun x5=>
  (chk (x3+1)).bind fun z2=>
  oI w1 w2 y1 k z2 x5
 else
  some x4
def uW (AA:Nat) (a0:Int) (w0:List (List Int)) (w1:List Int) (w2:Int) (w3:List Int):Option (List Int):=
 (idx w0 a0).bind fun y1=>
 oI w1 w2 y1 AA 0 w3
theorem aDw (AA:Nat) (q3:Nat) (a0:Int) (w0:List (List Int)) (w1:List Int) (w2:Int) (w3:List Int) (r:List Int) (H:uW AA a0 w0 w1 w2 w3=some r):FnS Tryz.prog 53 [fI a0,aF (tSl (tSl tI)) w0,aF (tSl tI) w1,aF tI w2,fEq (.pointer (some ⟨q3,0,none⟩))] [aAq q3 w3] (dK []) (fun _=>[aAq q3 r]):=by
 unfold uW at H
 refine bD Tryz.func53 rfl Tryz.ntmps53 rfl (fun β=>?_)
 refine aCR (fun v1=>?_)
 refine aK 1 rfl (fun hc_v1=>?_)
 revert H;refine B3 fun y1 h1 H=>?_
 refine Z6 ?_
 refine Tl (ι:=Nat × Int × List Int × Value) (fun i=>oI w1 w2 y1 i.1 i.2.1 i.2.2.1=_) (fun i=>i.1) (fun i=>[(2,aF (tSl tI) w1),(3,aF tI w2),(4,fEq (ptr q3)),(11,fSl tI y1),(12,fI (y1.length:Int)),(13,fI i.2.1)]) (fun i=>[aA q3 27 [fEq i.2.2.2],aC i.2.2.2 3 tI i.2.2.1]) (AA,0,w3,v1) H ?_
 clear H;rintro⟨k1,x3,x4,v3⟩ H
 replace H:oI w1 w2 y1 k1 x3 x4=_:=H
 try dsimp only
 obtain _ | k1:=k1
 rw [oI]at H;cases H
 rw [oI]at H
 refine aK 1 rfl (fun hc_v3=>?_)
 refine Z3 ?_
 refine aI ?_
 revert H;refine is (fun c1 H=>?_) fun c1 H=>?_
 revert H;refine B3 fun o1 H Hr1=>?_
 refine aP (ι:=List Int × Value) (fun i=>o1=i.1) (fun i=>[(2,aF (tSl tI) w1),(3,aF tI w2),(4,fEq (ptr q3)),(11,fSl tI y1),(12,fI (y1.length:Int)),(13,fI x3)]) (fun i=>[aA q3 27 [fEq i.2],aC i.2 3 tI i.1]) ?_ ?_
 revert H;refine B2 fun y2 h2 H=>?_
 revert H;refine B8 fun y3 h3 H=>?_
 revert H;refine I4 (fun c2 H=>?_) fun c2 H=>?_
 refine Z4 ?_
 refine Tn (eJ (t:=tI) (xs:=[y2]) rfl (et rfl) (bM.cons rfl (has rfl) (cF (aH a1Z)) bM.nil) rfl rfl rfl) fun b1=>?_
 generalize (Value.slice (some ⟨b1,0,none⟩) _ _)=v5
 refine aK 0 rfl (fun hc_v5=>?_)
 revert H;refine bs fun z1 h4 H=>?_
 refine cW ?_
 refine cL ?_
 refine gO a1Z rfl rfl rfl (has rfl) (has rfl) (et rfl) rfl h4 (fun v6=>?_)
 refine aK 0 rfl (fun hc_v6=>?_)
 refine cL ?_
 refine bX (φs':=[fEq v6]) a1Z rfl rfl (has rfl) (has rfl) (aH hc_v6) (sz rfl) rfl rfl ?_
 refine Z3 ?_
 exact Tm ((z1,v6)) (ij H)
 refine Z4 ?_
 exact Tm ((x4,v3)) (ij H)
 clear H;intro i hi;obtain⟨x5,v4⟩:=i;subst o1;have H:=Hr1;clear Hr1;try dsimp only at H
 try dsimp only
 refine aK 1 rfl (fun hc_v4=>?_)
 revert H;refine B1 fun z2 h5 H=>?_
 refine Z3 ?_
 exact Tm ((k1,z2,x5,v4)) ⟨H,ls⟩
 refine Z5 ?_
 refine aCx (x:=x4) ?_
 cases H
 exact eD (.inr rfl) rfl rfl
def oV (AA:Nat) (y1:(List (List Int)) × Int) (y2:(List Int) × Int) (x4:Int) (y5:AM):Nat->Int->(List Int)->Option (List Int)
| 0,_,_=>none
| k+1,x10,x11=>
 if x10<(y5.AL.length:Int)then
  (idx y5.AL x10).bind fun y6=>
  (uW AA y6.AQ y1.1 y2.1 x4 x11).bind fun y7=>
  (chk (x10+1)).bind fun z1=>
  oV AA y1 y2 x4 y5 k z1 y7
 else
  some x11
def nV (AA:Nat) (y1:(List (List Int)) × Int) (y2:(List Int) × Int) (x4:Int) (y8:AM):Nat->Int->(List Int)->Option (List Int)
| 0,_,_=>none
| k+1,x15,x16=>
 if x15<(y8.AO.length:Int)then
  (idx y8.AO x15).bind fun y9=>
  (uW AA y9.AQ y1.1 y2.1 x4 x16).bind fun y10=>
  (chk (x15+1)).bind fun z2=>
  nV AA y1 y2 x4 y8 k z2 y10
 else
  some x16
def pH (AA:Nat) (a0:AI) (y1:(List (List Int)) × Int) (y2:(List Int) × Int):Nat->Int->(aL Int (List Int))->Option (aL Int (List Int))
| 0,_,_=>none
| k+1,x4,x5=>
 if x4<(a0.AD.length:Int)then
  ((idx a0.AD x4).bind fun y3=>
  if y3.Op≠4 then
   (idx y1.1 x4).bind fun y4=>
   some (aL.upd x5 x4 y4)
  else
   ((idx a0.AE y3.N).bind fun y5=>
   oV AA y1 y2 x4 y5 AA 0 []).bind fun x7=>
   ((idx a0.AE y3.N).bind fun y8=>
   nV AA y1 y2 x4 y8 AA 0 x7).bind fun x12=>
   (aB2 x12).bind fun y11=>
   (aCw y11).bind fun y12=>
   some (aL.upd x5 x4 y12)).bind fun x6=>
  (chk (x4+1)).bind fun z3=>
  pH AA a0 y1 y2 k z3 x6
 else
  some x5
def tT (AA:Nat) (a0:AI):Option ((aL Int (List Int)) × Int):=
 (vM AA (⟨a0.AF,a0.AD,a0.AE,a0.AG⟩:AI)).bind fun y1=>
 if y1.2≠0 then
  some (aL.none,y1.2)
 else
  (vF AA (⟨a0.AF,a0.AD,a0.AE,a0.AG⟩:AI)).bind fun y2=>
  (pH AA a0 y1 y2 AA 0 (aL.none:aL Int (List Int))).bind fun x1=>
  (idx y1.1 a0.AG).bind fun y13=>
  some (aL.upd x1 (-1) y13,0)
theorem aJE (AA:Nat)  (a0:AI) (r:(aL Int (List Int)) × Int) (H:tT AA a0=some r):FnS Tryz.prog 21 [fSt cK a0] [] (dK [kP cH (fun y=>fSl tI y) r.1,fI r.2]) (fun _=>[]):=by
 unfold tT at H
 refine bD Tryz.func21 rfl Tryz.ntmps21 rfl (fun β=>?_)
 refine Z1 ?_
 refine Tn (bR rfl hh bO) fun b1=>?_
 revert H;refine B5 fun y1 h1 H=>?_
 refine Tc (aJn _ _ _ h1) ?_
 refine Z3 ?_
 refine Tn (bP rfl ty_ze_45 rfl) fun b2=>?_
 refine bX (φs':=[fSl (tSl tI) y1.1]) a1Z rfl rfl (has rfl) (has rfl) (aT) (sz rfl) rfl rfl ?_
 refine Z2 ?_
 refine aI ?_
 revert H;refine I4 (fun c1 H=>?_) fun c1 H=>?_
 refine Z7 ?_
 cases H
 refine aE [] (by decide) ?_
 exact vA rfl (iI rfl aH5) (cC rfl) rfl
 revert H;refine B5 fun y2 h2 H=>?_
 refine Tc (aEG _ _ _ h2) ?_
 refine Z3 ?_
 refine Tn (bP rfl aCX rfl) fun b3=>?_
 refine bX (φs':=[fSl tI y2.1]) a1Z rfl rfl (has rfl) (has rfl) (aT) (sz rfl) rfl rfl ?_
 refine Z3 ?_
 refine Tn (aAF (fun y=>fSl tI y) cH rfl) fun b4=>?_
 revert H;refine B2 fun o1 H Hr1=>?_
 refine aP (ι:=aL Int (List Int)) (fun i=>o1=i) (fun i=>[(1,fEq (ptr b1)),(4,aF (tSl (tSl tI)) y1.1),(8,fEq (.map (some b4)))]) (fun i=>[aA b1 26 [fSl aD a0.AF,fSl aN a0.AD,fSl aB a0.AE,fI a0.AG],dS cH (fun y=>fSl tI y) b4 i]) ?_ ?_
 refine Z7 ?_
 refine cW ?_
 refine cB (φ:=aF (tSl (tSl tI)) y1.1) (v:=ptr b2) [4] (fV aQ.rfl) fz ?_
 refine bZ ?_
 refine cL ?_
 refine cB (φ:=aF (tSl tI) y2.1) (v:=ptr b3) [6] (fV aQ.rfl) fz ?_
 refine bZ ?_
 refine aE [1,0] (by decide) ?_
 refine Tl (ι:=Nat × Int × aL Int (List Int)) (fun i=>pH AA a0 y1 y2 i.1 i.2.1 i.2.2=_) (fun i=>i.1) (fun i=>[(1,fEq (ptr b1)),(4,aF (tSl (tSl tI)) y1.1),(6,aF (tSl tI) y2.1),(8,fEq (.map (some b4))),(32,fSl aN a0.AD),(33,fI (a0.AD.length:Int)),(34,fI i.2.1)]) (fun i=>[aA b1 26 [fSl aD a0.AF,fSl aN a0.AD,fSl aB a0.AE,fI a0.AG],dS cH (fun y=>fSl tI y) b4 i.2.2]) (AA,0,(aL.none:aL Int (List Int))) H ?_
 clear H;rintro⟨k1,x4,x5⟩ H
 replace H:pH AA a0 y1 y2 k1 x4 x5=_:=H
 try dsimp only
 obtain _ | k1:=k1
 rw [pH]at H;cases H
 rw [pH]at H
 refine Z3 ?_
 refine aI ?_
 revert H;refine is (fun c2 H=>?_) fun c2 H=>?_
 revert H;refine B3 fun o2 H Hr2=>?_
 refine aP (ι:=aL Int (List Int)) (fun i=>o2=i) (fun i=>[(1,fEq (ptr b1)),(4,aF (tSl (tSl tI)) y1.1),(6,aF (tSl tI) y2.1),(8,fEq (.map (some b4))),(32,fSl aN a0.AD),(33,fI (a0.AD.length:Int)),(34,fI x4)]) (fun i=>[aA b1 26 [fSl aD a0.AF,fSl aN a0.AD,fSl aB a0.AE,fI a0.AG],dS cH (fun y=>fSl tI y) b4 i]) ?_ ?_
 revert H;refine B3 fun y3 h3 H=>?_
 refine Z2 ?_
 refine Tn (bP rfl uZ rfl) fun b5=>?_
 refine Tn (bP rfl mG rfl) fun b6=>?_
 refine cL ?_
 refine bX (φs':=[fI x4]) a1Z rfl rfl (has rfl) (has rfl) (aH a1Z) (sz rfl) rfl rfl ?_
 refine cL ?_
 refine cT (φs':=[fI y3.Op,fI y3.N,fSl aO y3.AS,fSl tI y3.AN]) a1Z rfl rfl (has rfl) (has rfl) (aG (aH a1Z) (aG (aH a1Z) (aG (aT) (aG (aT) bH)))) (sz rfl) rfl rfl rfl ?_
 refine Z1 ?_
 refine aI ?_
 revert H;refine I5 (fun c3 H=>?_) fun c3 H=>?_
 refine Z1 ?_
 refine aI ?_
 revert H;refine bs fun y4 h4 H=>?_
 apply bJ (ods:=[_,_,_,_,_,_]) 6 0 4 bI rfl rfl rfl
 refine ND ?_
 refine M6 ?_
 intros
 refine Z1 ?_
 refine cV ?_
 refine gL (k:=x4) (y:=y4) a1Z (.inl rfl) rfl (has rfl) (has rfl) rfl (has rfl) rfl sV ?_
 refine Z5 ?_
 refine aE [3,0] (by decide) ?_
 exact Tm (aL.upd x5 x4 y4) (ij H)
 exact fk
 kernel_rfl
 refine Z4 ?_
 refine Tn (bP rfl aCX rfl) fun b7=>?_
 refine Z2 ?_
 refine cW ?_
 refine cB (φ:=aF tI x4) (v:=ptr b5) [9] (fV aQ.rfl) fz ?_
 refine bZ ?_
 refine Yy (qB rfl (aJ.cons hh (aJ.cons hh (aJ.cons hh (aJ.cons hh aJ.nil))))) ?_
 revert H;refine B2 fun o3 H Hr3=>?_
 refine aP (ι:=List Int × Value) (fun i=>o3=i.1) (fun i=>[(1,fEq (ptr b1)),(4,aF (tSl (tSl tI)) y1.1),(6,aF (tSl tI) y2.1),(8,fEq (.map (some b4))),(32,fSl aN a0.AD),(33,fI (a0.AD.length:Int)),(34,fI x4),(9,aF tI x4),(10,fEq (ptr b6)),(11,fEq (ptr b7)),(12,cD 53 [aF (tSl (tSl tI)) y1.1,aF (tSl tI) y2.1,aF tI x4,fEq (ptr b7)])]) (fun i=>[aA b7 27 [fEq i.2],aA b6 65 [fI y3.Op,fI y3.N,fSl aO y3.AS,fSl tI y3.AN],aA b1 26 [fSl aD a0.AF,fSl aN a0.AD,fSl aB a0.AE,fI a0.AG],dS cH (fun y=>fSl tI y) b4 x5,aC i.2 3 tI i.1]) ?_ ?_
 revert H;refine B5 fun y5 h5 H=>?_
 refine Z7 ?_
 refine eZ tI 3 ?_
 refine aE [1,2,3,4,0] (by decide) ?_
 refine Tl (ι:=Nat × Int × List Int × Value) (fun i=>oV AA y1 y2 x4 y5 i.1 i.2.1 i.2.2.1=_) (fun i=>i.1) (fun i=>[(1,fEq (ptr b1)),(4,aF (tSl (tSl tI)) y1.1),(6,aF (tSl tI) y2.1),(8,fEq (.map (some b4))),(32,fSl aN a0.AD),(33,fI (a0.AD.length:Int)),(34,fI x4),(9,aF tI x4),(10,fEq (ptr b6)),(11,fEq (ptr b7)),(12,cD 53 [aF (tSl (tSl tI)) y1.1,aF (tSl tI) y2.1,aF tI x4,fEq (ptr b7)]),(55,fSl aU y5.AL),(56,fI (y5.AL.length:Int)),(57,fI i.2.1)]) (fun i=>[aA b7 27 [fEq i.2.2.2],aA b6 65 [fI y3.Op,fI y3.N,fSl aO y3.AS,fSl tI y3.AN],aA b1 26 [fSl aD a0.AF,fSl aN a0.AD,fSl aB a0.AE,fI a0.AG],dS cH (fun y=>fSl tI y) b4 x5,aC i.2.2.2 3 tI i.2.2.1]) (AA,0,[],(.slice none 0 0)) H ?_
 clear H;rintro⟨k2,x10,x11,v3⟩ H
 replace H:oV AA y1 y2 x4 y5 k2 x10 x11=_:=H
 try dsimp only
 obtain _ | k2:=k2
 rw [oV]at H;cases H
 rw [oV]at H
 refine aK 4 rfl (fun hc_v3=>?_)
 refine Z3 ?_
 refine aI ?_
 revert H;refine is (fun c4 H=>?_) fun c4 H=>?_
 refine Z3 ?_
 refine aI ?_
 revert H;refine B2 fun y6 h6 H=>?_
 refine Z2 ?_
 refine Tn (bP rfl rE rfl) fun b8=>?_
 refine cT (φs':=[fI y6.At,fSl tI y6.AU,fI y6.AQ]) a1Z rfl rfl (has rfl) (has rfl) (aG (aH a1Z) (aG (aT) (aG (aH a1Z) bH))) (sz rfl) rfl rfl rfl ?_
 refine Z5 ?_
 refine iJ ?_
 refine cW ?_
 refine aCx (x:=x11) ?_
 revert H;refine bs fun y7 h7 H=>?_
 refine iB a1Z rfl rfl rfl (has rfl) (aJ.cons (has rfl) aJ.nil) rfl (cb rfl) (aDw AA b7 y6.AQ y1.1 y2.1 x4 x11 y7 h7) rfl ?_
 refine aCR (fun v4=>?_)
 refine aK 1 rfl (fun hc_v4=>?_)
 revert H;refine B4 fun z1 h8 H=>?_
 refine Z3 ?_
 refine aE [0,3,4,5,1] (by decide) ?_
 exact Tm ((k2,z1,y7,v4)) ⟨H,ls⟩
 refine Z6 ?_
 exact Tm ((x11,v3)) (ij H)
 clear H;intro i hi;obtain⟨x7,v1⟩:=i;subst o3;have H:=Hr3;clear Hr3;try dsimp only at H
 try dsimp only
 refine aK 4 rfl (fun hc_v1=>?_)
 revert H;refine bs fun o4 H Hr4=>?_
 refine aP (ι:=List Int × Value) (fun i=>o4=i.1) (fun i=>[(1,fEq (ptr b1)),(4,aF (tSl (tSl tI)) y1.1),(6,aF (tSl tI) y2.1),(8,fEq (.map (some b4))),(32,fSl aN a0.AD),(33,fI (a0.AD.length:Int)),(34,fI x4),(9,aF tI x4),(11,fEq (ptr b7))]) (fun i=>[aA b7 27 [fEq i.2],aA b6 65 [fI y3.Op,fI y3.N,fSl aO y3.AS,fSl tI y3.AN],aA b1 26 [fSl aD a0.AF,fSl aN a0.AD,fSl aB a0.AE,fI a0.AG],dS cH (fun y=>fSl tI y) b4 x5,aC i.2 3 tI i.1]) ?_ ?_
 revert H;refine B5 fun y8 h9 H=>?_
 refine Z7 ?_
 refine Tl (ι:=Nat × Int × List Int × Value) (fun i=>nV AA y1 y2 x4 y8 i.1 i.2.1 i.2.2.1=_) (fun i=>i.1) (fun i=>[(1,fEq (ptr b1)),(4,aF (tSl (tSl tI)) y1.1),(6,aF (tSl tI) y2.1),(8,fEq (.map (some b4))),(32,fSl aN a0.AD),(33,fI (a0.AD.length:Int)),(34,fI x4),(9,aF tI x4),(11,fEq (ptr b7)),(12,cD 53 [aF (tSl (tSl tI)) y1.1,aF (tSl tI) y2.1,aF tI x4,fEq (ptr b7)]),(72,fSl aV y8.AO),(73,fI (y8.AO.length:Int)),(74,fI i.2.1)]) (fun i=>[aA b7 27 [fEq i.2.2.2],aA b6 65 [fI y3.Op,fI y3.N,fSl aO y3.AS,fSl tI y3.AN],aA b1 26 [fSl aD a0.AF,fSl aN a0.AD,fSl aB a0.AE,fI a0.AG],dS cH (fun y=>fSl tI y) b4 x5,aC i.2.2.2 3 tI i.2.2.1]) (AA,0,x7,v1) H ?_
 clear H;rintro⟨k3,x15,x16,v7⟩ H
 replace H:nV AA y1 y2 x4 y8 k3 x15 x16=_:=H
 try dsimp only
 obtain _ | k3:=k3
 rw [nV]at H;cases H
 rw [nV]at H
 refine aK 4 rfl (fun hc_v7=>?_)
 refine Z3 ?_
 refine aI ?_
 revert H;refine is (fun c5 H=>?_) fun c5 H=>?_
 refine Z3 ?_
 refine aI ?_
 revert H;refine B2 fun y9 h10 H=>?_
 refine Z2 ?_
 refine Tn (bP rfl zG rfl) fun b9=>?_
 refine cT (φs':=[fI y9.In,fI y9.AQ]) a1Z rfl rfl (has rfl) (has rfl) (aG (aH a1Z) (aG (aH a1Z) bH)) (sz rfl) rfl rfl rfl ?_
 refine Z5 ?_
 refine iJ ?_
 refine cW ?_
 refine aCx (x:=x16) ?_
 revert H;refine bs fun y10 h11 H=>?_
 refine iB a1Z rfl rfl rfl (has rfl) (aJ.cons (has rfl) aJ.nil) rfl (cb rfl) (aDw AA b7 y9.AQ y1.1 y2.1 x4 x16 y10 h11) rfl ?_
 refine aCR (fun v8=>?_)
 refine aK 1 rfl (fun hc_v8=>?_)
 revert H;refine B4 fun z2 h12 H=>?_
 refine Z3 ?_
 refine aE [0,3,4,5,1] (by decide) ?_
 exact Tm ((k3,z2,y10,v8)) ⟨H,ls⟩
 refine Z6 ?_
 exact Tm ((x16,v7)) (ij H)
 clear H;intro i hi;obtain⟨x12,v5⟩:=i;subst o4;have H:=Hr4;clear Hr4;try dsimp only at H
 try dsimp only
 refine aK 4 rfl (fun hc_v5=>?_)
 refine Z2 ?_
 refine aY ?_
 revert H;refine bs fun y11 h13 H=>?_
 refine Tc (aHQ _ _ _ h13) ?_
 revert H;refine B1 fun y12 h14 H=>?_
 apply bJ (ods:=[_,_,_,_]) 4 0 5 bI rfl rfl rfl
 refine ND ?_
 refine M3 ?_
 intros
 refine N_callT (od:=odC [0] true (fSl tI y12) [cS]) (Φ:=fSl tI y12) (p:=0) rfl (fun _=>rfl) a1Z rfl rfl rfl (has rfl) (aJ.cons (has rfl) aJ.nil) rfl (cb rfl) (aG0 v5 y11 y12 h14) (fun _=>?_)
 refine Z1 ?_
 refine aY ?_
 refine gL (k:=x4) (y:=y12) a1Z (.inl rfl) rfl (has rfl) (has rfl) rfl (has rfl) rfl sV ?_
 refine Z3 ?_
 refine aE [4,0] (by decide) ?_
 exact Tm (aL.upd x5 x4 y12) (ij H)
 exact fk
 kernel_rfl
 clear H;intro x6 hi;subst o2;have H:=Hr2;clear Hr2;try dsimp only at H
 try dsimp only
 revert H;refine B1 fun z3 h15 H=>?_
 refine Z3 ?_
 exact Tm ((k1,z3,x6)) ⟨H,ls⟩
 refine Z6 ?_
 exact Tm (x5) (ij H)
 clear H;intro x1 hi;subst o1;have H:=Hr1;clear Hr1;try dsimp only at H
 try dsimp only
 revert H;refine B5 fun y13 h16 H=>?_
 refine Z2 ?_
 refine cL ?_
 refine gL (k:=(-1)) (y:=y13) a1Z (.inl rfl) rfl (has rfl) (has rfl) rfl (has rfl) rfl sV ?_
 refine Z7 ?_
 refine cB (φ:=kP cH (fun y=>fSl tI y) (aL.upd x1 (-1) y13)) (v:= .map (some b4)) [8,90,96,2] aFM fz ?_
 refine bZ ?_
 cases H
 refine aE [] (by decide) ?_
 exact vA rfl (cC rfl) (cC rfl) rfl
def aAg (a0:List ByteArray):Option (List ByteArray):=
 (cQ (([]:List ByteArray)++a0)).bind fun z1=>
 some z1
theorem aH3  (a0:List ByteArray) (r:List ByteArray) (H:aAg a0=some r):FnS Tryz.prog 23 [fSl aD a0] [] (fSl aD r) (fun _=>[]):=by
 unfold aAg at H
 refine bD Tryz.func23 rfl Tryz.ntmps23 rfl (fun β=>?_)
 refine Z3 ?_
 refine aI ?_
 refine Z2 ?_
 refine Yy (zY rfl hh (us rfl)) ?_
 refine Z1 ?_
 refine aA6 (has rfl) (fun hx=>?_) ?_
 replace H:some []=some r:=by subst hx;exact H
 refine Z4 ?_
 cases H
 exact fG rfl (iI rfl dF) rfl
 refine Z3 ?_
 refine Tn (eJ (t:=aD) (xs:=([]:List ByteArray)) rfl (et rfl) bM.nil rfl rfl rfl) fun b1=>?_
 generalize (Value.slice (some ⟨b1,0,none⟩) _ _)=v1
 refine aK 0 rfl (fun hc_v1=>?_)
 revert H;refine B1 fun z1 h1 H=>?_
 refine gU (ys:=a0) a1Z rfl rfl rfl (has rfl) (has rfl) (et rfl) rfl h1 (fun v2=>?_)
 refine aK 0 rfl (fun hc_v2=>?_)
 refine Z3 ?_
 refine cB (φ:=fSl aD z1) (v:=v2) [2,7] cZ fz ?_
 refine bZ ?_
 cases H
 exact To
def iW (a0:List Int):Option (List Int):=
 (cQ (([]:List Int)++a0)).bind fun z1=>
 some z1
theorem aF6  (a0:List Int) (r:List Int) (H:iW a0=some r):FnS Tryz.prog 24 [fSl tI a0] [] dZ (fun v=>[(fun v=>aC v 3 tI r) v]):=by
 unfold iW at H
 refine bD Tryz.func24 rfl Tryz.ntmps24 rfl (fun β=>?_)
 refine Z3 ?_
 refine aI ?_
 refine Z2 ?_
 refine Yy (zY rfl hh (us rfl)) ?_
 refine Z1 ?_
 refine aA6 (has rfl) (fun hx=>?_) ?_
 replace H:some ([]:List Int)=some r:=by subst hx;exact H
 refine Z4 ?_
 refine eZ tI 3 ?_
 cases H
 exact T_outO rfl (cC rfl) (fun _ _ _=>trivial) rfl
 refine Z3 ?_
 refine Tn (eJ (t:=tI) (xs:=([]:List Int)) rfl (et rfl) bM.nil rfl rfl rfl) fun b1=>?_
 generalize (Value.slice (some ⟨b1,0,none⟩) _ _)=v1
 refine aK 0 rfl (fun hc_v1=>?_)
 revert H;refine B1 fun z1 h1 H=>?_
 refine gU (ys:=a0) a1Z rfl rfl rfl (has rfl) (has rfl) (et rfl) rfl h1 (fun v2=>?_)
 refine aK 0 rfl (fun hc_v2=>?_)
 refine Z3 ?_
 cases H
 exact T_outO rfl (cC rfl) (fun _ _ _=>trivial) rfl
theorem aAl  (a0:List Int) (r:List Int) (H:iW a0=some r):FnS Tryz.prog 24 [fSl tI a0] [] (fSl tI r) (fun _=>[]):=(aF6 a0 r H).frz (fun v=>cZ)
def zN (a0:List Al):Option (List Al):=
 (cQ (([]:List Al)++a0)).bind fun z1=>
 some z1
theorem aIr  (a0:List Al) (r:List Al) (H:zN a0=some r):FnS Tryz.prog 58 [fSl aS a0] [] (fSl aS r) (fun _=>[]):=by
 unfold zN at H
 refine bD Tryz.func58 rfl Tryz.ntmps58 rfl (fun β=>?_)
 refine Z3 ?_
 refine aI ?_
 refine Z2 ?_
 refine Yy (zY rfl hh (us rfl)) ?_
 refine Z1 ?_
 refine aA6 (has rfl) (fun hx=>?_) ?_
 replace H:some []=some r:=by subst hx;exact H
 refine Z4 ?_
 cases H
 exact fG rfl (iI rfl dF) rfl
 refine Z3 ?_
 refine Tn (eJ (t:=aS) (xs:=([]:List Al)) rfl (et rfl) bM.nil rfl rfl rfl) fun b1=>?_
 generalize (Value.slice (some ⟨b1,0,none⟩) _ _)=v1
 refine aK 0 rfl (fun hc_v1=>?_)
 revert H;refine B1 fun z1 h1 H=>?_
 refine gU (ys:=a0) a1Z rfl rfl rfl (has rfl) (has rfl) (et rfl) rfl h1 (fun v2=>?_)
 refine aK 0 rfl (fun hc_v2=>?_)
 refine Z3 ?_
 refine cB (φ:=fSl aS z1) (v:=v2) [2,7] cZ fz ?_
 refine bZ ?_
 cases H
 exact To
def zI (a0:List Aj):Option (List Aj):=
 (cQ (([]:List Aj)++a0)).bind fun z1=>
 some z1
theorem aGN  (a0:List Aj) (r:List Aj) (H:zI a0=some r):FnS Tryz.prog 59 [fSl aV a0] [] (fSl aV r) (fun _=>[]):=by
 unfold zI at H
 refine bD Tryz.func59 rfl Tryz.ntmps59 rfl (fun β=>?_)
 refine Z3 ?_
 refine aI ?_
 refine Z2 ?_
 refine Yy (zY rfl hh (us rfl)) ?_
 refine Z1 ?_
 refine aA6 (has rfl) (fun hx=>?_) ?_
 replace H:some []=some r:=by subst hx;exact H
 refine Z4 ?_
 cases H
 exact fG rfl (iI rfl dF) rfl
 refine Z3 ?_
 refine Tn (eJ (t:=aV) (xs:=([]:List Aj)) rfl (et rfl) bM.nil rfl rfl rfl) fun b1=>?_
 generalize (Value.slice (some ⟨b1,0,none⟩) _ _)=v1
 refine aK 0 rfl (fun hc_v1=>?_)
 revert H;refine B1 fun z1 h1 H=>?_
 refine gU (ys:=a0) a1Z rfl rfl rfl (has rfl) (has rfl) (et rfl) rfl h1 (fun v2=>?_)
 refine aK 0 rfl (fun hc_v2=>?_)
 refine Z3 ?_
 refine cB (φ:=fSl aV z1) (v:=v2) [2,7] cZ fz ?_
 refine bZ ?_
 cases H
 exact To
def nJ (y1:AM):Nat->Int->(List Af)->Option (List Af)
| 0,_,_=>none
| k+1,x10,x11=>
 if x10<(y1.AL.length:Int)then
  (idx y1.AL x10).bind fun y4=>
  (iW y4.AU).bind fun y5=>
  (cQ (x11++[(⟨y4.At,y5,y4.AQ⟩:Af)])).bind fun z1=>
  (chk (x10+1)).bind fun z2=>
  nJ y1 k z2 z1
 else
  some x11
def nT (AA:Nat) (a0:List AM):Nat->(List AM)->Int->Option (List AM)
| 0,_,_=>none
| k+1,x4,x5=>
 if x5<(a0.length:Int)then
  ((idx a0 x5).bind fun y1=>
  (zN y1.AK).bind fun y2=>
  (zI y1.AO).bind fun y3=>
  (nJ y1 AA 0 []).bind fun x7=>
  (cQ (x4++[(⟨y2,y3,x7⟩:AM)])).bind fun z3=>
  some z3).bind fun x6=>
  (chk (x5+1)).bind fun z4=>
  nT AA a0 k x6 z4
 else
  some x4
def wP (AA:Nat) (a0:List AM):Option (List AM):=
 (nT AA a0 AA [] 0).bind fun x1=>
 some x1
theorem aH2 (AA:Nat)  (a0:List AM) (r:List AM) (H:wP AA a0=some r):FnS Tryz.prog 25 [fSl aB a0] [] (fSl aB r) (fun _=>[]):=by
 unfold wP at H
 refine bD Tryz.func25 rfl Tryz.ntmps25 rfl (fun β=>?_)
 revert H;refine B6 fun o1 H Hr1=>?_
 refine aP (ι:=List AM × Value) (fun i=>o1=i.1) (fun i=>[(3,fEq i.2)]) (fun i=>[aC i.2 77 aB i.1]) ?_ ?_
 refine Z6 ?_
 refine eZ aB 77 ?_
 refine Tl (ι:=Nat × List AM × Int × Value) (fun i=>nT AA a0 i.1 i.2.1 i.2.2.1=_) (fun i=>i.1) (fun i=>[(3,fEq i.2.2.2),(9,fSl aB a0),(10,fI (a0.length:Int)),(11,fI i.2.2.1)]) (fun i=>[aC i.2.2.2 77 aB i.2.1]) (AA,[],0,(.slice none 0 0)) H ?_
 clear H;rintro⟨k1,x4,x5,v3⟩ H
 replace H:nT AA a0 k1 x4 x5=_:=H
 try dsimp only
 obtain _ | k1:=k1
 rw [nT]at H;cases H
 rw [nT]at H
 refine aK 0 rfl (fun hc_v3=>?_)
 refine Z3 ?_
 refine aI ?_
 revert H;refine is (fun c1 H=>?_) fun c1 H=>?_
 revert H;refine B3 fun o2 H Hr2=>?_
 refine aP (ι:=List AM × Value) (fun i=>o2=i.1) (fun i=>[(9,fSl aB a0),(10,fI (a0.length:Int)),(11,fI x5),(3,fEq i.2)]) (fun i=>[aC i.2 77 aB i.1]) ?_ ?_
 revert H;refine B2 fun y1 h1 H=>?_
 refine Z2 ?_
 refine Tn (bP rfl qL rfl) fun b1=>?_
 refine cT (φs':=[fSl aS y1.AK,fSl aV y1.AO,fSl aU y1.AL]) a1Z rfl rfl (has rfl) (has rfl) (aG (aT) (aG (aT) (aG (aT) bH))) (sz rfl) rfl rfl rfl ?_
 refine Z1 ?_
 refine aI ?_
 revert H;refine bs fun y2 h2 H=>?_
 revert H;refine bs fun y3 h3 H=>?_
 apply bJ (ods:=[_,_,_,_,_,_,_,_,_]) 9 1 3 bI rfl rfl rfl
 refine ND ?_
 refine M2 ?_
 intros
 refine Nc (aIr _ _ h2) fun _=>?_
 refine M2 ?_
 intros
 refine Nc (aGN _ _ h3) fun _=>?_
 refine My (gQ (ψs:=[fSl aS y2,fSl aV y3,fEq (.slice none 0 0)]) rfl aFC rfl (bS.cons (has rfl) (cF (aT)) (bS.cons (has rfl) (cF (aT)) bS.nil)) rfl) fun _=>?_
 refine Mn 2 (fun b2=>ptr b2) (fun b2=>aA b2 77 [fEq (.slice none 0 0),fEq (.slice none 0 0),fEq (.slice none 0 0)]) rfl (bP rfl qL rfl) (fun b2 u1=>?_)
 refine nZ (od:=od1 7 [2] true (fun b2 _=>dZ) (fun b2 _=>[aA b2 77 [fSl aS y2,fSl aV y3,fEq (.slice none 0 0)]])) (p:=2) (φs':=[fSl aS y2,fSl aV y3,fEq (.slice none 0 0)]) rfl (fun _=>rfl) (fun _=>rfl) a1Z rfl rfl rfl (has rfl) (has rfl) (aG (aT) (aG (aT) (aG (aH a1Z) bH))) (sz rfl) rfl rfl rfl (fun _=>?_)
 revert H;refine B2 fun o3 H Hr3=>?_
 refine aP (ι:=List Af × Value) (fun i=>o3=i.1) (fun i=>[(3,fEq v3),(9,fSl aB a0),(10,fI (a0.length:Int)),(11,fI x5),(6,fEq (ptr b2))]) (fun i=>[aA b1 77 [fSl aS y1.AK,fSl aV y1.AO,fSl aU y1.AL],aA b2 77 [fSl aS y2,fSl aV y3,fEq i.2],aC v3 77 aB x4,aC i.2 81 aU i.1]) ?_ ?_
 refine Z7 ?_
 refine eZ aU 81 ?_
 refine aE [1,3,2,0] (by decide) ?_
 refine Tl (ι:=Nat × Int × List Af × Value) (fun i=>nJ y1 i.1 i.2.1 i.2.2.1=_) (fun i=>i.1) (fun i=>[(3,fEq v3),(9,fSl aB a0),(10,fI (a0.length:Int)),(11,fI x5),(6,fEq (ptr b2)),(23,fSl aU y1.AL),(24,fI (y1.AL.length:Int)),(25,fI i.2.1)]) (fun i=>[aA b1 77 [fSl aS y1.AK,fSl aV y1.AO,fSl aU y1.AL],aA b2 77 [fSl aS y2,fSl aV y3,fEq i.2.2.2],aC v3 77 aB x4,aC i.2.2.2 81 aU i.2.2.1]) (AA,0,[],(.slice none 0 0)) H ?_
 clear H;rintro⟨k2,x10,x11,v7⟩ H
 replace H:nJ y1 k2 x10 x11=_:=H
 try dsimp only
 obtain _ | k2:=k2
 rw [nJ]at H;cases H
 rw [nJ]at H
 refine aK 3 rfl (fun hc_v7=>?_)
 refine Z3 ?_
 refine aI ?_
 revert H;refine is (fun c2 H=>?_) fun c2 H=>?_
 refine Z3 ?_
 refine aI ?_
 revert H;refine B2 fun y4 h4 H=>?_
 refine Z2 ?_
 refine Tn (bP rfl rE rfl) fun b3=>?_
 refine cT (φs':=[fI y4.At,fSl tI y4.AU,fI y4.AQ]) a1Z rfl rfl (has rfl) (has rfl) (aG (aH a1Z) (aG (aT) (aG (aH a1Z) bH))) (sz rfl) rfl rfl rfl ?_
 revert H;refine B4 fun y5 h5 H=>?_
 refine gF a1Z rfl rfl rfl hh (aJ.cons hh aJ.nil) rfl (cb rfl) (aAl y4.AU y5 h5) rfl ?_
 refine Z1 ?_
 refine bX (φs':=[fI y4.At,fSl tI y5,fI y4.AQ]) a1Z rfl rfl (has rfl) (has rfl) (aT) (sz rfl) rfl rfl ?_
 refine Z5 ?_
 refine Tn (eJ (t:=aU) (xs:=[(⟨y4.At,y5,y4.AQ⟩:Af)]) rfl (et rfl) (bM.cons rfl hh bO bM.nil) rfl rfl rfl) fun b4=>?_
 generalize (Value.slice (some ⟨b4,0,none⟩) _ _)=v8
 refine aK 0 rfl (fun hc_v8=>?_)
 revert H;refine bs fun z1 h6 H=>?_
 refine iJ ?_
 refine cL ?_
 refine gO a1Z rfl rfl rfl (has rfl) (has rfl) (et rfl) rfl h6 (fun v9=>?_)
 refine aK 0 rfl (fun hc_v9=>?_)
 refine Z1 ?_
 refine cV ?_
 refine bX (φs':=[fSl aS y2,fSl aV y3,fEq v9]) a1Z rfl rfl (has rfl) (has rfl) (aH hc_v9) (sz rfl) rfl rfl ?_
 revert H;refine B4 fun z2 h7 H=>?_
 refine Z3 ?_
 refine aE [3,0,4,1] (by decide) ?_
 exact Tm ((k2,z2,z1,v9)) ⟨H,ls⟩
 refine Z6 ?_
 exact Tm ((x11,v7)) (ij H)
 clear H;intro i hi;obtain⟨x7,v5⟩:=i;subst o3;have H:=Hr3;clear Hr3;try dsimp only at H
 try dsimp only
 refine aK 3 rfl (fun hc_v5=>?_)
 refine Z3 ?_
 refine cV ?_
 refine cB (φ:=fSl aU x7) (v:=v5) [] cZ (fun _ h=>nomatch h) ?_
 refine cW ?_
 refine cL ?_
 refine eV (φs':=[fSl aS y2,fSl aV y3,fSl aU x7]) (i:=2) rfl rfl ?_
 refine oS 41 (ψ:=eE [fSl aS y2,fSl aV y3,fEq v5]) rfl (mZ (i:=2) (φs:=[fSl aS y2,fSl aV y3,fEq v5]) (φs':=[fSl aS y2,fSl aV y3,fSl aU x7]) rfl rfl) ?_
 refine bZ ?_
 refine Tn (eJ (t:=aB) (xs:=[(⟨y2,y3,x7⟩:AM)]) rfl (et rfl) (bM.cons rfl hh bO bM.nil) rfl rfl rfl) fun b5=>?_
 generalize (Value.slice (some ⟨b5,0,none⟩) _ _)=v10
 refine aK 0 rfl (fun hc_v10=>?_)
 revert H;refine bs fun z3 h8 H=>?_
 refine cV ?_
 refine cL ?_
 refine gO a1Z rfl rfl rfl (has rfl) (has rfl) (et rfl) rfl h8 (fun v11=>?_)
 refine aK 0 rfl (fun hc_v11=>?_)
 refine Z4 ?_
 refine aE [0] (by decide) ?_
 exact Tm ((z3,v11)) (ij H)
 exact fk
 kernel_rfl
 clear H;intro i hi;obtain⟨x6,v4⟩:=i;subst o2;have H:=Hr2;clear Hr2;try dsimp only at H
 try dsimp only
 refine aK 0 rfl (fun hc_v4=>?_)
 revert H;refine B1 fun z4 h9 H=>?_
 refine Z3 ?_
 exact Tm ((k1,x6,z4,v4)) ⟨H,ls⟩
 refine Z6 ?_
 exact Tm ((x4,v3)) (ij H)
 clear H;intro i hi;obtain⟨x1,v1⟩:=i;subst o1;have H:=Hr1;clear Hr1;try dsimp only at H
 try dsimp only
 refine aK 0 rfl (fun hc_v1=>?_)
 refine Z5 ?_
 refine cB (φ:=fSl aB x1) (v:=v1) [3,45,2] cZ fz ?_
 refine bZ ?_
 cases H
 exact To
def tO (a0:Int):Option (Bool):=
 (if a0=4 then
  some true
 else
  if a0=6 then
   some true
  else
   if a0=7 then
    some true
   else
    some (decide (a0=8))).bind fun x1=>
 some x1
theorem aJe  (a0:Int) (r:Bool) (H:tO a0=some r):FnS Tryz.prog 27 [fI a0] [] (aM r) (fun _=>[]):=by
 unfold tO at H
 refine bD Tryz.func27 rfl Tryz.ntmps27 rfl (fun β=>?_)
 revert H;refine B3 fun o1 H Hr1=>?_
 refine aP (ι:=Bool) (fun i=>o1=i) (fun i=>[(2,aM i)]) (fun i=>[]) ?_ ?_
 revert H;refine I4 (fun c1 H=>?_) fun c1 H=>?_
 refine Z12 ?_
 refine Z1 ?_
 exact Tm (true) (ij H)
 revert H;refine I4 (fun c2 H=>?_) fun c2 H=>?_
 refine Z9 ?_
 exact Tm (true) (ij H)
 revert H;refine I4 (fun c3 H=>?_) fun c3 H=>?_
 refine Z5 ?_
 exact Tm (true) (ij H)
 refine Z5 ?_
 exact Tm (decide (a0=8)) (ij H)
 clear H;intro x1 hi;subst o1;have H:=Hr1;clear Hr1;try dsimp only at H
 try dsimp only
 refine Z1 ?_
 cases H
 exact To
def jQ (a0:List Int) (a1:Int):Nat->Int->Option ((Unit) ⊕ (Int))
| 0,_=>none
| k+1,x2=>
 if x2<(a0.length:Int)then
  (idx a0 x2).bind fun y1=>
  if a1=y1 then
   (some x2).bind fun r=>some (Sum.inr r)
  else
   (chk (x2+1)).bind fun z1=>
   jQ a0 a1 k z1
 else
  some (Sum.inl ())
def kO (AA:Nat) (a0:List Int) (a1:Int):Option (Int):=
 (jQ a0 a1 AA 0).bind fun o=>match o with
 | Sum.inr r=>some r
 | Sum.inl _=>
 some (-1)
theorem aA3 (AA:Nat)  (a0:List Int) (a1:Int) (r:Int) (H:kO AA a0 a1=some r):FnS Tryz.prog 29 [fSl tI a0,fI a1] [] (fI r) (fun _=>[]):=by
 unfold kO at H
 refine bD Tryz.func29 rfl Tryz.ntmps29 rfl (fun β=>?_)
 revert H;refine B3 fun o1 H Hr1=>?_
 refine aP (ι:=Unit) (fun i=>o1=Sum.inl ()) (fun i=>[]) (fun i=>[]) ?_ ?_
 refine Z6 ?_
 refine Tl (ι:=Nat × Int) (fun i=>jQ a0 a1 i.1 i.2=_) (fun i=>i.1) (fun i=>[(1,fI a1),(7,fSl tI a0),(8,fI (a0.length:Int)),(9,fI i.2)]) (fun i=>[]) (AA,0) H ?_
 clear H;rintro⟨k1,x2⟩ H
 replace H:jQ a0 a1 k1 x2=_:=H
 try dsimp only
 obtain _ | k1:=k1
 rw [jQ]at H;cases H
 rw [jQ]at H
 refine Z3 ?_
 refine aI ?_
 revert H;refine is (fun c1 H=>?_) fun c1 H=>?_
 refine Z3 ?_
 refine aI ?_
 revert H;refine B3 fun y1 h1 H=>?_
 revert H;refine I10 (fun c2 H=>?_) fun c2 H=>?_
 revert H;refine B11 fun r1 H e1=>?_
 cases e1;cases Hr1
 cases H
 exact To
 revert H;refine B5 fun z1 h2 H=>?_
 refine Z3 ?_
 exact Tm ((k1,z1)) ⟨H,ls⟩
 refine Z6 ?_
 exact Tm (()) (ij H)
 clear H;intro i hi;subst o1;have H:=Hr1;clear Hr1;try dsimp only at H
 try dsimp only
 refine Z4 ?_
 cases H
 exact To
def kK (AA:Nat) (a0:List Int) (a1:List Int):Nat->(List Int)->Int->Option (List Int)
| 0,_,_=>none
| k+1,x4,x5=>
 if x5<(a1.length:Int)then
  (idx a1 x5).bind fun y1=>
  (kO AA a0 y1).bind fun y2=>
  (cQ (x4++[y2])).bind fun z1=>
  (chk (x5+1)).bind fun z2=>
  kK AA a0 a1 k z1 z2
 else
  some x4
def tA (AA:Nat) (a0:List Int) (a1:List Int):Option (List Int):=
 (kK AA a0 a1 AA [] 0).bind fun x1=>
 some x1
theorem aI2 (AA:Nat)  (a0:List Int) (a1:List Int) (r:List Int) (H:tA AA a0 a1=some r):FnS Tryz.prog 28 [fSl tI a0,fSl tI a1] [] (fSl tI r) (fun _=>[]):=by
 unfold tA at H
 refine bD Tryz.func28 rfl Tryz.ntmps28 rfl (fun β=>?_)
 revert H;refine B6 fun o1 H Hr1=>?_
 refine aP (ι:=List Int × Value) (fun i=>o1=i.1) (fun i=>[(5,fEq i.2)]) (fun i=>[aC i.2 3 tI i.1]) ?_ ?_
 refine Z6 ?_
 refine eZ tI 3 ?_
 refine Tl (ι:=Nat × List Int × Int × Value) (fun i=>kK AA a0 a1 i.1 i.2.1 i.2.2.1=_) (fun i=>i.1) (fun i=>[(0,fSl tI a0),(5,fEq i.2.2.2),(8,fSl tI a1),(9,fI (a1.length:Int)),(10,fI i.2.2.1)]) (fun i=>[aC i.2.2.2 3 tI i.2.1]) (AA,[],0,(.slice none 0 0)) H ?_
 clear H;rintro⟨k1,x4,x5,v3⟩ H
 replace H:kK AA a0 a1 k1 x4 x5=_:=H
 try dsimp only
 obtain _ | k1:=k1
 rw [kK]at H;cases H
 rw [kK]at H
 refine aK 0 rfl (fun hc_v3=>?_)
 refine Z3 ?_
 refine aI ?_
 revert H;refine is (fun c1 H=>?_) fun c1 H=>?_
 refine Z3 ?_
 refine aI ?_
 revert H;refine B2 fun y1 h1 H=>?_
 revert H;refine B8 fun y2 h2 H=>?_
 refine Tc (aA3 _ _ _ _ h2) ?_
 refine Tn (eJ (t:=tI) (xs:=[y2]) rfl (et rfl) (bM.cons rfl (has rfl) (cF (aH a1Z)) bM.nil) rfl rfl rfl) fun b1=>?_
 generalize (Value.slice (some ⟨b1,0,none⟩) _ _)=v4
 refine aK 0 rfl (fun hc_v4=>?_)
 revert H;refine bs fun z1 h3 H=>?_
 refine gO a1Z rfl rfl rfl (has rfl) (has rfl) (et rfl) rfl h3 (fun v5=>?_)
 refine aK 0 rfl (fun hc_v5=>?_)
 revert H;refine B5 fun z2 h4 H=>?_
 refine Z3 ?_
 exact Tm ((k1,z1,z2,v5)) ⟨H,ls⟩
 refine Z6 ?_
 exact Tm ((x4,v3)) (ij H)
 clear H;intro i hi;obtain⟨x1,v1⟩:=i;subst o1;have H:=Hr1;clear Hr1;try dsimp only at H
 try dsimp only
 refine aK 0 rfl (fun hc_v1=>?_)
 refine Z5 ?_
 refine cB (φ:=fSl tI x1) (v:=v1) [5,21,4] cZ fz ?_
 refine bZ ?_
 cases H
 exact To
open Go.SX Go.SW Go.Dt
def kU (rec_flat_flatExp:AR->(List Int)->Option (AR)) (a0:AR) (a1:List Int):Nat->Int->(List AR)->Option (List AR)
| 0,_,_=>none
| k+1,x5,x6=>
 if x5<(a0.AN.length:Int)then
  (idx a0.AN x5).bind fun y2=>
  (rec_flat_flatExp (⟨y2.Op,y2.N,y2.AN⟩:AR) a1).bind fun y3=>
  (cQ (x6++[y3])).bind fun z1=>
  (chk (x5+1)).bind fun z2=>
  kU rec_flat_flatExp a0 a1 k z2 z1
 else
  some x6
def jX:Nat->AR->(List Int)->Option (AR)
| 0,_,_=>none
| AA+1,a0,a1=>
 (if a0.Op=2 then
  (kO AA a1 a0.N).bind fun y1=>
  some y1
 else
  some a0.N).bind fun x1=>
 (kU (jX AA) a0 a1 AA 0 []).bind fun x2=>
 some (⟨a0.Op,x1,x2⟩:AR)
theorem aHg:∀ (AA:Nat),(∀  (a0:AR) (a1:List Int) (r:AR) (H:jX AA a0 a1=some r),FnS Tryz.prog 30 [fSt aO a0,fSl tI a1] [] (fSt aO r) (fun _=>[])):=by
 intro AA
 induction AA with
 | zero=>exact fun a0 a1 r H=>(by rw [jX]at H;cases H)
 | succ AA ih=>
 have ih_flat_flatExp:=@ih
 refine ?_
 intro a0 a1 r H
 rw [jX]at H
 refine bD Tryz.func30 rfl Tryz.ntmps30 rfl (fun β=>?_)
 refine Z1 ?_
 refine Tn (bR rfl hh bO) fun b1=>?_
 refine Tn (bP rfl mW rfl) fun b2=>?_
 refine Z6 ?_
 refine Yy (gQ (ψs:=[fI a0.Op,fI a0.N,fEq (.slice none 0 0)]) rfl ty_bu_71 rfl (bS.cons (has rfl) (cF (aH a1Z)) (bS.cons (has rfl) (cF (aH a1Z)) bS.nil)) rfl) ?_
 refine Tn (bP rfl mW rfl) fun b3=>?_
 refine cT (φs':=[fI a0.Op,fI a0.N,fEq (.slice none 0 0)]) a1Z rfl rfl (has rfl) (has rfl) (aG (aH a1Z) (aG (aH a1Z) (aG (aH a1Z) bH))) (sz rfl) rfl rfl rfl ?_
 revert H;refine B1 fun o1 H Hr1=>?_
 refine aP (ι:=Int) (fun i=>o1=i) (fun i=>[(1,fSl tI a1),(2,fEq (ptr b1)),(4,fEq (ptr b2)),(5,fEq (ptr b3))]) (fun i=>[aA b3 71 [fI a0.Op,fI i,fEq (.slice none 0 0)],aA b2 71 [fI 0,fI 0,fEq (.slice none 0 0)],aA b1 71 [fI a0.Op,fI a0.N,dD a0.AN]]) ?_ ?_
 revert H;refine I5 (fun c1 H=>?_) fun c1 H=>?_
 revert H;refine B5 fun y1 h1 H=>?_
 refine Tc (aA3 _ _ _ _ h1) ?_
 refine Z1 ?_
 refine bX (φs':=[fI a0.Op,fI y1,fEq (.slice none 0 0)]) a1Z rfl rfl (has rfl) (has rfl) (aH a1Z) (sz rfl) rfl rfl ?_
 refine Z1 ?_
 exact Tm (y1) (ij H)
 refine Z3 ?_
 exact Tm (a0.N) (ij H)
 clear H;intro x1 hi;subst o1;have H:=Hr1;clear Hr1;try dsimp only at H
 try dsimp only
 revert H;refine bs fun o2 H Hr2=>?_
 refine aP (ι:=List AR × Value) (fun i=>o2=i.1) (fun i=>[(4,fEq (ptr b2)),(5,fEq (ptr b3))]) (fun i=>[aA b3 71 [fI a0.Op,fI x1,fEq i.2],aA b2 71 [fI 0,fI 0,fEq (.slice none 0 0)],aA b1 71 [fI a0.Op,fI a0.N,dD a0.AN],aC i.2 71 aO i.1]) ?_ ?_
 refine Z2 ?_
 refine Yo 2 rfl (bA rfl hh (sc rfl) rfl (eQ eG)) ?_
 refine Z4 ?_
 refine eZ aO 71 ?_
 refine aE [1,2,3,0] (by decide) ?_
 refine Tl (ι:=Nat × Int × List AR × Value) (fun i=>kU (jX AA) a0 a1 i.1 i.2.1 i.2.2.1=_) (fun i=>i.1) (fun i=>[(1,fSl tI a1),(4,fEq (ptr b2)),(5,fEq (ptr b3)),(22,fSl aO a0.AN),(23,fI (a0.AN.length:Int)),(24,fI i.2.1)]) (fun i=>[aA b3 71 [fI a0.Op,fI x1,fEq i.2.2.2],aA b2 71 [fI 0,fI 0,fEq (.slice none 0 0)],aA b1 71 [fI a0.Op,fI a0.N,dD a0.AN],aC i.2.2.2 71 aO i.2.2.1]) (AA,0,[],(.slice none 0 0)) H ?_
 clear H;rintro⟨k1,x5,x6,v3⟩ H
 replace H:kU (jX AA) a0 a1 k1 x5 x6=_:=H
 try dsimp only
 obtain _ | k1:=k1
 rw [kU]at H;cases H
 rw [kU]at H
 refine aK 3 rfl (fun hc_v3=>?_)
 refine Z3 ?_
 refine aI ?_
 revert H;refine is (fun c2 H=>?_) fun c2 H=>?_
 refine Z3 ?_
 refine aI ?_
 revert H;refine B2 fun y2 h2 H=>?_
 refine Z2 ?_
 refine Tn (bP rfl mW rfl) fun b4=>?_
 refine cT (φs':=[fI y2.Op,fI y2.N,dD y2.AN]) a1Z rfl rfl (has rfl) (has rfl) (aG (aH a1Z) (aG (aH a1Z) (aG (sR) bH))) (sz rfl) rfl rfl rfl ?_
 revert H;refine B1 fun y3 h3 H=>?_
 apply bJ (ods:=[_,_,_,_,_,_]) 6 0 5 bI rfl rfl rfl
 refine ND ?_
 refine M4 ?_
 intros
 refine Nc (ih_flat_flatExp _ _ _ h3) fun _=>?_
 refine Mf (φ:=fSl aO [y3]) (eJ (t:=aO) (xs:=[y3]) rfl (et rfl) (bM.cons rfl (has rfl) bO bM.nil) rfl rfl rfl) (fun b=>cZ) fun _=>?_
 revert H;refine B1 fun z1 h4 H=>?_
 refine aY ?_
 refine gU (ys:=[y3]) a1Z rfl rfl rfl (has rfl) (has rfl) (et rfl) rfl h4 (fun v5=>?_)
 refine aK 0 rfl (fun hc_v5=>?_)
 refine Z1 ?_
 refine cW ?_
 refine bX (φs':=[fI a0.Op,fI x1,fEq v5]) a1Z rfl rfl (has rfl) (has rfl) (aH hc_v5) (sz rfl) rfl rfl ?_
 revert H;refine B4 fun z2 h5 H=>?_
 refine Z3 ?_
 refine aE [0,3,4,1] (by decide) ?_
 exact Tm ((k1,z2,z1,v5)) ⟨H,ls⟩
 exact fk
 kernel_rfl
 refine Z6 ?_
 exact Tm ((x6,v3)) (ij H)
 clear H;intro i hi;obtain⟨x2,v1⟩:=i;subst o2;have H:=Hr2;clear Hr2;try dsimp only at H
 try dsimp only
 refine aK 3 rfl (fun hc_v1=>?_)
 refine Z2 ?_
 refine cL ?_
 refine cT (φs':=[fI a0.Op,fI x1,fEq v1]) a1Z rfl rfl (has rfl) (has rfl) (aG (aH a1Z) (aG (aH a1Z) (aG (aH hc_v1) bH))) (sz rfl) rfl rfl rfl ?_
 refine Z2 ?_
 refine cV ?_
 refine cB (φ:=fSl aO x2) (v:=v1) [] cZ (fun _ h=>nomatch h) ?_
 refine cW ?_
 refine cL ?_
 refine eV (φs':=[fI a0.Op,fI x1,fSl aO x2]) (i:=2) rfl rfl ?_
 refine cW ?_
 refine cL ?_
 refine eV (φs':=[fI a0.Op,fI x1,fSl aO x2]) (i:=2) rfl rfl ?_
 refine oS 37 (ψ:=eE [fI a0.Op,fI x1,fEq v1]) rfl (mZ (i:=2) (φs:=[fI a0.Op,fI x1,fEq v1]) (φs':=[fI a0.Op,fI x1,fSl aO x2]) rfl rfl) ?_
 refine bZ ?_
 cases H
 refine aE [0] (by decide) ?_
 exact aFn rfl (ag rfl) rfl (cC rfl) (aBb (aQ.cons Ent.rfl (aQ.cons Ent.rfl (aQ.cons (aFe .rfl) aQ.nil)))) rfl
def lU (a0:Int) (a1:Int):Nat->(List Int)->Int->Option (List Int)
| 0,_,_=>none
| k+1,x4,x5=>
 if x5<a1 then
  (chk (a0+x5)).bind fun z1=>
  (cQ (x4++[z1])).bind fun z2=>
  (chk (x5+1)).bind fun z3=>
  lU a0 a1 k z2 z3
 else
  some x4
def uH (AA:Nat) (a0:Int) (a1:Int):Option (List Int):=
 (lU a0 a1 AA [] 0).bind fun x1=>
 some x1
theorem aDm (AA:Nat)  (a0:Int) (a1:Int) (r:List Int) (H:uH AA a0 a1=some r):FnS Tryz.prog 31 [fI a0,fI a1] [] (fSl tI r) (fun _=>[]):=by
 unfold uH at H
 refine bD Tryz.func31 rfl Tryz.ntmps31 rfl (fun β=>?_)
 revert H;refine B6 fun o1 H Hr1=>?_
 refine aP (ι:=List Int × Value) (fun i=>o1=i.1) (fun i=>[(5,fEq i.2)]) (fun i=>[aC i.2 3 tI i.1]) ?_ ?_
 refine Z5 ?_
 refine eZ tI 3 ?_
 refine Tl (ι:=Nat × List Int × Int × Value) (fun i=>lU a0 a1 i.1 i.2.1 i.2.2.1=_) (fun i=>i.1) (fun i=>[(0,fI a0),(5,fEq i.2.2.2),(7,fI a1),(8,fI i.2.2.1)]) (fun i=>[aC i.2.2.2 3 tI i.2.1]) (AA,[],0,(.slice none 0 0)) H ?_
 clear H;rintro⟨k1,x4,x5,v3⟩ H
 replace H:lU a0 a1 k1 x4 x5=_:=H
 try dsimp only
 obtain _ | k1:=k1
 rw [lU]at H;cases H
 rw [lU]at H
 refine aK 0 rfl (fun hc_v3=>?_)
 refine Z3 ?_
 refine aI ?_
 revert H;refine is (fun c1 H=>?_) fun c1 H=>?_
 refine Z3 ?_
 refine aI ?_
 revert H;refine B9 fun z1 h1 H=>?_
 refine Z1 ?_
 refine Tn (eJ (t:=tI) (xs:=[z1]) rfl (et rfl) (bM.cons rfl (has rfl) (cF (aH a1Z)) bM.nil) rfl rfl rfl) fun b1=>?_
 generalize (Value.slice (some ⟨b1,0,none⟩) _ _)=v4
 refine aK 0 rfl (fun hc_v4=>?_)
 revert H;refine bs fun z2 h2 H=>?_
 refine gO a1Z rfl rfl rfl (has rfl) (has rfl) (et rfl) rfl h2 (fun v5=>?_)
 refine aK 0 rfl (fun hc_v5=>?_)
 revert H;refine B5 fun z3 h3 H=>?_
 refine Z3 ?_
 exact Tm ((k1,z2,z3,v5)) ⟨H,ls⟩
 refine Z6 ?_
 exact Tm ((x4,v3)) (ij H)
 clear H;intro i hi;obtain⟨x1,v1⟩:=i;subst o1;have H:=Hr1;clear Hr1;try dsimp only at H
 try dsimp only
 refine aK 0 rfl (fun hc_v1=>?_)
 refine Z5 ?_
 refine cB (φ:=fSl tI x1) (v:=v1) [5,18,4] cZ fz ?_
 refine bZ ?_
 cases H
 exact To
def sG (a0:List Int) (a1:List Int):Option (List Int):=
 (iW a0).bind fun y1=>
 (cQ (y1++a1)).bind fun z1=>
 some z1
theorem aCf  (a0:List Int) (a1:List Int) (r:List Int) (H:sG a0 a1=some r):FnS Tryz.prog 32 [fSl tI a0,fSl tI a1] [] (fSl tI r) (fun _=>[]):=by
 unfold sG at H
 refine bD Tryz.func32 rfl Tryz.ntmps32 rfl (fun β=>?_)
 revert H;refine B5 fun y1 h1 H=>?_
 refine T_callO a1Z rfl rfl rfl (has rfl) (aJ.cons (has rfl) aJ.nil) rfl (cb rfl) (aF6 a0 y1 h1) (Δi:=[]) rfl (fun v1=>?_)
 dsimp only [List.append,_root_.List.cons_append,_root_.List.nil_append]
 refine aK 0 rfl (fun hc_v1=>?_)
 revert H;refine B1 fun z1 h2 H=>?_
 refine gU (ys:=a1) a1Z rfl rfl rfl (has rfl) (has rfl) (et rfl) rfl h2 (fun v2=>?_)
 refine aK 0 rfl (fun hc_v2=>?_)
 refine Z3 ?_
 refine cB (φ:=fSl tI z1) (v:=v2) [4,8] cZ fz ?_
 refine bZ ?_
 cases H
 exact To
def kL (a0:AM) (a1:Af):Nat->Int->Int->Option ((Int) ⊕ (Int))
| 0,_,_=>none
| k+1,x4,x5=>
 if x5<(a1.AU.length:Int)then
  (idx a1.AU x5).bind fun y1=>
  if y1<0 then
   (some (-1)).bind fun r=>some (Sum.inr r)
  else
   if (a0.AK.length:Int)<=y1 then
    (some (-1)).bind fun r=>some (Sum.inr r)
   else
    (idx a0.AK y1).bind fun y2=>
    if y2.Ak<0 then
     (some (-1)).bind fun r=>some (Sum.inr r)
    else
     (idx a0.AK y1).bind fun y3=>
     if 3<y3.Ak then
      (some (-1)).bind fun r=>some (Sum.inr r)
     else
      (idx a0.AK y1).bind fun y4=>
      (chk (x4+y4.Ak)).bind fun z1=>
      (chk (x5+1)).bind fun z2=>
      kL a0 a1 k z1 z2
 else
  some (Sum.inl x4)
def rT (AA:Nat) (a0:AM) (a1:Af):Option (Int):=
 (kL a0 a1 AA 0 0).bind fun o=>match o with
 | Sum.inr r=>some r
 | Sum.inl x1=>
 some x1
theorem aHS (AA:Nat)  (a0:AM) (a1:Af) (r:Int) (H:rT AA a0 a1=some r):FnS Tryz.prog 33 [fSt aB a0,fSt aU a1] [] (fI r) (fun _=>[]):=by
 unfold rT at H
 refine bD Tryz.func33 rfl Tryz.ntmps33 rfl (fun β=>?_)
 refine Z1 ?_
 refine Tn (bR rfl hh bO) fun b1=>?_
 refine Tn (bR rfl hh bO) fun b2=>?_
 revert H;refine B5 fun o1 H Hr1=>?_
 refine aP (ι:=Int) (fun i=>o1=Sum.inl i) (fun i=>[(5,fI i)]) (fun i=>[aA b2 81 [fI a1.At,fSl tI a1.AU,fI a1.AQ],aA b1 77 [fSl aS a0.AK,fSl aV a0.AO,fSl aU a0.AL]]) ?_ ?_
 refine Z7 ?_
 refine Tl (ι:=Nat × Int × Int) (fun i=>kL a0 a1 i.1 i.2.1 i.2.2=_) (fun i=>i.1) (fun i=>[(2,fEq (ptr b1)),(5,fI i.2.1),(9,fSl tI a1.AU),(10,fI (a1.AU.length:Int)),(11,fI i.2.2)]) (fun i=>[aA b2 81 [fI a1.At,fSl tI a1.AU,fI a1.AQ],aA b1 77 [fSl aS a0.AK,fSl aV a0.AO,fSl aU a0.AL]]) (AA,0,0) H ?_
 clear H;rintro⟨k1,x4,x5⟩ H
 replace H:kL a0 a1 k1 x4 x5=_:=H
 try dsimp only
 obtain _ | k1:=k1
 rw [kL]at H;cases H
 rw [kL]at H
 refine Z3 ?_
 refine aI ?_
 revert H;refine is (fun c1 H=>?_) fun c1 H=>?_
 refine Z3 ?_
 refine aI ?_
 revert H;refine B2 fun y1 h1 H=>?_
 refine Z4 ?_
 refine aI ?_
 revert H;refine I4 (fun c2 H=>?_) fun c2 H=>?_
 refine Z12 ?_
 refine Z12 ?_
 revert H;refine B11 fun r1 H e1=>?_
 cases e1;cases Hr1
 cases H
 refine aE [] (by decide) ?_
 exact To
 revert H;refine I7 (fun c3 H=>?_) fun c3 H=>?_
 refine Z12 ?_
 refine Z12 ?_
 revert H;refine B4 fun r2 H e2=>?_
 cases e2;cases Hr1
 cases H
 refine aE [] (by decide) ?_
 exact To
 revert H;refine B3 fun y2 h2 H=>?_
 revert H;refine I6 (fun c4 H=>?_) fun c4 H=>?_
 refine Z12 ?_
 revert H;refine B7 fun r3 H e3=>?_
 cases e3;cases Hr1
 cases H
 refine aE [] (by decide) ?_
 exact To
 revert H;refine B3 fun y3 h3 H=>?_
 revert H;refine I6 (fun c5 H=>?_) fun c5 H=>?_
 revert H;refine B10 fun r4 H e4=>?_
 cases e4;cases Hr1
 cases H
 refine aE [] (by decide) ?_
 exact To
 revert H;refine B8 fun y4 h4 H=>?_
 revert H;refine B3 fun z1 h5 H=>?_
 revert H;refine B6 fun z2 h6 H=>?_
 refine Z3 ?_
 exact Tm ((k1,z1,z2)) ⟨H,ls⟩
 refine Z6 ?_
 exact Tm (x4) (ij H)
 clear H;intro x1 hi;subst o1;have H:=Hr1;clear Hr1;try dsimp only at H
 try dsimp only
 refine Z5 ?_
 cases H
 refine aE [] (by decide) ?_
 exact To
open Go.SX Go.SW Go.Dt
def nR (AA:Nat) (a1:List Int) (y1:AW):Nat->Int->(List AR)->Option (List AR)
| 0,_,_=>none
| k+1,x8,x9=>
 if x8<(y1.AS.length:Int)then
  (idx y1.AS x8).bind fun y8=>
  (jX AA (⟨y8.Op,y8.N,y8.AN⟩:AR) a1).bind fun y9=>
  (cQ (x9++[y9])).bind fun z1=>
  (chk (x8+1)).bind fun z2=>
  nR AA a1 y1 k z2 z1
 else
  some x9
def nX (AA:Nat) (rec_flat_Flat_1:Int->(List Int)->AI->(aL Int (List Int))->Ad->(List Int)->Option (Ad)) (a0:Int) (w0:AI) (w1:aL Int (List Int)) (w3:List Int) (y11:AM) (y13:List Int) (y14:List Int):Nat->Int->(List ByteArray)->(List Int)->(List Ae)->(List AM)->Int->Option (List ByteArray × List Int × List Ae × List AM × Int)
| 0,_,_,_,_,_,_=>none
| k+1,x27,x28,x29,x30,x31,x32=>
 if x27<(y11.AL.length:Int)then
  (idx y11.AL x27).bind fun y15=>
  (idx w3 a0).bind fun y16=>
  (chk (y16+(y13.length:Int))).bind fun z4=>
  (rT AA (⟨y11.AK,y11.AO,y11.AL⟩:AM) (⟨y15.At,y15.AU,y15.AQ⟩:Af)).bind fun y17=>
  (uH AA z4 y17).bind fun y18=>
  (sG y14 y18).bind fun y19=>
  (rec_flat_Flat_1 y15.AQ y19 w0 w1 (⟨x28,x29,x30,x31,x32⟩:Ad) w3).bind fun y20=>
  (chk (x27+1)).bind fun z5=>
  nX AA rec_flat_Flat_1 a0 w0 w1 w3 y11 y13 y14 k z5 y20.AF y20.Ab y20.AD y20.AE y20.AG
 else
  some (x28,x29,x30,x31,x32)
def pN (rec_flat_Flat_1:Int->(List Int)->AI->(aL Int (List Int))->Ad->(List Int)->Option (Ad)) (w0:AI) (w1:aL Int (List Int)) (w3:List Int) (y11:AM) (y14:List Int):Nat->Int->(List ByteArray)->(List Int)->(List Ae)->(List AM)->Int->Option (List ByteArray × List Int × List Ae × List AM × Int)
| 0,_,_,_,_,_,_=>none
| k+1,x44,x45,x46,x47,x48,x49=>
 if x44<(y11.AO.length:Int)then
  (idx y11.AO x44).bind fun y21=>
  (rec_flat_Flat_1 y21.AQ y14 w0 w1 (⟨x45,x46,x47,x48,x49⟩:Ad) w3).bind fun y22=>
  (chk (x44+1)).bind fun z6=>
  pN rec_flat_Flat_1 w0 w1 w3 y11 y14 k z6 y22.AF y22.Ab y22.AD y22.AE y22.AG
 else
  some (x45,x46,x47,x48,x49)
def nH (rec_flat_Flat_1:Int->(List Int)->AI->(aL Int (List Int))->Ad->(List Int)->Option (Ad)) (w0:AI) (w1:aL Int (List Int)) (w3:List Int) (y1:AW) (x10:List Int):Nat->Int->(List ByteArray)->(List Int)->(List Ae)->(List AM)->Int->Option (Ad)
| 0,_,_,_,_,_,_=>none
| k+1,x56,x57,x58,x59,x60,x61=>
 if x56<(y1.AN.length:Int)then
  (idx y1.AN x56).bind fun y24=>
  (rec_flat_Flat_1 y24 x10 w0 w1 (⟨x57,x58,x59,x60,x61⟩:Ad) w3).bind fun y25=>
  (chk (x56+1)).bind fun z7=>
  nH rec_flat_Flat_1 w0 w1 w3 y1 x10 k z7 y25.AF y25.Ab y25.AD y25.AE y25.AG
 else
  some (⟨x57,x58,x59,x60,x61⟩:Ad)
def fJ:Nat->Int->(List Int)->AI->(aL Int (List Int))->Ad->(List Int)->Option (Ad)
| 0,_,_,_,_,_,_=>none
| AA+1,a0,a1,w0,w1,w2,w3=>
 (idx w0.AD a0).bind fun y1=>
 (iW y1.AN).bind fun y2=>
 ((tO y1.Op).bind fun y3=>
 bif y3 then
  (tA AA a1 ((w1.get a0).getD [])).bind fun y4=>
  some y4
 else
  some []).bind fun x1=>
 ((if y1.Op=6 then
  some (decide (y1.Op=6))
 else
  some (decide (y1.Op=8))).bind fun x4=>
 bif x4 then
  (iW ((w1.get a0).getD [])).bind fun y5=>
  (kO AA y5 y1.N).bind fun y6=>
  some (y5,y6)
 else
  if y1.Op=2 then
   (kO AA a1 y1.N).bind fun y7=>
   some (a1,y7)
  else
   some (a1,y1.N)).bind fun (x2,x3)=>
 (nR AA a1 y1 AA 0 []).bind fun x5=>
 (idx w2.AD a0).bind fun y10=>
 (if y1.Op=4 then
  (idx w0.AE y1.N).bind fun y11=>
  (idx w3 a0).bind fun y12=>
  (chk ((y11.AK.length:Int)+(y11.AO.length:Int))).bind fun z3=>
  (uH AA y12 z3).bind fun y13=>
  (sG ((w1.get a0).getD []) y13).bind fun y14=>
  (nX AA (fJ AA) a0 w0 w1 w3 y11 y13 y14 AA 0 w2.AF w2.Ab (w2.AD.set a0.toNat (⟨y1.Op,x3,x5,y2,x1⟩:Ae)) w2.AE w2.AG).bind fun (x16,x17,x18,x19,x20)=>
  (pN (fJ AA) w0 w1 w3 y11 y14 AA 0 x16 x17 x18 x19 x20).bind fun (x33,x34,x35,x36,x37)=>
  (sG a1 y13).bind fun y23=>
  some (y23,x33,x34,x35,x36,x37)
 else
  some (x2,w2.AF,w2.Ab,w2.AD.set a0.toNat (⟨y1.Op,x3,x5,y2,x1⟩:Ae),w2.AE,w2.AG)).bind fun (x10,x11,x12,x13,x14,x15)=>
 nH (fJ AA) w0 w1 w3 y1 x10 AA 0 x11 x12 x13 x14 x15
theorem aJj:∀ (AA:Nat),(∀ (q2:Nat) (q4:Nat) (a0:Int) (a1:List Int) (w0:AI) (w1:aL Int (List Int)) (w2:Ad) (w3:List Int) (r:Ad) (H:fJ AA a0 a1 w0 w1 w2 w3=some r),FnS Tryz.prog 26 [fI a0,fSl tI a1,aF cK w0,aF (fH cH (fun y=>fSl tI y)) w1,fEq (.pointer (some ⟨q2,0,none⟩)),aF (tSl tI) w3,fEq (.pointer (some ⟨q4,0,none⟩))] [tE q2 w2,aA q4 63 [cD 26 [aF cK w0,aF (fH cH (fun y=>fSl tI y)) w1,fEq (.pointer (some ⟨q2,0,none⟩)),aF (tSl tI) w3,fEq (.pointer (some ⟨q4,0,none⟩))]]] (dK []) (fun _=>[tE q2 r,aA q4 63 [cD 26 [aF cK w0,aF (fH cH (fun y=>fSl tI y)) w1,fEq (.pointer (some ⟨q2,0,none⟩)),aF (tSl tI) w3,fEq (.pointer (some ⟨q4,0,none⟩))]]])):=by
 intro AA
 induction AA with
 | zero=>exact fun q2 q4 a0 a1 w0 w1 w2 w3 r H=>(by rw [fJ]at H;cases H)
 | succ AA ih=>
 have ih_flat_Flat_1:=@ih
 refine ?_
 intro q2 q4 a0 a1 w0 w1 w2 w3 r H
 rw [fJ]at H
 refine bD Tryz.func26 rfl Tryz.ntmps26 rfl (fun β=>?_)
 refine mS (fun v1=>?_)
 refine aK 1 rfl (fun hc_v1=>?_)
 revert H;refine B4 fun y1 h1 H=>?_
 refine Z2 ?_
 refine Tn (bP rfl mG rfl) fun b1=>?_
 refine cT (φs':=[fI y1.Op,fI y1.N,fSl aO y1.AS,fSl tI y1.AN]) a1Z rfl rfl (has rfl) (has rfl) (aG (aH a1Z) (aG (aH a1Z) (aG (aT) (aG (aT) bH)))) (sz rfl) rfl rfl rfl ?_
 refine Z1 ?_
 refine aI ?_
 revert H;refine bs fun y2 h2 H=>?_
 apply bJ (ods:=[_,_,_,_,_,_,_,_,_,_]) 10 1 5 bI rfl rfl rfl
 refine ND ?_
 refine M6 ?_
 intros
 refine pQ (od:=odC [] true (fSl tI y2) []) (Φ:=fSl tI y2) rfl (fun _=>rfl) a1Z rfl rfl (has rfl) (aJ.cons (has rfl) aJ.nil) rfl (cb rfl) (aAl y1.AN y2 h2) (fun _=>?_)
 refine My (gQ (ψs:=[fI y1.Op,fI y1.N,fEq (.slice none 0 0),fSl tI y2,fEq (.slice none 0 0)]) rfl aD3 rfl (bS.cons (has rfl) (cF (aH a1Z)) (bS.cons (has rfl) (cF (aH a1Z)) (bS.cons (has rfl) (cF (aT)) bS.nil))) rfl) fun _=>?_
 refine Mn 4 (fun b2=>ptr b2) (fun b2=>aA b2 54 [fI 0,fI 0,fEq (.slice none 0 0),fEq (.slice none 0 0),fEq (.slice none 0 0)]) rfl (bP rfl vE rfl) (fun b2 u1=>?_)
 refine nZ (od:=od1 8 [4] true (fun b2 _=>dZ) (fun b2 _=>[aA b2 54 [fI y1.Op,fI y1.N,fEq (.slice none 0 0),fSl tI y2,fEq (.slice none 0 0)]])) (p:=4) (φs':=[fI y1.Op,fI y1.N,fEq (.slice none 0 0),fSl tI y2,fEq (.slice none 0 0)]) rfl (fun _=>rfl) (fun _=>rfl) a1Z rfl rfl rfl (has rfl) (has rfl) (aG (aH a1Z) (aG (aH a1Z) (aG (aH a1Z) (aG (aT) (aG (aH a1Z) bH))))) (sz rfl) rfl rfl rfl (fun _=>?_)
 revert H;refine B6 fun o1 H Hr1=>?_
 refine aP (ι:=List Int) (fun i=>o1=i) (fun i=>[(0,fI a0),(1,fSl tI a1),(2,aF cK w0),(3,aF (fH cH (fun y=>fSl tI y)) w1),(4,fEq (ptr q2)),(5,aF (tSl tI) w3),(6,fEq (ptr q4)),(9,fEq (ptr b1)),(10,fEq (ptr b2)),(11,fSl tI a1)]) (fun i=>[aA b2 54 [fI y1.Op,fI y1.N,fEq (.slice none 0 0),fSl tI y2,fSl tI i],aA b1 65 [fI y1.Op,fI y1.N,fSl aO y1.AS,fSl tI y1.AN],aA q2 30 [fSl aD w2.AF,fSl tI w2.Ab,fEq v1,fSl aB w2.AE,fI w2.AG],aA q4 63 [cD 26 [aF cK w0,aF (fH cH (fun y=>fSl tI y)) w1,fEq (ptr q2),aF (tSl tI) w3,fEq (ptr q4)]],aC v1 54 cE w2.AD]) ?_ ?_
 revert H;refine B3 fun y3 h3 H=>?_
 refine Tc (aJe _ _ h3) ?_
 refine Z1 ?_
 revert H;refine cs (fun c1 H=>?_) fun c1 H=>?_
 refine Z5 ?_
 refine Yy (xY (zα:=[]) (k:=a0) rfl hh hh rfl sV dF) ?_
 revert H;refine bs fun y4 h4 H=>?_
 refine Tc (aI2 _ _ _ _ h4) ?_
 refine Z1 ?_
 refine aY ?_
 refine bX (φs':=[fI y1.Op,fI y1.N,fEq (.slice none 0 0),fSl tI y2,fSl tI y4]) a1Z rfl rfl (has rfl) (has rfl) (aT) (sz rfl) rfl rfl ?_
 refine Z1 ?_
 refine aE [0,1,2,4,3] (by decide) ?_
 exact Tm (y4) (ij H)
 refine Z3 ?_
 refine aY ?_
 refine aBp (ψs:=[fI y1.Op,fI y1.N,fEq (.slice none 0 0),fSl tI y2,fSl tI []]) (aQ.cons Ent.rfl (aQ.cons Ent.rfl (aQ.cons Ent.rfl (aQ.cons Ent.rfl (aQ.cons dF aQ.nil))))) ?_
 refine aE [0,1,2,4,3] (by decide) ?_
 exact Tm ([]) (ij H)
 clear H;intro x1 hi;subst o1;have H:=Hr1;clear Hr1;try dsimp only at H
 try dsimp only
 revert H;refine bs fun o2 H Hr2=>?_
 refine aP (ι:=List Int × Int) (fun i=>o2=(i.1,i.2)) (fun i=>[(0,fI a0),(1,fSl tI a1),(2,aF cK w0),(3,aF (fH cH (fun y=>fSl tI y)) w1),(4,fEq (ptr q2)),(5,aF (tSl tI) w3),(6,fEq (ptr q4)),(9,fEq (ptr b1)),(10,fEq (ptr b2)),(11,fSl tI i.1)]) (fun i=>[aA b2 54 [fI y1.Op,fI i.2,fEq (.slice none 0 0),fSl tI y2,fSl tI x1],aA b1 65 [fI y1.Op,fI y1.N,fSl aO y1.AS,fSl tI y1.AN],aA q2 30 [fSl aD w2.AF,fSl tI w2.Ab,fEq v1,fSl aB w2.AE,fI w2.AG],aA q4 63 [cD 26 [aF cK w0,aF (fH cH (fun y=>fSl tI y)) w1,fEq (ptr q2),aF (tSl tI) w3,fEq (ptr q4)]],aC v1 54 cE w2.AD]) ?_ ?_
 revert H;refine B5 fun o3 H Hr3=>?_
 refine aP (ι:=Bool) (fun i=>o3=i) (fun i=>[(0,fI a0),(1,fSl tI a1),(2,aF cK w0),(3,aF (fH cH (fun y=>fSl tI y)) w1),(4,fEq (ptr q2)),(5,aF (tSl tI) w3),(6,fEq (ptr q4)),(9,fEq (ptr b1)),(10,fEq (ptr b2)),(11,fSl tI a1),(47,fI y1.Op),(48,aM i)]) (fun i=>[aA b2 54 [fI y1.Op,fI y1.N,fEq (.slice none 0 0),fSl tI y2,fSl tI x1],aA b1 65 [fI y1.Op,fI y1.N,fSl aO y1.AS,fSl tI y1.AN],aA q2 30 [fSl aD w2.AF,fSl tI w2.Ab,fEq v1,fSl aB w2.AE,fI w2.AG],aA q4 63 [cD 26 [aF cK w0,aF (fH cH (fun y=>fSl tI y)) w1,fEq (ptr q2),aF (tSl tI) w3,fEq (ptr q4)]],aC v1 54 cE w2.AD]) ?_ ?_
 revert H;refine I4 (fun c2 H=>?_) fun c2 H=>?_
 refine Z3 ?_
 exact Tm (decide (y1.Op=6)) (ij H)
 refine Z5 ?_
 exact Tm (decide (y1.Op=8)) (ij H)
 clear H;intro x4 hi;subst o3;have H:=Hr3;clear Hr3;try dsimp only at H
 try dsimp only
 revert H;refine cs (fun c3 H=>?_) fun c3 H=>?_
 refine Z4 ?_
 refine Yy (xY (zα:=[]) (k:=a0) rfl hh hh rfl sV dF) ?_
 revert H;refine bs fun y5 h5 H=>?_
 refine gF a1Z rfl rfl rfl hh (aJ.cons hh aJ.nil) rfl (cb rfl) (aAl ((w1.get a0).getD []) y5 h5) rfl ?_
 revert H;refine B6 fun y6 h6 H=>?_
 refine Tc (aA3 _ _ _ _ h6) ?_
 refine Z1 ?_
 refine bX (φs':=[fI y1.Op,fI y6,fEq (.slice none 0 0),fSl tI y2,fSl tI x1]) a1Z rfl rfl (has rfl) (has rfl) (aH a1Z) (sz rfl) rfl rfl ?_
 refine Z3 ?_
 exact Tm ((y5,y6)) (ij H)
 revert H;refine I5 (fun c4 H=>?_) fun c4 H=>?_
 revert H;refine B5 fun y7 h7 H=>?_
 refine Tc (aA3 _ _ _ _ h7) ?_
 refine Z1 ?_
 refine bX (φs':=[fI y1.Op,fI y7,fEq (.slice none 0 0),fSl tI y2,fSl tI x1]) a1Z rfl rfl (has rfl) (has rfl) (aH a1Z) (sz rfl) rfl rfl ?_
 refine Z3 ?_
 exact Tm ((a1,y7)) (ij H)
 refine Z4 ?_
 exact Tm ((a1,y1.N)) (ij H)
 clear H;intro i hi;obtain⟨x2,x3⟩:=i;subst o2;have H:=Hr2;clear Hr2;try dsimp only at H
 try dsimp only
 revert H;refine bs fun o4 H Hr4=>?_
 refine aP (ι:=List AR × Value) (fun i=>o4=i.1) (fun i=>[(0,fI a0),(1,fSl tI a1),(2,aF cK w0),(3,aF (fH cH (fun y=>fSl tI y)) w1),(4,fEq (ptr q2)),(5,aF (tSl tI) w3),(6,fEq (ptr q4)),(9,fEq (ptr b1)),(10,fEq (ptr b2)),(11,fSl tI x2)]) (fun i=>[aA b2 54 [fI y1.Op,fI x3,fEq i.2,fSl tI y2,fSl tI x1],aA b1 65 [fI y1.Op,fI y1.N,fSl aO y1.AS,fSl tI y1.AN],aA q2 30 [fSl aD w2.AF,fSl tI w2.Ab,fEq v1,fSl aB w2.AE,fI w2.AG],aA q4 63 [cD 26 [aF cK w0,aF (fH cH (fun y=>fSl tI y)) w1,fEq (ptr q2),aF (tSl tI) w3,fEq (ptr q4)]],aC i.2 71 aO i.1,aC v1 54 cE w2.AD]) ?_ ?_
 refine Z7 ?_
 refine eZ aO 71 ?_
 refine aE [1,2,3,4,0,5] (by decide) ?_
 refine Tl (ι:=Nat × Int × List AR × Value) (fun i=>nR AA a1 y1 i.1 i.2.1 i.2.2.1=_) (fun i=>i.1) (fun i=>[(0,fI a0),(1,fSl tI a1),(2,aF cK w0),(3,aF (fH cH (fun y=>fSl tI y)) w1),(4,fEq (ptr q2)),(5,aF (tSl tI) w3),(6,fEq (ptr q4)),(9,fEq (ptr b1)),(10,fEq (ptr b2)),(11,fSl tI x2),(68,fSl aO y1.AS),(69,fI (y1.AS.length:Int)),(70,fI i.2.1)]) (fun i=>[aA b2 54 [fI y1.Op,fI x3,fEq i.2.2.2,fSl tI y2,fSl tI x1],aA b1 65 [fI y1.Op,fI y1.N,fSl aO y1.AS,fSl tI y1.AN],aA q2 30 [fSl aD w2.AF,fSl tI w2.Ab,fEq v1,fSl aB w2.AE,fI w2.AG],aA q4 63 [cD 26 [aF cK w0,aF (fH cH (fun y=>fSl tI y)) w1,fEq (ptr q2),aF (tSl tI) w3,fEq (ptr q4)]],aC i.2.2.2 71 aO i.2.2.1,aC v1 54 cE w2.AD]) (AA,0,[],(.slice none 0 0)) H ?_
 clear H;rintro⟨k1,x8,x9,v4⟩ H
 replace H:nR AA a1 y1 k1 x8 x9=_:=H
 try dsimp only
 obtain _ | k1:=k1
 rw [nR]at H;cases H
 rw [nR]at H
 refine aK 4 rfl (fun hc_v4=>?_)
 refine Z3 ?_
 refine aI ?_
 revert H;refine is (fun c5 H=>?_) fun c5 H=>?_
 refine Z3 ?_
 refine aI ?_
 revert H;refine B2 fun y8 h8 H=>?_
 refine Z2 ?_
 refine Tn (bP rfl mW rfl) fun b3=>?_
 refine cT (φs':=[fI y8.Op,fI y8.N,dD y8.AN]) a1Z rfl rfl (has rfl) (has rfl) (aG (aH a1Z) (aG (aH a1Z) (aG (sR) bH))) (sz rfl) rfl rfl rfl ?_
 revert H;refine B1 fun y9 h9 H=>?_
 apply bJ (ods:=[_,_,_,_,_,_]) 6 0 7 bI rfl rfl rfl
 refine ND ?_
 refine M4 ?_
 intros
 refine Nc (aHg _ _ _ _ h9) fun _=>?_
 refine Mf (φ:=fSl aO [y9]) (eJ (t:=aO) (xs:=[y9]) rfl (et rfl) (bM.cons rfl (has rfl) bO bM.nil) rfl rfl rfl) (fun b=>cZ) fun _=>?_
 revert H;refine B1 fun z1 h10 H=>?_
 refine iJ ?_
 refine gU (ys:=[y9]) a1Z rfl rfl rfl (has rfl) (has rfl) (et rfl) rfl h10 (fun v6=>?_)
 refine aK 0 rfl (fun hc_v6=>?_)
 refine Z1 ?_
 refine cW ?_
 refine bX (φs':=[fI y1.Op,fI x3,fEq v6,fSl tI y2,fSl tI x1]) a1Z rfl rfl (has rfl) (has rfl) (aH hc_v6) (sz rfl) rfl rfl ?_
 revert H;refine B4 fun z2 h11 H=>?_
 refine Z3 ?_
 refine aE [0,3,4,5,1,6] (by decide) ?_
 exact Tm ((k1,z2,z1,v6)) ⟨H,ls⟩
 exact fk
 kernel_rfl
 refine Z6 ?_
 exact Tm ((x9,v4)) (ij H)
 clear H;intro i hi;obtain⟨x5,v2⟩:=i;subst o4;have H:=Hr4;clear Hr4;try dsimp only at H
 try dsimp only
 refine aK 4 rfl (fun hc_v2=>?_)
 revert H;refine B5 fun y10 h12 H=>?_
 refine Z1 ?_
 refine aY ?_
 refine cB (φ:=fSl aO x5) (v:=v2) [] cZ (fun _ h=>nomatch h) ?_
 refine eV (φs':=[fI y1.Op,fI x3,fSl aO x5,fSl tI y2,fSl tI x1]) (i:=2) rfl rfl ?_
 refine oS 86 (ψ:=eE [fI y1.Op,fI x3,fEq v2,fSl tI y2,fSl tI x1]) rfl (mZ (i:=2) (φs:=[fI y1.Op,fI x3,fEq v2,fSl tI y2,fSl tI x1]) (φs':=[fI y1.Op,fI x3,fSl aO x5,fSl tI y2,fSl tI x1]) rfl rfl) ?_
 refine bZ ?_
 refine aY ?_
 refine aFG (z:=(⟨y1.Op,x3,x5,y2,x1⟩:Ae)) a1Z rfl rfl rfl (has rfl) (has rfl) (sz rfl) (a0K.1 (eW h12)).1 ?_
 revert H;refine B1 fun o5 H Hr5=>?_
 refine aP (ι:=List Int × List ByteArray × List Int × List Ae × List AM × Int × Value) (fun i=>o5=(i.1,i.2.1,i.2.2.1,i.2.2.2.1,i.2.2.2.2.1,i.2.2.2.2.2.1)) (fun i=>[(4,fEq (ptr q2)),(6,fEq (ptr q4)),(9,fEq (ptr b1)),(11,fSl tI i.1)]) (fun i=>[aA b2 54 [fI y1.Op,fI x3,fSl aO x5,fSl tI y2,fSl tI x1],aA b1 65 [fI y1.Op,fI y1.N,fSl aO y1.AS,fSl tI y1.AN],aA q2 30 [fSl aD i.2.1,fSl tI i.2.2.1,fEq i.2.2.2.2.2.2,fSl aB i.2.2.2.2.1,fI i.2.2.2.2.2.1],aA q4 63 [cD 26 [aF cK w0,aF (fH cH (fun y=>fSl tI y)) w1,fEq (ptr q2),aF (tSl tI) w3,fEq (ptr q4)]],aC i.2.2.2.2.2.2 54 cE i.2.2.2.1]) ?_ ?_
 revert H;refine I5 (fun c6 H=>?_) fun c6 H=>?_
 revert H;refine B6 fun y11 h13 H=>?_
 refine Z2 ?_
 refine Tn (bP rfl qL rfl) fun b5=>?_
 refine cT (φs':=[fSl aS y11.AK,fSl aV y11.AO,fSl aU y11.AL]) a1Z rfl rfl (has rfl) (has rfl) (aG (aT) (aG (aT) (aG (aT) bH))) (sz rfl) rfl rfl rfl ?_
 refine Z1 ?_
 refine aI ?_
 revert H;refine bs fun y12 h14 H=>?_
 revert H;refine bs fun z3 h15 H=>?_
 revert H;refine bs fun y13 h16 H=>?_
 apply bJ (ods:=[_,_,_,_,_,_,_,_,_,_,_,_,_]) 13 0 6 bI rfl rfl rfl
 refine ND ?_
 refine M8 ?_
 intros
 refine M3 ?_
 intros
 refine Nc (aDm _ _ _ _ h16) fun _=>?_
 refine M1 ?_
 intros
 refine Z5 ?_
 refine Yy (xY (zα:=[]) (k:=a0) rfl hh hh rfl sV dF) ?_
 revert H;refine B1 fun y14 h17 H=>?_
 refine Tc (aCf _ _ _ h17) ?_
 revert H;refine B2 fun o6 H Hr6=>?_
 refine aP (ι:=List ByteArray × List Int × List Ae × List AM × Int × Value) (fun i=>o6=(i.1,i.2.1,i.2.2.1,i.2.2.2.1,i.2.2.2.2.1)) (fun i=>[(1,fSl tI a1),(4,fEq (ptr q2)),(6,fEq (ptr q4)),(9,fEq (ptr b1)),(14,fEq (ptr b5)),(15,fSl tI y13),(16,fSl tI y14)]) (fun i=>[aA b5 77 [fSl aS y11.AK,fSl aV y11.AO,fSl aU y11.AL],aA b2 54 [fI y1.Op,fI x3,fSl aO x5,fSl tI y2,fSl tI x1],aA b1 65 [fI y1.Op,fI y1.N,fSl aO y1.AS,fSl tI y1.AN],aA q2 30 [fSl aD i.1,fSl tI i.2.1,fEq i.2.2.2.2.2,fSl aB i.2.2.2.1,fI i.2.2.2.2.1],aA q4 63 [cD 26 [aF cK w0,aF (fH cH (fun y=>fSl tI y)) w1,fEq (ptr q2),aF (tSl tI) w3,fEq (ptr q4)]],aC i.2.2.2.2.2 54 cE i.2.2.1]) ?_ ?_
 refine Z7 ?_
 refine aE [0,2,3,4,5,1] (by decide) ?_
 refine Tl (ι:=Nat × Int × List ByteArray × List Int × List Ae × List AM × Int × Value) (fun i=>nX AA (fJ AA) a0 w0 w1 w3 y11 y13 y14 i.1 i.2.1 i.2.2.1 i.2.2.2.1 i.2.2.2.2.1 i.2.2.2.2.2.1 i.2.2.2.2.2.2.1=_) (fun i=>i.1) (fun i=>[(0,fI a0),(1,fSl tI a1),(4,fEq (ptr q2)),(5,aF (tSl tI) w3),(6,fEq (ptr q4)),(9,fEq (ptr b1)),(14,fEq (ptr b5)),(15,fSl tI y13),(16,fSl tI y14),(115,fSl aU y11.AL),(116,fI (y11.AL.length:Int)),(117,fI i.2.1)]) (fun i=>[aA b5 77 [fSl aS y11.AK,fSl aV y11.AO,fSl aU y11.AL],aA b2 54 [fI y1.Op,fI x3,fSl aO x5,fSl tI y2,fSl tI x1],aA b1 65 [fI y1.Op,fI y1.N,fSl aO y1.AS,fSl tI y1.AN],aA q2 30 [fSl aD i.2.2.1,fSl tI i.2.2.2.1,fEq i.2.2.2.2.2.2.2,fSl aB i.2.2.2.2.2.1,fI i.2.2.2.2.2.2.1],aA q4 63 [cD 26 [aF cK w0,aF (fH cH (fun y=>fSl tI y)) w1,fEq (ptr q2),aF (tSl tI) w3,fEq (ptr q4)]],aC i.2.2.2.2.2.2.2 54 cE i.2.2.2.2.1]) (AA,0,w2.AF,w2.Ab,w2.AD.set a0.toNat (⟨y1.Op,x3,x5,y2,x1⟩:Ae),w2.AE,w2.AG,v1) H ?_
 clear H;rintro⟨k2,x27,x28,x29,x30,x31,x32,v10⟩ H
 replace H:nX AA (fJ AA) a0 w0 w1 w3 y11 y13 y14 k2 x27 x28 x29 x30 x31 x32=_:=H
 try dsimp only
 obtain _ | k2:=k2
 rw [nX]at H;cases H
 rw [nX]at H
 refine aK 5 rfl (fun hc_v10=>?_)
 refine Z3 ?_
 refine aI ?_
 revert H;refine is (fun c7 H=>?_) fun c7 H=>?_
 refine Z3 ?_
 refine aI ?_
 revert H;refine B2 fun y15 h18 H=>?_
 refine Z2 ?_
 refine Tn (bP rfl rE rfl) fun b6=>?_
 refine cT (φs':=[fI y15.At,fSl tI y15.AU,fI y15.AQ]) a1Z rfl rfl (has rfl) (has rfl) (aG (aH a1Z) (aG (aT) (aG (aH a1Z) bH))) (sz rfl) rfl rfl rfl ?_
 revert H;refine B1 fun y16 h19 H=>?_
 revert H;refine bs fun z4 h20 H=>?_
 revert H;refine bs fun y17 h21 H=>?_
 revert H;refine bs fun y18 h22 H=>?_
 revert H;refine bs fun y19 h23 H=>?_
 apply bJ (ods:=[_,_,_,_,_,_,_,_,_,_,_,_,_,_,_,_]) 16 0 7 bI rfl rfl rfl
 refine ND ?_
 refine M8 ?_
 intros
 refine M5 ?_
 intros
 refine Nc (aHS _ _ _ _ h21) fun _=>?_
 refine Nc (aDm _ _ _ _ h22) fun _=>?_
 refine Nc (aCf _ _ _ h23) fun _=>?_
 refine Z1 ?_
 refine mE ?_
 refine iJ ?_
 refine mK (x:=(⟨x28,x29,x30,x31,x32⟩:Ad)) ?_
 refine iJ ?_
 refine cL ?_
 revert H;refine bs fun y20 h24 H=>?_
 refine iB a1Z rfl rfl rfl (has rfl) (aJ.cons (has rfl) (aJ.cons (has rfl) aJ.nil)) rfl (cb rfl) (ih_flat_Flat_1 q2 q4 y15.AQ y19 w0 w1 (⟨x28,x29,x30,x31,x32⟩:Ad) w3 y20 h24) rfl ?_
 refine mS (fun v11=>?_)
 refine aK 1 rfl (fun hc_v11=>?_)
 revert H;refine B4 fun z5 h25 H=>?_
 refine Z3 ?_
 refine aE [4,5,6,0,2,1] (by decide) ?_
 exact Tm ((k2,z5,y20.AF,y20.Ab,y20.AD,y20.AE,y20.AG,v11)) ⟨H,ls⟩
 exact fk
 kernel_rfl
 refine Z6 ?_
 exact Tm ((x28,x29,x30,x31,x32,v10)) (ij H)
 clear H;intro i hi;obtain⟨x16,x17,x18,x19,x20,v8⟩:=i;subst o6;have H:=Hr6;clear Hr6;try dsimp only at H
 try dsimp only
 refine aK 5 rfl (fun hc_v8=>?_)
 revert H;refine bs fun o7 H Hr7=>?_
 refine aP (ι:=List ByteArray × List Int × List Ae × List AM × Int × Value) (fun i=>o7=(i.1,i.2.1,i.2.2.1,i.2.2.2.1,i.2.2.2.2.1)) (fun i=>[(1,fSl tI a1),(4,fEq (ptr q2)),(6,fEq (ptr q4)),(9,fEq (ptr b1)),(15,fSl tI y13)]) (fun i=>[aA b5 77 [fSl aS y11.AK,fSl aV y11.AO,fSl aU y11.AL],aA b2 54 [fI y1.Op,fI x3,fSl aO x5,fSl tI y2,fSl tI x1],aA b1 65 [fI y1.Op,fI y1.N,fSl aO y1.AS,fSl tI y1.AN],aA q2 30 [fSl aD i.1,fSl tI i.2.1,fEq i.2.2.2.2.2,fSl aB i.2.2.2.1,fI i.2.2.2.2.1],aA q4 63 [cD 26 [aF cK w0,aF (fH cH (fun y=>fSl tI y)) w1,fEq (ptr q2),aF (tSl tI) w3,fEq (ptr q4)]],aC i.2.2.2.2.2 54 cE i.2.2.1]) ?_ ?_
 refine Z7 ?_
 refine Tl (ι:=Nat × Int × List ByteArray × List Int × List Ae × List AM × Int × Value) (fun i=>pN (fJ AA) w0 w1 w3 y11 y14 i.1 i.2.1 i.2.2.1 i.2.2.2.1 i.2.2.2.2.1 i.2.2.2.2.2.1 i.2.2.2.2.2.2.1=_) (fun i=>i.1) (fun i=>[(1,fSl tI a1),(4,fEq (ptr q2)),(6,fEq (ptr q4)),(9,fEq (ptr b1)),(15,fSl tI y13),(16,fSl tI y14),(140,fSl aV y11.AO),(141,fI (y11.AO.length:Int)),(142,fI i.2.1)]) (fun i=>[aA b5 77 [fSl aS y11.AK,fSl aV y11.AO,fSl aU y11.AL],aA b2 54 [fI y1.Op,fI x3,fSl aO x5,fSl tI y2,fSl tI x1],aA b1 65 [fI y1.Op,fI y1.N,fSl aO y1.AS,fSl tI y1.AN],aA q2 30 [fSl aD i.2.2.1,fSl tI i.2.2.2.1,fEq i.2.2.2.2.2.2.2,fSl aB i.2.2.2.2.2.1,fI i.2.2.2.2.2.2.1],aA q4 63 [cD 26 [aF cK w0,aF (fH cH (fun y=>fSl tI y)) w1,fEq (ptr q2),aF (tSl tI) w3,fEq (ptr q4)]],aC i.2.2.2.2.2.2.2 54 cE i.2.2.2.2.1]) (AA,0,x16,x17,x18,x19,x20,v8) H ?_
 clear H;rintro⟨k3,x44,x45,x46,x47,x48,x49,v14⟩ H
 replace H:pN (fJ AA) w0 w1 w3 y11 y14 k3 x44 x45 x46 x47 x48 x49=_:=H
 try dsimp only
 obtain _ | k3:=k3
 rw [pN]at H;cases H
 rw [pN]at H
 refine aK 5 rfl (fun hc_v14=>?_)
 refine Z3 ?_
 refine aI ?_
 revert H;refine is (fun c8 H=>?_) fun c8 H=>?_
 refine Z3 ?_
 refine aI ?_
 revert H;refine B2 fun y21 h26 H=>?_
 refine Z2 ?_
 refine Tn (bP rfl zG rfl) fun b7=>?_
 refine cT (φs':=[fI y21.In,fI y21.AQ]) a1Z rfl rfl (has rfl) (has rfl) (aG (aH a1Z) (aG (aH a1Z) bH)) (sz rfl) rfl rfl rfl ?_
 refine Z6 ?_
 refine mE ?_
 refine iJ ?_
 refine mK (x:=(⟨x45,x46,x47,x48,x49⟩:Ad)) ?_
 refine iJ ?_
 refine cL ?_
 revert H;refine bs fun y22 h27 H=>?_
 refine iB a1Z rfl rfl rfl (has rfl) (aJ.cons (has rfl) (aJ.cons (has rfl) aJ.nil)) rfl (cb rfl) (ih_flat_Flat_1 q2 q4 y21.AQ y14 w0 w1 (⟨x45,x46,x47,x48,x49⟩:Ad) w3 y22 h27) rfl ?_
 refine mS (fun v15=>?_)
 refine aK 1 rfl (fun hc_v15=>?_)
 revert H;refine B4 fun z6 h28 H=>?_
 refine Z3 ?_
 refine aE [4,5,6,0,2,1] (by decide) ?_
 exact Tm ((k3,z6,y22.AF,y22.Ab,y22.AD,y22.AE,y22.AG,v15)) ⟨H,ls⟩
 refine Z6 ?_
 exact Tm ((x45,x46,x47,x48,x49,v14)) (ij H)
 clear H;intro i hi;obtain⟨x33,x34,x35,x36,x37,v12⟩:=i;subst o7;have H:=Hr7;clear Hr7;try dsimp only at H
 try dsimp only
 refine aK 5 rfl (fun hc_v12=>?_)
 revert H;refine B3 fun y23 h29 H=>?_
 refine Tc (aCf _ _ _ h29) ?_
 refine Z2 ?_
 refine aE [1,2,3,4,5] (by decide) ?_
 exact Tm ((y23,x33,x34,x35,x36,x37,v12)) (ij H)
 exact fk
 kernel_rfl
 refine Z3 ?_
 refine aE [1,2,3,4,0] (by decide) ?_
 exact Tm ((x2,w2.AF,w2.Ab,w2.AD.set a0.toNat (⟨y1.Op,x3,x5,y2,x1⟩:Ae),w2.AE,w2.AG,v1)) (ij H)
 clear H;intro i hi;obtain⟨x10,x11,x12,x13,x14,x15,v7⟩:=i;subst o5;have H:=Hr5;clear Hr5;try dsimp only at H
 try dsimp only
 refine aK 4 rfl (fun hc_v7=>?_)
 refine Z7 ?_
 refine Tl (ι:=Nat × Int × List ByteArray × List Int × List Ae × List AM × Int × Value) (fun i=>nH (fJ AA) w0 w1 w3 y1 x10 i.1 i.2.1 i.2.2.1 i.2.2.2.1 i.2.2.2.2.1 i.2.2.2.2.2.1 i.2.2.2.2.2.2.1=_) (fun i=>i.1) (fun i=>[(4,fEq (ptr q2)),(6,fEq (ptr q4)),(11,fSl tI x10),(156,fSl tI y1.AN),(157,fI (y1.AN.length:Int)),(158,fI i.2.1)]) (fun i=>[aA b2 54 [fI y1.Op,fI x3,fSl aO x5,fSl tI y2,fSl tI x1],aA b1 65 [fI y1.Op,fI y1.N,fSl aO y1.AS,fSl tI y1.AN],aA q2 30 [fSl aD i.2.2.1,fSl tI i.2.2.2.1,fEq i.2.2.2.2.2.2.2,fSl aB i.2.2.2.2.2.1,fI i.2.2.2.2.2.2.1],aA q4 63 [cD 26 [aF cK w0,aF (fH cH (fun y=>fSl tI y)) w1,fEq (ptr q2),aF (tSl tI) w3,fEq (ptr q4)]],aC i.2.2.2.2.2.2.2 54 cE i.2.2.2.2.1]) (AA,0,x11,x12,x13,x14,x15,v7) H ?_
 clear H;rintro⟨k4,x56,x57,x58,x59,x60,x61,v17⟩ H
 replace H:nH (fJ AA) w0 w1 w3 y1 x10 k4 x56 x57 x58 x59 x60 x61=_:=H
 try dsimp only
 obtain _ | k4:=k4
 rw [nH]at H;cases H
 rw [nH]at H
 refine aK 4 rfl (fun hc_v17=>?_)
 refine Z3 ?_
 refine aI ?_
 revert H;refine is (fun c9 H=>?_) fun c9 H=>?_
 refine Z3 ?_
 refine aI ?_
 revert H;refine B2 fun y24 h30 H=>?_
 refine Z8 ?_
 refine aY ?_
 refine cV ?_
 refine mK (x:=(⟨x57,x58,x59,x60,x61⟩:Ad)) ?_
 refine cV ?_
 refine cL ?_
 revert H;refine bs fun y25 h31 H=>?_
 refine iB a1Z rfl rfl rfl (has rfl) (aJ.cons (has rfl) (aJ.cons (has rfl) aJ.nil)) rfl (cb rfl) (ih_flat_Flat_1 q2 q4 y24 x10 w0 w1 (⟨x57,x58,x59,x60,x61⟩:Ad) w3 y25 h31) rfl ?_
 refine mS (fun v18=>?_)
 refine aK 1 rfl (fun hc_v18=>?_)
 revert H;refine B4 fun z7 h32 H=>?_
 refine Z3 ?_
 refine aE [3,4,0,2,1] (by decide) ?_
 exact Tm ((k4,z7,y25.AF,y25.Ab,y25.AD,y25.AE,y25.AG,v18)) ⟨H,ls⟩
 refine Z5 ?_
 refine aY ?_
 refine cV ?_
 refine mK (x:=(⟨x57,x58,x59,x60,x61⟩:Ad)) ?_
 cases H
 refine aE [0,3] (by decide) ?_
 exact eD (.inr rfl) rfl rfl
 exact fk
 kernel_rfl
def sQ (AA:Nat) (a0:AI):Option (Ad × Int):=
 (tT AA (⟨a0.AF,a0.AD,a0.AE,a0.AG⟩:AI)).bind fun y1=>
 if y1.2≠0 then
  some ((⟨[],[],[],[],0⟩:Ad),y1.2)
 else
  (vF AA (⟨a0.AF,a0.AD,a0.AE,a0.AG⟩:AI)).bind fun y2=>
  (aAg a0.AF).bind fun y3=>
  (iW ((y1.1.get (-1)).getD [])).bind fun y4=>
  (mk (⟨0,0,[],[],[]⟩:Ae) (a0.AD.length:Int)).bind fun y5=>
  (wP AA a0.AE).bind fun y6=>
  (fJ AA ((⟨a0.AF,a0.AD,a0.AE,a0.AG⟩:AI).AG) y4 (⟨a0.AF,a0.AD,a0.AE,a0.AG⟩:AI) y1.1 (⟨y3,y4,y5,y6,a0.AG⟩:Ad) y2.1).bind fun y7=>
  some ((⟨y7.AF,y7.Ab,y7.AD,y7.AE,y7.AG⟩:Ad),0)
theorem aG4 (AA:Nat)  (a0:AI) (r:Ad × Int) (H:sQ AA a0=some r):FnS Tryz.prog 7 [fSt cK a0] [] (dK [fSt aAc r.1,fI r.2]) (fun _=>[]):=by
 unfold sQ at H
 refine bD Tryz.func7 rfl Tryz.ntmps7 rfl (fun β=>?_)
 refine Z1 ?_
 refine Tn (bR rfl hh bO) fun b1=>?_
 refine Tn (bP rfl zF rfl) fun b2=>?_
 revert H;refine B4 fun y1 h1 H=>?_
 refine Tc (aJE _ _ _ h1) ?_
 refine Z3 ?_
 refine Tn (bP rfl ty_ze_55 rfl) fun b3=>?_
 refine bX (φs':=[kP cH (fun y=>fSl tI y) y1.1]) a1Z rfl rfl (has rfl) (has rfl) (aFy) (sz rfl) rfl rfl ?_
 refine Z2 ?_
 refine aI ?_
 revert H;refine I4 (fun c1 H=>?_) fun c1 H=>?_
 refine Z2 ?_
 refine Yy (gQ (ψs:=[fEq (.slice none 0 0),fEq (.slice none 0 0),fEq (.slice none 0 0),fEq (.slice none 0 0),fI 0]) rfl aAI rfl bS.nil rfl) ?_
 refine Z1 ?_
 refine cL ?_
 refine cT (φs':=[fEq (.slice none 0 0),fEq (.slice none 0 0),fEq (.slice none 0 0),fEq (.slice none 0 0),fI 0]) a1Z rfl rfl (has rfl) (has rfl) (aG (aH a1Z) (aG (aH a1Z) (aG (aH a1Z) (aG (aH a1Z) (aG (aH a1Z) bH))))) (sz rfl) rfl rfl rfl ?_
 refine Z3 ?_
 cases H
 refine aE [0] (by decide) ?_
 exact zS rfl (ag rfl) rfl (cC rfl) (cC rfl) (aBb (aQ.cons dF (aQ.cons dF (aQ.cons dF (aQ.cons dF (aQ.cons Ent.rfl aQ.nil)))))) rfl
 revert H;refine B5 fun y2 h2 H=>?_
 refine Tc (aEG _ _ _ h2) ?_
 refine Z3 ?_
 refine Tn (bP rfl aCX rfl) fun b4=>?_
 refine bX (φs':=[fSl tI y2.1]) a1Z rfl rfl (has rfl) (has rfl) (aT) (sz rfl) rfl rfl ?_
 refine Z2 ?_
 refine aI ?_
 revert H;refine bs fun y3 h3 H=>?_
 revert H;refine bs fun y4 h4 H=>?_
 revert H;refine bs fun y5 h5 H=>?_
 revert H;refine bs fun y6 h6 H=>?_
 apply bJ (ods:=[_,_,_,_,_,_,_,_,_,_,_,_,_,_,_,_,_,_]) 18 2 6 bI rfl rfl rfl
 refine ND ?_
 refine M2 ?_
 intros
 refine Nc (aH3 _ _ h3) fun _=>?_
 refine M1 ?_
 intros
 refine My (xY (zα:=[]) (k:=(-1)) rfl hh hh rfl sV dF) fun _=>?_
 refine pQ (od:=odC [] true (fSl tI y4) []) (Φ:=fSl tI y4) rfl (fun _=>rfl) a1Z rfl rfl (has rfl) (aJ.cons (has rfl) aJ.nil) rfl (cb rfl) (aAl ((y1.1.get (-1)).getD []) y4 h4) (fun _=>?_)
 refine M3 ?_
 intros
 refine Mn 4 (fun b5=> .slice (some ⟨b5,0,none⟩) y5.length y5.length) (fun b5=>aC (.slice (some ⟨b5,0,none⟩) y5.length y5.length) 54 cE y5) rfl (aEf (t:=cE) (z:=(⟨0,0,[],[],[]⟩:Ae)) rfl (has rfl) (et rfl) rfl vE (aQ.cons Ent.rfl (aQ.cons Ent.rfl (aQ.cons dF (aQ.cons dF (aQ.cons dF aQ.nil))))) h5) (fun b5 u1=>?_)
 refine M2 ?_
 intros
 refine Nc (aH2 _ _ _ h6) fun _=>?_
 refine M2 ?_
 intros
 refine D1 9 b5 _ (fun b5 _=>eE [fSl aD y3,fSl tI y4,fEq (.slice (some ⟨b5,0,none⟩) y5.length y5.length),fSl aB y6,fI a0.AG]) rfl (gQ (ψs:=[fSl aD y3,fSl tI y4,fEq (.slice (some ⟨b5,0,none⟩) y5.length y5.length),fSl aB y6,fI a0.AG]) rfl aAI rfl (bS.cons (has rfl) (cF (aT)) (bS.cons (has rfl) (cF (aT)) (bS.cons (has rfl) (cF (aH a1Z)) (bS.cons (has rfl) (cF (aT)) (bS.cons (has rfl) (cF (aH a1Z)) bS.nil))))) rfl) (fun _=>?_)
 refine Mn 5 (fun b6=>ptr b6) (fun b6=>aA b6 30 [fEq (.slice none 0 0),fEq (.slice none 0 0),fEq (.slice none 0 0),fEq (.slice none 0 0),fI 0]) rfl (bP rfl zF rfl) (fun b6 u2=>?_)
 refine nZ (od:=od2 9 16 [5] true (fun b5 _ b6 _=>dZ) (fun b5 _ b6 _=>[aA b6 30 [fSl aD y3,fSl tI y4,fEq (.slice (some ⟨b5,0,none⟩) y5.length y5.length),fSl aB y6,fI a0.AG]])) (p:=5) (φs':=[fSl aD y3,fSl tI y4,fEq (.slice (some ⟨b5,0,none⟩) y5.length y5.length),fSl aB y6,fI a0.AG]) rfl (fun _=>rfl) (fun _=>rfl) a1Z rfl rfl rfl (has rfl) (has rfl) (aG (aT) (aG (aT) (aG (aH a1Z) (aG (aT) (aG (aH a1Z) bH))))) (sz rfl) rfl rfl rfl (fun _=>?_)
 refine Z1 ?_
 generalize (Value.slice (some ⟨b5,0,none⟩) _ _)=v1
 refine aK 4 rfl (fun hc_v1=>?_)
 refine Z2 ?_
 refine Tn (bP rfl ty_ze_63 rfl) fun b7=>?_
 refine Z2 ?_
 refine aY ?_
 refine cB (φ:=aF cK (⟨a0.AF,a0.AD,a0.AE,a0.AG⟩:AI)) (v:=ptr b1) [1,24] (fV aQ.rfl) fz ?_
 refine bZ ?_
 refine cW ?_
 refine cB (φ:=aF (fH cH (fun y=>fSl tI y)) y1.1) (v:=ptr b3) [4] (fV aQ.rfl) fz ?_
 refine bZ ?_
 refine cL ?_
 refine cB (φ:=aF (tSl tI) y2.1) (v:=ptr b4) [6] (fV aQ.rfl) fz ?_
 refine bZ ?_
 refine Yy (qB rfl (aJ.cons hh (aJ.cons hh (aJ.cons hh (aJ.cons hh (aJ.cons hh aJ.nil)))))) ?_
 refine bX (φs':=[cD 26 [aF cK (⟨a0.AF,a0.AD,a0.AE,a0.AG⟩:AI),aF (fH cH (fun y=>fSl tI y)) y1.1,fEq (ptr b6),aF (tSl tI) y2.1,fEq (ptr b7)]]) a1Z rfl rfl (has rfl) (has rfl) (aCz) (sz rfl) rfl rfl ?_
 refine Z7 ?_
 refine cW ?_
 refine cV ?_
 refine mK (x:=(⟨y3,y4,y5,y6,a0.AG⟩:Ad)) ?_
 revert H;refine bs fun y7 h7 H=>?_
 refine iB a1Z rfl rfl rfl (has rfl) (aJ.cons (has rfl) (aJ.cons (has rfl) aJ.nil)) rfl (cb rfl) (aJj AA b6 b7 ((⟨a0.AF,a0.AD,a0.AE,a0.AG⟩:AI).AG) y4 (⟨a0.AF,a0.AD,a0.AE,a0.AG⟩:AI) y1.1 (⟨y3,y4,y5,y6,a0.AG⟩:Ad) y2.1 y7 h7) rfl ?_
 refine mS (fun v2=>?_)
 refine aK 1 rfl (fun hc_v2=>?_)
 refine Z3 ?_
 refine cV ?_
 refine cT (φs':=[fSl aD y7.AF,fSl tI y7.Ab,fEq v2,fSl aB y7.AE,fI y7.AG]) a1Z rfl rfl (has rfl) (has rfl) (aG (aT) (aG (aT) (aG (aH hc_v2) (aG (aT) (aG (aH a1Z) bH))))) (sz rfl) rfl rfl rfl ?_
 refine Z3 ?_
 refine cW ?_
 refine cB (φ:=fSl cE y7.AD) (v:=v2) [] cZ (fun _ h=>nomatch h) ?_
 refine eV (φs':=[fSl aD y7.AF,fSl tI y7.Ab,fSl cE y7.AD,fSl aB y7.AE,fI y7.AG]) (i:=2) rfl rfl ?_
 refine cW ?_
 refine cL ?_
 refine eV (φs':=[fSl aD y7.AF,fSl tI y7.Ab,fSl cE y7.AD,fSl aB y7.AE,fI y7.AG]) (i:=2) rfl rfl ?_
 refine oS 47 (ψ:=eE [fSl aD y7.AF,fSl tI y7.Ab,fEq v2,fSl aB y7.AE,fI y7.AG]) rfl (mZ (i:=2) (φs:=[fSl aD y7.AF,fSl tI y7.Ab,fEq v2,fSl aB y7.AE,fI y7.AG]) (φs':=[fSl aD y7.AF,fSl tI y7.Ab,fSl cE y7.AD,fSl aB y7.AE,fI y7.AG]) rfl rfl) ?_
 refine bZ ?_
 cases H
 refine aE [1] (by decide) ?_
 exact zS rfl (ag rfl) rfl (cC rfl) (cC rfl) Ent.rfl rfl
 exact fk
 kernel_rfl
def oU (a0:List ByteArray) (a1:ByteArray):Nat->Int->Option ((Unit) ⊕ (Bool))
| 0,_=>none
| k+1,x2=>
 if x2<(a0.length:Int)then
  (idx a0 x2).bind fun y1=>
  if y1=a1 then
   (some true).bind fun r=>some (Sum.inr r)
  else
   (chk (x2+1)).bind fun z1=>
   oU a0 a1 k z1
 else
  some (Sum.inl ())
def xA (AA:Nat) (a0:List ByteArray) (a1:ByteArray):Option (Bool):=
 (oU a0 a1 AA 0).bind fun o=>match o with
 | Sum.inr r=>some r
 | Sum.inl _=>
 some false
theorem aI8 (AA:Nat)  (a0:List ByteArray) (a1:ByteArray) (r:Bool) (H:xA AA a0 a1=some r):FnS Tryz.prog 116 [fSl aD a0,fW a1] [] (aM r) (fun _=>[]):=by
 unfold xA at H
 refine bD Tryz.func116 rfl Tryz.ntmps116 rfl (fun β=>?_)
 revert H;refine B3 fun o1 H Hr1=>?_
 refine aP (ι:=Unit) (fun i=>o1=Sum.inl ()) (fun i=>[]) (fun i=>[]) ?_ ?_
 refine Z4 ?_
 refine Tl (ι:=Nat × Int) (fun i=>oU a0 a1 i.1 i.2=_) (fun i=>i.1) (fun i=>[(0,fSl aD a0),(1,fW a1),(5,fI i.2)]) (fun i=>[]) (AA,0) H ?_
 clear H;rintro⟨k1,x2⟩ H
 replace H:oU a0 a1 k1 x2=_:=H
 try dsimp only
 obtain _ | k1:=k1
 rw [oU]at H;cases H
 rw [oU]at H
 refine aI ?_
 revert H;refine I6 (fun c1 H=>?_) fun c1 H=>?_
 refine Z3 ?_
 refine aI ?_
 revert H;refine B4 fun y1 h1 H=>?_
 refine Z3 ?_
 refine Yy (o_eqlS rfl hh hh) ?_
 revert H;refine I1 (fun c2 H=>?_) fun c2 H=>?_
 revert H;refine B10 fun r1 H e1=>?_
 cases e1;cases Hr1
 cases H
 exact To
 revert H;refine B6 fun z1 h2 H=>?_
 refine Z3 ?_
 exact Tm ((k1,z1)) ⟨H,ls⟩
 refine Z6 ?_
 exact Tm (()) (ij H)
 clear H;intro i hi;subst o1;have H:=Hr1;clear Hr1;try dsimp only at H
 try dsimp only
 refine Z4 ?_
 cases H
 exact To
def qC (a0:ByteArray):Nat->Int->Option ((Unit) ⊕ (Bool))
| 0,_=>none
| k+1,x2=>
 if x2<(a0.size:Int)then
  (sidx a0 x2).bind fun z1=>
  if z1<97 then
   (some false).bind fun r=>some (Sum.inr r)
  else
   (sidx a0 x2).bind fun z2=>
   if 122<z2 then
    (some false).bind fun r=>some (Sum.inr r)
   else
    (chk (x2+1)).bind fun z3=>
    qC a0 k z3
 else
  some (Sum.inl ())
def tK (AA:Nat) (a0:ByteArray):Option (Bool):=
 if (a0.size:Int)<1 then
  some false
 else
  if 8<(a0.size:Int)then
   some false
  else
   (qC a0 AA 0).bind fun o=>match o with
   | Sum.inr r=>some r
   | Sum.inl _=>
   (xA AA [{ data:=#[97,110,100] },{ data:=#[100,101,102] },{ data:=#[101,108,115,101] },{ data:=#[103,111] },{ data:=#[105,102] },{ data:=#[105,110] },{ data:=#[112,108,97,99,101] },{ data:=#[115,116,111,112] },{ data:=#[116,104,101,110] },{ data:=#[119,97,116,99,104] }] a0).bind fun y1=>
   some (!y1)
theorem aBY (AA:Nat)  (a0:ByteArray) (r:Bool) (H:tK AA a0=some r):FnS Tryz.prog 82 [fW a0] [] (aM r) (fun _=>[]):=by
 unfold tK at H
 refine bD Tryz.func82 rfl Tryz.ntmps82 rfl (fun β=>?_)
 refine Z3 ?_
 refine aI ?_
 refine Z2 ?_
 refine Yy (tM rfl hh mR) ?_
 revert H;refine I2 (fun c1 H=>?_) fun c1 H=>?_
 refine Z10 ?_
 cases H
 exact To
 refine Z1 ?_
 refine Yg c1 (tM rfl hh mR) ?_
 revert H;refine I3 (fun c2 H=>?_) fun c2 H=>?_
 refine Z5 ?_
 cases H
 exact To
 revert H;refine B3 fun o1 H Hr1=>?_
 refine aP (ι:=Unit) (fun i=>o1=Sum.inl ()) (fun i=>[(0,fW a0)]) (fun i=>[]) ?_ ?_
 refine Z4 ?_
 refine Tl (ι:=Nat × Int) (fun i=>qC a0 i.1 i.2=_) (fun i=>i.1) (fun i=>[(0,fW a0),(3,fI i.2)]) (fun i=>[]) (AA,0) H ?_
 clear H;rintro⟨k1,x2⟩ H
 replace H:qC a0 k1 x2=_:=H
 try dsimp only
 obtain _ | k1:=k1
 rw [qC]at H;cases H
 rw [qC]at H
 refine aI ?_
 refine Z3 ?_
 refine Yy (tM rfl hh mR) ?_
 revert H;refine I2 (fun c3 H=>?_) fun c3 H=>?_
 refine Z3 ?_
 refine aI ?_
 revert H;refine B4 fun z1 h1 H=>?_
 refine Yy (aAM rfl hh hh mR h1) ?_
 revert H;refine I2 (fun c4 H=>?_) fun c4 H=>?_
 refine Z12 ?_
 revert H;refine B4 fun r1 H e1=>?_
 cases e1;cases Hr1
 cases H
 exact To
 revert H;refine B2 fun z2 h2 H=>?_
 refine Yg c4 (aAM rfl hh hh mR h2) ?_
 revert H;refine I3 (fun c5 H=>?_) fun c5 H=>?_
 revert H;refine B10 fun r2 H e2=>?_
 cases e2;cases Hr1
 cases H
 exact To
 revert H;refine B6 fun z3 h3 H=>?_
 refine Z3 ?_
 exact Tm ((k1,z3)) ⟨H,ls⟩
 refine Z6 ?_
 exact Tm (()) (ij H)
 clear H;intro i hi;subst o1;have H:=Hr1;clear Hr1;try dsimp only at H
 try dsimp only
 refine Z1 ?_
 refine Tn (eJ (t:=aD) (xs:=[{ data:=#[97,110,100] },{ data:=#[100,101,102] },{ data:=#[101,108,115,101] },{ data:=#[103,111] },{ data:=#[105,102] },{ data:=#[105,110] },{ data:=#[112,108,97,99,101] },{ data:=#[115,116,111,112] },{ data:=#[116,104,101,110] },{ data:=#[119,97,116,99,104] }]) rfl (et rfl) (bM.cons rfl (has rfl) (cF (aH a1Z)) (bM.cons rfl (has rfl) (cF (aH a1Z)) (bM.cons rfl (has rfl) (cF (aH a1Z)) (bM.cons rfl (has rfl) (cF (aH a1Z)) (bM.cons rfl (has rfl) (cF (aH a1Z)) (bM.cons rfl (has rfl) (cF (aH a1Z)) (bM.cons rfl (has rfl) (cF (aH a1Z)) (bM.cons rfl (has rfl) (cF (aH a1Z)) (bM.cons rfl (has rfl) (cF (aH a1Z)) (bM.cons rfl (has rfl) (cF (aH a1Z)) bM.nil)))))))))) rfl rfl rfl) fun b1=>?_
 generalize (Value.slice (some ⟨b1,0,none⟩) _ _)=v1
 refine aK 0 rfl (fun hc_v1=>?_)
 refine Z1 ?_
 refine cB (φ:=fSl aD [{ data:=#[97,110,100] },{ data:=#[100,101,102] },{ data:=#[101,108,115,101] },{ data:=#[103,111] },{ data:=#[105,102] },{ data:=#[105,110] },{ data:=#[112,108,97,99,101] },{ data:=#[115,116,111,112] },{ data:=#[116,104,101,110] },{ data:=#[119,97,116,99,104] }]) (v:=v1) [28] cZ fz ?_
 refine bZ ?_
 revert H;refine bs fun y1 h4 H=>?_
 refine Tc (aI8 _ _ _ _ h4) ?_
 refine Z4 ?_
 cases H
 exact To
open Go.SX Go.SW Go.Dt
def mX (a0:AM):Nat->Int->Option ((Unit) ⊕ (Bool))
| 0,_=>none
| k+1,x2=>
 if x2<(a0.AK.length:Int)then
  (idx a0.AK x2).bind fun y1=>
  if y1.At<0 then
   (some false).bind fun r=>some (Sum.inr r)
  else
   (idx a0.AK x2).bind fun y2=>
   if (a0.AO.length:Int)<y2.At then
    (some false).bind fun r=>some (Sum.inr r)
   else
    (idx a0.AK x2).bind fun y3=>
    if y3.Ak<0 then
     (some false).bind fun r=>some (Sum.inr r)
    else
     (idx a0.AK x2).bind fun y4=>
     if 3<y4.Ak then
      (some false).bind fun r=>some (Sum.inr r)
     else
      (chk (x2+1)).bind fun z1=>
      mX a0 k z1
 else
  some (Sum.inl ())
def oD (a0:AM):Nat->Int->Option ((Unit) ⊕ (Bool))
| 0,_=>none
| k+1,x4=>
 if x4<(a0.AO.length:Int)then
  (idx a0.AO x4).bind fun y5=>
  if y5.In<0 then
   (some false).bind fun r=>some (Sum.inr r)
  else
   (idx a0.AO x4).bind fun y6=>
   if x4<y6.In then
    (some false).bind fun r=>some (Sum.inr r)
   else
    (chk (x4+1)).bind fun z2=>
    oD a0 k z2
 else
  some (Sum.inl ())
def mU (y8:Af) (x14:Int) (y9:Int):Nat->Int->Option ((Unit) ⊕ ((List Bool) ⊕ ((List Bool) ⊕ ((List Bool) ⊕ (Bool)))))
| 0,_=>none
| k+1,x17=>
 if x17<x14 then
  (idx y8.AU x17).bind fun y11=>
  if y11=y9 then
   ((((some false).bind fun r=>some (Sum.inr r)).bind fun r=>some (Sum.inr r)).bind fun r=>some (Sum.inr r)).bind fun r=>some (Sum.inr r)
  else
   (chk (x17+1)).bind fun z3=>
   mU y8 x14 y9 k z3
 else
  some (Sum.inl ())
def jV (AA:Nat) (a0:AM) (y8:Af):Nat->(List Bool)->Int->Option ((List Bool) ⊕ ((List Bool) ⊕ (Bool)))
| 0,_,_=>none
| k+1,x13,x14=>
 if x14<(y8.AU.length:Int)then
  ((idx y8.AU x14).bind fun y9=>
  if y9<0 then
   (((some false).bind fun r=>some (Sum.inr r)).bind fun r=>some (Sum.inr r)).bind fun r=>some (Sum.inr r)
  else
   if (a0.AK.length:Int)<=y9 then
    (((some false).bind fun r=>some (Sum.inr r)).bind fun r=>some (Sum.inr r)).bind fun r=>some (Sum.inr r)
   else
    (idx a0.AK y9).bind fun y10=>
    if y10.At≠y8.At then
     (((some false).bind fun r=>some (Sum.inr r)).bind fun r=>some (Sum.inr r)).bind fun r=>some (Sum.inr r)
    else
     (mU y8 x14 y9 AA 0).bind fun o=>match o with
     | Sum.inr r=>some r
     | Sum.inl _=>
     (idx x13 y9).bind fun y12=>
     some (Sum.inl (x13.set y9.toNat true))).bind fun o=>match o with
  | Sum.inr r=>some r
  | Sum.inl x15=>
  (chk (x14+1)).bind fun z4=>
  jV AA a0 y8 k x15 z4
 else
  some (Sum.inl x13)
def lI (AA:Nat) (a0:AM):Nat->(List Bool)->Int->Option ((List Bool) ⊕ (Bool))
| 0,_,_=>none
| k+1,x8,x9=>
 if x9<(a0.AL.length:Int)then
  ((idx a0.AL x9).bind fun y8=>
  if y8.At<0 then
   ((some false).bind fun r=>some (Sum.inr r)).bind fun r=>some (Sum.inr r)
  else
   if (a0.AO.length:Int)<y8.At then
    ((some false).bind fun r=>some (Sum.inr r)).bind fun r=>some (Sum.inr r)
   else
    if (y8.AU.length:Int)<1 then
     ((some false).bind fun r=>some (Sum.inr r)).bind fun r=>some (Sum.inr r)
    else
     if 3<(y8.AU.length:Int)then
      ((some false).bind fun r=>some (Sum.inr r)).bind fun r=>some (Sum.inr r)
     else
      jV AA a0 y8 AA x8 0).bind fun o=>match o with
  | Sum.inr r=>some r
  | Sum.inl x10=>
  (chk (x9+1)).bind fun z5=>
  lI AA a0 k x10 z5
 else
  some (Sum.inl x8)
def oH (x5:List Bool):Nat->Int->Option ((Unit) ⊕ (Bool))
| 0,_=>none
| k+1,x19=>
 if x19<(x5.length:Int)then
  (idx x5 x19).bind fun y13=>
  bif y13 then
   (chk (x19+1)).bind fun z6=>
   oH x5 k z6
  else
   (some false).bind fun r=>some (Sum.inr r)
 else
  some (Sum.inl ())
def xW (AA:Nat) (a0:AM):Option (Bool):=
 if 30<(a0.AK.length:Int)then
  some false
 else
  if 30<(a0.AO.length:Int)then
   some false
  else
   if 30<(a0.AL.length:Int)then
    some false
   else
    (mX a0 AA 0).bind fun o=>match o with
    | Sum.inr r=>some r
    | Sum.inl _=>
    (oD a0 AA 0).bind fun o=>match o with
    | Sum.inr r=>some r
    | Sum.inl _=>
    (mk false (a0.AK.length:Int)).bind fun y7=>
    (lI AA a0 AA y7 0).bind fun o=>match o with
    | Sum.inr r=>some r
    | Sum.inl x5=>
    (oH x5 AA 0).bind fun o=>match o with
    | Sum.inr r=>some r
    | Sum.inl _=>
    some true
theorem aHi (AA:Nat)  (a0:AM) (r:Bool) (H:xW AA a0=some r):FnS Tryz.prog 83 [fSt aB a0] [] (aM r) (fun _=>[]):=by
 unfold xW at H
 refine bD Tryz.func83 rfl Tryz.ntmps83 rfl (fun β=>?_)
 refine Z1 ?_
 refine Tn (bR rfl hh bO) fun b1=>?_
 refine Z2 ?_
 refine aI ?_
 revert H;refine I6 (fun c1 H=>?_) fun c1 H=>?_
 refine Yt c1 ?_
 refine Yt c1 ?_
 refine Yt c1 ?_
 refine Yt c1 ?_
 refine Yy (dC rfl hh c1 hh) ?_
 refine Z12 ?_
 cases H
 refine aE [] (by decide) ?_
 exact To
 refine Yg c1 (bT 1 rfl hh (fa rfl) rfl) ?_
 refine Yh 0 rfl c1 (bA rfl hh (sc rfl) rfl Ent.rfl) ?_
 refine Yg c1 (eP rfl hh (us rfl)) ?_
 refine Yg c1 (gK rfl hh hh) ?_
 refine Yy (cM rfl hh c1 hh) ?_
 revert H;refine I1 (fun c2 H=>?_) fun c2 H=>?_
 refine Yt c2 ?_
 refine Yt c2 ?_
 refine Yt c2 ?_
 refine Yt c2 ?_
 refine Yy (dC rfl hh c2 hh) ?_
 refine Z6 ?_
 cases H
 refine aE [] (by decide) ?_
 exact To
 refine Yg c2 (bT 2 rfl hh (fa rfl) rfl) ?_
 refine Yh 0 rfl c2 (bA rfl hh (sc rfl) rfl Ent.rfl) ?_
 refine Yg c2 (eP rfl hh (us rfl)) ?_
 refine Yg c2 (gK rfl hh hh) ?_
 refine Yy (cM rfl hh c2 hh) ?_
 revert H;refine I1 (fun c3 H=>?_) fun c3 H=>?_
 refine cO hh c3 ?_
 refine Z4 ?_
 cases H
 refine aE [] (by decide) ?_
 exact To
 refine cN hh c3 ?_
 revert H;refine B2 fun o1 H Hr1=>?_
 refine aP (ι:=Unit) (fun i=>o1=Sum.inl ()) (fun i=>[(1,fEq (ptr b1))]) (fun i=>[aA b1 77 [fSl aS a0.AK,fSl aV a0.AO,fSl aU a0.AL]]) ?_ ?_
 refine Z4 ?_
 refine Tl (ι:=Nat × Int) (fun i=>mX a0 i.1 i.2=_) (fun i=>i.1) (fun i=>[(1,fEq (ptr b1)),(3,fI i.2)]) (fun i=>[aA b1 77 [fSl aS a0.AK,fSl aV a0.AO,fSl aU a0.AL]]) (AA,0) H ?_
 clear H;rintro⟨k1,x2⟩ H
 replace H:mX a0 k1 x2=_:=H
 try dsimp only
 obtain _ | k1:=k1
 rw [mX]at H;cases H
 rw [mX]at H
 refine aI ?_
 revert H;refine I7 (fun c4 H=>?_) fun c4 H=>?_
 refine cO hh c4 ?_
 refine Z2 ?_
 refine aI ?_
 refine Z1 ?_
 refine aI ?_
 revert H;refine bs fun y1 h1 H=>?_
 revert H;refine is (fun c5 H=>?_) fun c5 H=>?_
 apply bJ (ods:=[_,_,_,_,_,_,_,_,_,_,_,_,_,_,_,_,_,_,_,_,_,_,_,_,_,_,_,_,_,_,_,_,_,_,_,_,_]) 37 0 1 bI rfl rfl rfl
 refine ND ?_
 refine M3 ?_
 intros
 refine My (bW rfl hh hh (el rfl) h1) fun _=>?_
 refine M4 ?_
 intros
 refine Mt c5 fun _=>?_
 refine Mt c5 fun _=>?_
 refine Mt c5 fun _=>?_
 refine Mt c5 fun _=>?_
 refine Mt c5 fun _=>?_
 refine Mt c5 fun _=>?_
 refine Mt c5 fun _=>?_
 refine Mt c5 fun _=>?_
 refine Mt c5 fun _=>?_
 refine Mt c5 fun _=>?_
 refine My (dC rfl hh c5 hh) fun _=>?_
 refine M8 ?_
 intros
 refine M8 ?_
 intros
 refine M2 ?_
 intros
 revert H;refine B12 fun r1 H e1=>?_
 cases e1;cases Hr1
 cases H
 refine aE [] (by decide) ?_
 exact To
 exact fk
 kernel_rfl
 revert H;refine bs fun y2 h2 H=>?_
 revert H;refine is (fun c6 H=>?_) fun c6 H=>?_
 apply bJ (ods:=[_,_,_,_,_,_,_,_,_,_,_,_,_,_,_,_,_,_,_,_,_,_,_,_,_,_,_,_,_,_,_,_,_,_,_,_,_]) 37 0 1 bI rfl rfl rfl
 refine ND ?_
 refine M3 ?_
 intros
 refine My (bW rfl hh hh (el rfl) h1) fun _=>?_
 refine M4 ?_
 intros
 refine Mg c5 (bT 0 rfl hh (fa rfl) rfl) fun _=>?_
 refine dH (od:=odC [0] false (fSl aS a0.AK) [cS]) (ps:=[0]) (φ:=fSl aS a0.AK) rfl (fun _=>rfl) ⟨_,_,rfl,rfl,c5⟩ rfl rfl (bA rfl hh (sc rfl) rfl Ent.rfl) (fun _=>?_)
 refine Mg c5 (cI rfl hh) fun _=>?_
 refine Mg c5 (bW rfl hh hh (el rfl) h2) fun _=>?_
 refine Mg c5 (fU (t':=tI) (z:=y2.At) rfl hh (fa rfl) rfl) fun _=>?_
 refine Mg c5 (fP rfl hh (sc rfl) rfl) fun _=>?_
 refine Mg c5 (bT 1 rfl hh (fa rfl) rfl) fun _=>?_
 refine dH (od:=odC [0] false (fSl aV a0.AO) [cS]) (ps:=[0]) (φ:=fSl aV a0.AO) rfl (fun _=>rfl) ⟨_,_,rfl,rfl,c5⟩ rfl rfl (bA rfl hh (sc rfl) rfl Ent.rfl) (fun _=>?_)
 refine Mg c5 (eP rfl hh (us rfl)) fun _=>?_
 refine Mg c5 (gK rfl hh hh) fun _=>?_
 refine My (cM rfl hh c5 hh) fun _=>?_
 refine M1 ?_
 intros
 refine Mt c6 fun _=>?_
 refine Mt c6 fun _=>?_
 refine Mt c6 fun _=>?_
 refine Mt c6 fun _=>?_
 refine Mt c6 fun _=>?_
 refine Mt c6 fun _=>?_
 refine Mt c6 fun _=>?_
 refine My (dC rfl hh c6 hh) fun _=>?_
 refine M8 ?_
 intros
 refine M1 ?_
 intros
 revert H;refine B12 fun r2 H e2=>?_
 cases e2;cases Hr1
 cases H
 refine aE [] (by decide) ?_
 exact To
 exact fk
 kernel_rfl
 revert H;refine bs fun y3 h3 H=>?_
 revert H;refine is (fun c7 H=>?_) fun c7 H=>?_
 apply bJ (ods:=[_,_,_,_,_,_,_,_,_,_,_,_,_,_,_,_,_,_,_,_,_,_,_,_,_,_,_,_,_,_,_,_,_,_,_,_,_]) 37 0 1 bI rfl rfl rfl
 refine ND ?_
 refine M3 ?_
 intros
 refine My (bW rfl hh hh (el rfl) h1) fun _=>?_
 refine M4 ?_
 intros
 refine Mg c5 (bT 0 rfl hh (fa rfl) rfl) fun _=>?_
 refine dH (od:=odC [0] false (fSl aS a0.AK) [cS]) (ps:=[0]) (φ:=fSl aS a0.AK) rfl (fun _=>rfl) ⟨_,_,rfl,rfl,c5⟩ rfl rfl (bA rfl hh (sc rfl) rfl Ent.rfl) (fun _=>?_)
 refine Mg c5 (cI rfl hh) fun _=>?_
 refine Mg c5 (bW rfl hh hh (el rfl) h2) fun _=>?_
 refine Mg c5 (fU (t':=tI) (z:=y2.At) rfl hh (fa rfl) rfl) fun _=>?_
 refine Mg c5 (fP rfl hh (sc rfl) rfl) fun _=>?_
 refine Mg c5 (bT 1 rfl hh (fa rfl) rfl) fun _=>?_
 refine dH (od:=odC [0] false (fSl aV a0.AO) [cS]) (ps:=[0]) (φ:=fSl aV a0.AO) rfl (fun _=>rfl) ⟨_,_,rfl,rfl,c5⟩ rfl rfl (bA rfl hh (sc rfl) rfl Ent.rfl) (fun _=>?_)
 refine Mg c5 (eP rfl hh (us rfl)) fun _=>?_
 refine Mg c5 (gK rfl hh hh) fun _=>?_
 refine My (cM rfl hh c5 hh) fun _=>?_
 refine M1 ?_
 intros
 refine Mg c6 (bT 0 rfl hh (fa rfl) rfl) fun _=>?_
 refine dH (od:=odC [0] false (fSl aS a0.AK) [cS]) (ps:=[0]) (φ:=fSl aS a0.AK) rfl (fun _=>rfl) ⟨_,_,rfl,rfl,c6⟩ rfl rfl (bA rfl hh (sc rfl) rfl Ent.rfl) (fun _=>?_)
 refine Mg c6 (cI rfl hh) fun _=>?_
 refine Mg c6 (bW rfl hh hh (el rfl) h3) fun _=>?_
 refine Mg c6 (fU (t':=tI) (z:=y3.Ak) rfl hh (fa rfl) rfl) fun _=>?_
 refine Mg c6 (fP rfl hh (sc rfl) rfl) fun _=>?_
 refine Mg c6 (vQ rfl hh hh) fun _=>?_
 refine My (cM rfl hh c6 hh) fun _=>?_
 refine M1 ?_
 intros
 refine Mt c7 fun _=>?_
 refine Mt c7 fun _=>?_
 refine Mt c7 fun _=>?_
 refine Mt c7 fun _=>?_
 refine Mt c7 fun _=>?_
 refine Mt c7 fun _=>?_
 refine Mt c7 fun _=>?_
 refine My (dC rfl hh c7 hh) fun _=>?_
 revert H;refine B12 fun r3 H e3=>?_
 cases e3;cases Hr1
 cases H
 refine aE [] (by decide) ?_
 exact To
 exact fk
 kernel_rfl
 revert H;refine bs fun y4 h4 H=>?_
 apply bJ (ods:=[_,_,_,_,_,_,_,_,_,_,_,_,_,_,_,_,_,_,_,_,_,_,_,_,_,_,_,_,_,_,_,_,_,_,_,_,_]) 37 0 1 bI rfl rfl rfl
 refine ND ?_
 refine M3 ?_
 intros
 refine My (bW rfl hh hh (el rfl) h1) fun _=>?_
 refine M4 ?_
 intros
 refine Mg c5 (bT 0 rfl hh (fa rfl) rfl) fun _=>?_
 refine dH (od:=odC [0] false (fSl aS a0.AK) [cS]) (ps:=[0]) (φ:=fSl aS a0.AK) rfl (fun _=>rfl) ⟨_,_,rfl,rfl,c5⟩ rfl rfl (bA rfl hh (sc rfl) rfl Ent.rfl) (fun _=>?_)
 refine Mg c5 (cI rfl hh) fun _=>?_
 refine Mg c5 (bW rfl hh hh (el rfl) h2) fun _=>?_
 refine Mg c5 (fU (t':=tI) (z:=y2.At) rfl hh (fa rfl) rfl) fun _=>?_
 refine Mg c5 (fP rfl hh (sc rfl) rfl) fun _=>?_
 refine Mg c5 (bT 1 rfl hh (fa rfl) rfl) fun _=>?_
 refine dH (od:=odC [0] false (fSl aV a0.AO) [cS]) (ps:=[0]) (φ:=fSl aV a0.AO) rfl (fun _=>rfl) ⟨_,_,rfl,rfl,c5⟩ rfl rfl (bA rfl hh (sc rfl) rfl Ent.rfl) (fun _=>?_)
 refine Mg c5 (eP rfl hh (us rfl)) fun _=>?_
 refine Mg c5 (gK rfl hh hh) fun _=>?_
 refine My (cM rfl hh c5 hh) fun _=>?_
 refine M1 ?_
 intros
 refine Mg c6 (bT 0 rfl hh (fa rfl) rfl) fun _=>?_
 refine dH (od:=odC [0] false (fSl aS a0.AK) [cS]) (ps:=[0]) (φ:=fSl aS a0.AK) rfl (fun _=>rfl) ⟨_,_,rfl,rfl,c6⟩ rfl rfl (bA rfl hh (sc rfl) rfl Ent.rfl) (fun _=>?_)
 refine Mg c6 (cI rfl hh) fun _=>?_
 refine Mg c6 (bW rfl hh hh (el rfl) h3) fun _=>?_
 refine Mg c6 (fU (t':=tI) (z:=y3.Ak) rfl hh (fa rfl) rfl) fun _=>?_
 refine Mg c6 (fP rfl hh (sc rfl) rfl) fun _=>?_
 refine Mg c6 (vQ rfl hh hh) fun _=>?_
 refine My (cM rfl hh c6 hh) fun _=>?_
 refine M1 ?_
 intros
 refine Mg c7 (bT 0 rfl hh (fa rfl) rfl) fun _=>?_
 refine dH (od:=odC [0] false (fSl aS a0.AK) [cS]) (ps:=[0]) (φ:=fSl aS a0.AK) rfl (fun _=>rfl) ⟨_,_,rfl,rfl,c7⟩ rfl rfl (bA rfl hh (sc rfl) rfl Ent.rfl) (fun _=>?_)
 refine Mg c7 (cI rfl hh) fun _=>?_
 refine Mg c7 (bW rfl hh hh (el rfl) h4) fun _=>?_
 refine Mg c7 (fU (t':=tI) (z:=y4.Ak) rfl hh (fa rfl) rfl) fun _=>?_
 refine Mg c7 (fP rfl hh (sc rfl) rfl) fun _=>?_
 refine Mg c7 (gK rfl hh hh) fun _=>?_
 refine My (cM rfl hh c7 hh) fun _=>?_
 revert H;refine I2 (fun c8 H=>?_) fun c8 H=>?_
 refine cO hh c8 ?_
 revert H;refine B9 fun r4 H e4=>?_
 cases e4;cases Hr1
 cases H
 refine aE [] (by decide) ?_
 exact To
 refine cN hh c8 ?_
 revert H;refine B5 fun z1 h5 H=>?_
 refine Yy (dO rfl hh hh h5) ?_
 refine Z2 ?_
 exact Tm ((k1,z1)) ⟨H,ls⟩
 exact fk
 kernel_rfl
 refine cN hh c4 ?_
 refine Z5 ?_
 exact Tm (()) (ij H)
 clear H;intro i hi;subst o1;have H:=Hr1;clear Hr1;try dsimp only at H
 try dsimp only
 revert H;refine bs fun o2 H Hr2=>?_
 refine aP (ι:=Unit) (fun i=>o2=Sum.inl ()) (fun i=>[(1,fEq (ptr b1))]) (fun i=>[aA b1 77 [fSl aS a0.AK,fSl aV a0.AO,fSl aU a0.AL]]) ?_ ?_
 refine Z4 ?_
 refine Tl (ι:=Nat × Int) (fun i=>oD a0 i.1 i.2=_) (fun i=>i.1) (fun i=>[(1,fEq (ptr b1)),(4,fI i.2)]) (fun i=>[aA b1 77 [fSl aS a0.AK,fSl aV a0.AO,fSl aU a0.AL]]) (AA,0) H ?_
 clear H;rintro⟨k2,x4⟩ H
 replace H:oD a0 k2 x4=_:=H
 try dsimp only
 obtain _ | k2:=k2
 rw [oD]at H;cases H
 rw [oD]at H
 refine aI ?_
 revert H;refine I7 (fun c9 H=>?_) fun c9 H=>?_
 refine cO hh c9 ?_
 refine Z2 ?_
 refine aI ?_
 revert H;refine B5 fun y5 h6 H=>?_
 refine Yy (bW rfl hh hh (el rfl) h6) ?_
 revert H;refine I4 (fun c10 H=>?_) fun c10 H=>?_
 refine Yt c10 ?_
 refine Yt c10 ?_
 refine Yt c10 ?_
 refine Yt c10 ?_
 refine Yt c10 ?_
 refine Yt c10 ?_
 refine Yt c10 ?_
 refine Yt c10 ?_
 refine Yy (dC rfl hh c10 hh) ?_
 revert H;refine B11 fun r5 H e5=>?_
 cases e5;cases Hr2
 cases H
 refine aE [] (by decide) ?_
 exact To
 refine Yg c10 (bT 1 rfl hh (fa rfl) rfl) ?_
 refine Yh 0 rfl c10 (bA rfl hh (sc rfl) rfl Ent.rfl) ?_
 refine Yg c10 (cI rfl hh) ?_
 revert H;refine bs fun y6 h7 H=>?_
 refine Yg c10 (bW rfl hh hh (el rfl) h7) ?_
 refine Yg c10 (fU (t':=tI) (z:=y6.In) rfl hh (fa rfl) rfl) ?_
 refine Yg c10 (fP rfl hh (sc rfl) rfl) ?_
 refine Yg c10 (cI rfl hh) ?_
 refine Yg c10 (gK rfl hh hh) ?_
 refine Yy (cM rfl hh c10 hh) ?_
 revert H;refine I1 (fun c11 H=>?_) fun c11 H=>?_
 refine cO hh c11 ?_
 revert H;refine B9 fun r6 H e6=>?_
 cases e6;cases Hr2
 cases H
 refine aE [] (by decide) ?_
 exact To
 refine cN hh c11 ?_
 revert H;refine B5 fun z2 h8 H=>?_
 refine Yy (dO rfl hh hh h8) ?_
 refine Z2 ?_
 exact Tm ((k2,z2)) ⟨H,ls⟩
 refine cN hh c9 ?_
 refine Z5 ?_
 exact Tm (()) (ij H)
 clear H;intro i hi;subst o2;have H:=Hr2;clear Hr2;try dsimp only at H
 try dsimp only
 revert H;refine B4 fun y7 h9 H=>?_
 refine Tn (qN (t:=bK) (z:=false) rfl hh (et rfl) rfl aAK rfl h9) fun b2=>?_
 generalize (Value.slice (some ⟨b2,0,none⟩) _ _)=v1
 refine aK 0 rfl (fun hc_v1=>?_)
 revert H;refine B2 fun o3 H Hr3=>?_
 refine aP (ι:=List Bool) (fun i=>o3=Sum.inl i) (fun i=>[(5,fEq v1)]) (fun i=>[aA b1 77 [fSl aS a0.AK,fSl aV a0.AO,fSl aU a0.AL],aC v1 4 bK i]) ?_ ?_
 refine Z4 ?_
 refine aE [1,0] (by decide) ?_
 refine Tl (ι:=Nat × List Bool × Int) (fun i=>lI AA a0 i.1 i.2.1 i.2.2=_) (fun i=>i.1) (fun i=>[(1,fEq (ptr b1)),(5,fEq v1),(6,fI i.2.2)]) (fun i=>[aA b1 77 [fSl aS a0.AK,fSl aV a0.AO,fSl aU a0.AL],aC v1 4 bK i.2.1]) (AA,y7,0) H ?_
 clear H;rintro⟨k3,x8,x9⟩ H
 replace H:lI AA a0 k3 x8 x9=_:=H
 try dsimp only
 obtain _ | k3:=k3
 rw [lI]at H;cases H
 rw [lI]at H
 refine aI ?_
 revert H;refine I7 (fun c12 H=>?_) fun c12 H=>?_
 refine cO hh c12 ?_
 revert H;refine B2 fun o4 H Hr4=>?_
 refine aP (ι:=List Bool) (fun i=>o4=Sum.inl i) (fun i=>[(1,fEq (ptr b1)),(5,fEq v1),(6,fI x9)]) (fun i=>[aA b1 77 [fSl aS a0.AK,fSl aV a0.AO,fSl aU a0.AL],aC v1 4 bK i]) ?_ ?_
 revert H;refine B5 fun y8 h10 H=>?_
 refine Yy (bW rfl hh hh (el rfl) h10) ?_
 refine Z1 ?_
 refine Tn (bP rfl rE rfl) fun b3=>?_
 refine cT (φs':=[fI y8.At,fSl tI y8.AU,fI y8.AQ]) a1Z rfl rfl (has rfl) (has rfl) (aG (aH a1Z) (aG (aT) (aG (aH a1Z) bH))) (sz rfl) rfl rfl rfl ?_
 refine Z1 ?_
 refine aI ?_
 revert H;refine I5 (fun c13 H=>?_) fun c13 H=>?_
 refine Yt c13 ?_
 refine Yt c13 ?_
 refine Yt c13 ?_
 refine Yt c13 ?_
 refine Yt c13 ?_
 refine Yt c13 ?_
 refine Yy (dC rfl hh c13 hh) ?_
 refine Z12 ?_
 revert H;refine B8 fun r7 H e7=>?_
 cases e7;cases Hr4
 revert H;refine B3 fun r8 H e8=>?_
 cases e8;cases Hr3
 cases H
 refine aE [] (by decide) ?_
 exact To
 refine Yg c13 (bT 0 rfl hh (fa rfl) rfl) ?_
 refine Yh 0 rfl c13 (bA rfl hh (sc rfl) rfl Ent.rfl) ?_
 refine Yg c13 (bT 1 rfl hh (fa rfl) rfl) ?_
 refine Yh 1 rfl c13 (bA rfl hh (sc rfl) rfl Ent.rfl) ?_
 refine Yg c13 (eP rfl hh (us rfl)) ?_
 refine Yg c13 (gK rfl hh hh) ?_
 refine Yy (cM rfl hh c13 hh) ?_
 revert H;refine I1 (fun c14 H=>?_) fun c14 H=>?_
 refine Yt c14 ?_
 refine Yt c14 ?_
 refine Yt c14 ?_
 refine Yt c14 ?_
 refine Yy (dC rfl hh c14 hh) ?_
 refine Z12 ?_
 revert H;refine B2 fun r9 H e9=>?_
 cases e9;cases Hr4
 revert H;refine B3 fun r10 H e10=>?_
 cases e10;cases Hr3
 cases H
 refine aE [] (by decide) ?_
 exact To
 refine Yg c14 (bT 1 rfl hh (fa rfl) rfl) ?_
 refine Yh 0 rfl c14 (bA rfl hh (sc rfl) rfl Ent.rfl) ?_
 refine Yg c14 (eP rfl hh (us rfl)) ?_
 refine Yg c14 (vQ rfl hh hh) ?_
 refine Yy (cM rfl hh c14 hh) ?_
 revert H;refine I1 (fun c15 H=>?_) fun c15 H=>?_
 refine Yt c15 ?_
 refine Yt c15 ?_
 refine Yt c15 ?_
 refine Yt c15 ?_
 refine Yy (dC rfl hh c15 hh) ?_
 revert H;refine B8 fun r11 H e11=>?_
 cases e11;cases Hr4
 revert H;refine B3 fun r12 H e12=>?_
 cases e12;cases Hr3
 cases H
 refine aE [] (by decide) ?_
 exact To
 refine Yg c15 (bT 1 rfl hh (fa rfl) rfl) ?_
 refine Yh 0 rfl c15 (bA rfl hh (sc rfl) rfl Ent.rfl) ?_
 refine Yg c15 (eP rfl hh (us rfl)) ?_
 refine Yg c15 (gK rfl hh hh) ?_
 refine Yy (cM rfl hh c15 hh) ?_
 revert H;refine I1 (fun c16 H=>?_) fun c16 H=>?_
 refine cO hh c16 ?_
 revert H;refine B6 fun r13 H e13=>?_
 cases e13;cases Hr4
 revert H;refine B3 fun r14 H e14=>?_
 cases e14;cases Hr3
 cases H
 refine aE [] (by decide) ?_
 exact To
 refine cN hh c16 ?_
 refine Z6 ?_
 refine Tl (ι:=Nat × List Bool × Int) (fun i=>jV AA a0 y8 i.1 i.2.1 i.2.2=_) (fun i=>i.1) (fun i=>[(1,fEq (ptr b1)),(5,fEq v1),(6,fI x9),(7,fEq (ptr b3)),(8,fI i.2.2)]) (fun i=>[aA b3 81 [fI y8.At,fSl tI y8.AU,fI y8.AQ],aA b1 77 [fSl aS a0.AK,fSl aV a0.AO,fSl aU a0.AL],aC v1 4 bK i.2.1]) (AA,x8,0) H ?_
 clear H;rintro⟨k4,x13,x14⟩ H
 replace H:jV AA a0 y8 k4 x13 x14=_:=H
 try dsimp only
 obtain _ | k4:=k4
 rw [jV]at H;cases H
 rw [jV]at H
 refine aI ?_
 revert H;refine I7 (fun c17 H=>?_) fun c17 H=>?_
 refine cO hh c17 ?_
 revert H;refine B2 fun o5 H Hr5=>?_
 refine aP (ι:=List Bool) (fun i=>o5=Sum.inl i) (fun i=>[(1,fEq (ptr b1)),(5,fEq v1),(6,fI x9),(7,fEq (ptr b3)),(8,fI x14)]) (fun i=>[aA b3 81 [fI y8.At,fSl tI y8.AU,fI y8.AQ],aA b1 77 [fSl aS a0.AK,fSl aV a0.AO,fSl aU a0.AL],aC v1 4 bK i]) ?_ ?_
 revert H;refine B5 fun y9 h11 H=>?_
 refine Yy (bW rfl hh hh (el rfl) h11) ?_
 refine Z3 ?_
 refine aI ?_
 refine aI ?_
 revert H;refine is (fun c18 H=>?_) fun c18 H=>?_
 apply bJ (ods:=[_,_,_,_,_,_,_,_,_,_,_,_,_,_,_,_,_,_,_,_]) 20 0 3 bI rfl rfl rfl
 refine ND ?_
 refine M3 ?_
 intros
 refine Mt c18 fun _=>?_
 refine Mt c18 fun _=>?_
 refine Mt c18 fun _=>?_
 refine Mt c18 fun _=>?_
 refine Mt c18 fun _=>?_
 refine My (dC rfl hh c18 hh) fun _=>?_
 refine M8 ?_
 intros
 refine M3 ?_
 intros
 revert H;refine B9 fun r15 H e15=>?_
 cases e15;cases Hr5
 revert H;refine B4 fun r16 H e16=>?_
 cases e16;cases Hr4
 revert H;refine B3 fun r17 H e17=>?_
 cases e17;cases Hr3
 cases H
 refine aE [] (by decide) ?_
 exact To
 exact fk
 kernel_rfl
 revert H;refine is (fun c19 H=>?_) fun c19 H=>?_
 apply bJ (ods:=[_,_,_,_,_,_,_,_,_,_,_,_,_,_,_,_,_,_,_,_]) 20 0 3 bI rfl rfl rfl
 refine ND ?_
 refine M3 ?_
 intros
 refine Mg c18 (cI rfl hh) fun _=>?_
 refine Mg c18 (bT 0 rfl hh (fa rfl) rfl) fun _=>?_
 refine dH (od:=odC [1] false (fSl aS a0.AK) [cS]) (ps:=[1]) (φ:=fSl aS a0.AK) rfl (fun _=>rfl) ⟨_,_,rfl,rfl,c18⟩ rfl rfl (bA rfl hh (sc rfl) rfl Ent.rfl) (fun _=>?_)
 refine Mg c18 (eP rfl hh (us rfl)) fun _=>?_
 refine Mg c18 (rM rfl hh hh) fun _=>?_
 refine My (cM rfl hh c18 hh) fun _=>?_
 refine M1 ?_
 intros
 refine Mt c19 fun _=>?_
 refine Mt c19 fun _=>?_
 refine Mt c19 fun _=>?_
 refine Mt c19 fun _=>?_
 refine Mt c19 fun _=>?_
 refine Mt c19 fun _=>?_
 refine Mt c19 fun _=>?_
 refine Mt c19 fun _=>?_
 refine Mt c19 fun _=>?_
 refine My (dC rfl hh c19 hh) fun _=>?_
 revert H;refine B9 fun r18 H e18=>?_
 cases e18;cases Hr5
 revert H;refine B4 fun r19 H e19=>?_
 cases e19;cases Hr4
 revert H;refine B3 fun r20 H e20=>?_
 cases e20;cases Hr3
 cases H
 refine aE [] (by decide) ?_
 exact To
 exact fk
 kernel_rfl
 revert H;refine bs fun y10 h12 H=>?_
 apply bJ (ods:=[_,_,_,_,_,_,_,_,_,_,_,_,_,_,_,_,_,_,_,_]) 20 0 3 bI rfl rfl rfl
 refine ND ?_
 refine M3 ?_
 intros
 refine Mg c18 (cI rfl hh) fun _=>?_
 refine Mg c18 (bT 0 rfl hh (fa rfl) rfl) fun _=>?_
 refine dH (od:=odC [1] false (fSl aS a0.AK) [cS]) (ps:=[1]) (φ:=fSl aS a0.AK) rfl (fun _=>rfl) ⟨_,_,rfl,rfl,c18⟩ rfl rfl (bA rfl hh (sc rfl) rfl Ent.rfl) (fun _=>?_)
 refine Mg c18 (eP rfl hh (us rfl)) fun _=>?_
 refine Mg c18 (rM rfl hh hh) fun _=>?_
 refine My (cM rfl hh c18 hh) fun _=>?_
 refine M1 ?_
 intros
 refine Mg c19 (bT 0 rfl hh (fa rfl) rfl) fun _=>?_
 refine dH (od:=odC [1] false (fSl aS a0.AK) [cS]) (ps:=[1]) (φ:=fSl aS a0.AK) rfl (fun _=>rfl) ⟨_,_,rfl,rfl,c19⟩ rfl rfl (bA rfl hh (sc rfl) rfl Ent.rfl) (fun _=>?_)
 refine Mg c19 (cI rfl hh) fun _=>?_
 refine Mg c19 (bW rfl hh hh (el rfl) h12) fun _=>?_
 refine Mg c19 (fU (t':=tI) (z:=y10.At) rfl hh (fa rfl) rfl) fun _=>?_
 refine Mg c19 (fP rfl hh (sc rfl) rfl) fun _=>?_
 refine Mg c19 (bT 0 rfl hh (fa rfl) rfl) fun _=>?_
 refine dH (od:=odC [0] false (fI y8.At) [cS]) (ps:=[0]) (φ:=fI y8.At) rfl (fun _=>rfl) ⟨_,_,rfl,rfl,c19⟩ rfl rfl (bA rfl hh (sc rfl) rfl Ent.rfl) (fun _=>?_)
 refine Mg c19 (lZ rfl hh hh) fun _=>?_
 refine My (cM rfl hh c19 hh) fun _=>?_
 revert H;refine I2 (fun c20 H=>?_) fun c20 H=>?_
 refine cO hh c20 ?_
 revert H;refine B6 fun r21 H e21=>?_
 cases e21;cases Hr5
 revert H;refine B4 fun r22 H e22=>?_
 cases e22;cases Hr4
 revert H;refine B3 fun r23 H e23=>?_
 cases e23;cases Hr3
 cases H
 refine aE [] (by decide) ?_
 exact To
 refine cN hh c20 ?_
 revert H;refine B2 fun o6 H Hr6=>?_
 refine aP (ι:=Unit) (fun i=>o6=Sum.inl ()) (fun i=>[(1,fEq (ptr b1)),(5,fEq v1),(6,fI x9),(7,fEq (ptr b3)),(8,fI x14),(9,fI y9)]) (fun i=>[aA b3 81 [fI y8.At,fSl tI y8.AU,fI y8.AQ],aA b1 77 [fSl aS a0.AK,fSl aV a0.AO,fSl aU a0.AL],aC v1 4 bK x13]) ?_ ?_
 refine Z4 ?_
 refine Tl (ι:=Nat × Int) (fun i=>mU y8 x14 y9 i.1 i.2=_) (fun i=>i.1) (fun i=>[(1,fEq (ptr b1)),(5,fEq v1),(6,fI x9),(7,fEq (ptr b3)),(8,fI x14),(9,fI y9),(10,fI i.2)]) (fun i=>[aA b3 81 [fI y8.At,fSl tI y8.AU,fI y8.AQ],aA b1 77 [fSl aS a0.AK,fSl aV a0.AO,fSl aU a0.AL],aC v1 4 bK x13]) (AA,0) H ?_
 clear H;rintro⟨k5,x17⟩ H
 replace H:mU y8 x14 y9 k5 x17=_:=H
 try dsimp only
 obtain _ | k5:=k5
 rw [mU]at H;cases H
 rw [mU]at H
 refine aI ?_
 revert H;refine I5 (fun c21 H=>?_) fun c21 H=>?_
 refine cO hh c21 ?_
 refine Z2 ?_
 refine aI ?_
 revert H;refine B5 fun y11 h13 H=>?_
 refine Yy (bW rfl hh hh (el rfl) h13) ?_
 revert H;refine I4 (fun c22 H=>?_) fun c22 H=>?_
 refine cO hh c22 ?_
 revert H;refine B9 fun r24 H e24=>?_
 cases e24;cases Hr6
 revert H;refine B2 fun r25 H e25=>?_
 cases e25;cases Hr5
 revert H;refine B4 fun r26 H e26=>?_
 cases e26;cases Hr4
 revert H;refine B3 fun r27 H e27=>?_
 cases e27;cases Hr3
 cases H
 refine aE [] (by decide) ?_
 exact To
 refine cN hh c22 ?_
 revert H;refine B5 fun z3 h14 H=>?_
 refine Yy (dO rfl hh hh h14) ?_
 refine Z2 ?_
 exact Tm ((k5,z3)) ⟨H,ls⟩
 refine cN hh c21 ?_
 refine Z5 ?_
 exact Tm (()) (ij H)
 clear H;intro i hi;subst o6;have H:=Hr6;clear Hr6;try dsimp only at H
 try dsimp only
 revert H;refine B3 fun y12 h15 H=>?_
 refine Yo 2 rfl (iQ rfl hh hh (el rfl) h15) ?_
 refine cW ?_
 refine aA2 (z':=true) a1Z rfl rfl rfl (has rfl) (has rfl) (aH a1Z) (sz rfl) (eW h15) rfl rfl ?_
 refine Z3 ?_
 refine aE [1,2,0] (by decide) ?_
 exact Tm (x13.set y9.toNat true) (ij H)
 exact fk
 kernel_rfl
 clear H;intro x15 hi;subst o5;have H:=Hr5;clear Hr5;try dsimp only at H
 try dsimp only
 revert H;refine B2 fun z4 h16 H=>?_
 refine Yy (dO rfl hh hh h16) ?_
 refine Z2 ?_
 exact Tm ((k4,x15,z4)) ⟨H,ls⟩
 refine cN hh c17 ?_
 refine Z6 ?_
 refine aE [1,2] (by decide) ?_
 exact Tm (x13) (ij H)
 clear H;intro x10 hi;subst o4;have H:=Hr4;clear Hr4;try dsimp only at H
 try dsimp only
 revert H;refine B2 fun z5 h17 H=>?_
 refine Yy (dO rfl hh hh h17) ?_
 refine Z2 ?_
 exact Tm ((k3,x10,z5)) ⟨H,ls⟩
 refine cN hh c12 ?_
 refine Z5 ?_
 exact Tm (x8) (ij H)
 clear H;intro x5 hi;subst o3;have H:=Hr3;clear Hr3;try dsimp only at H
 try dsimp only
 revert H;refine bs fun o7 H Hr7=>?_
 refine aP (ι:=Unit) (fun i=>o7=Sum.inl ()) (fun i=>[]) (fun i=>[aA b1 77 [fSl aS a0.AK,fSl aV a0.AO,fSl aU a0.AL]]) ?_ ?_
 refine Z4 ?_
 refine Tl (ι:=Nat × Int) (fun i=>oH x5 i.1 i.2=_) (fun i=>i.1) (fun i=>[(5,fEq v1),(11,fI i.2)]) (fun i=>[aA b1 77 [fSl aS a0.AK,fSl aV a0.AO,fSl aU a0.AL],aC v1 4 bK x5]) (AA,0) H ?_
 clear H;rintro⟨k6,x19⟩ H
 replace H:oH x5 k6 x19=_:=H
 try dsimp only
 obtain _ | k6:=k6
 rw [oH]at H;cases H
 rw [oH]at H
 refine aI ?_
 revert H;refine I6 (fun c23 H=>?_) fun c23 H=>?_
 refine cO hh c23 ?_
 refine Z2 ?_
 refine aI ?_
 revert H;refine B4 fun y13 h18 H=>?_
 refine Yo 1 rfl (iQ rfl hh hh (el rfl) h18) ?_
 refine Yo 1 rfl (jU rfl rfl hh (sc rfl) (eW h18) rfl) ?_
 refine Z2 ?_
 revert H;refine cs (fun c24 H=>?_) fun c24 H=>?_
 refine cN hh (oL c24) ?_
 revert H;refine B5 fun z6 h19 H=>?_
 refine Yy (dO rfl hh hh h19) ?_
 refine Z2 ?_
 exact Tm ((k6,z6)) ⟨H,ls⟩
 refine cO hh (pS c24) ?_
 revert H;refine B9 fun r28 H e28=>?_
 cases e28;cases Hr7
 cases H
 refine aE [] (by decide) ?_
 exact To
 refine cN hh c23 ?_
 refine Z5 ?_
 refine aE [0] (by decide) ?_
 exact Tm (()) (ij H)
 clear H;intro i hi;subst o7;have H:=Hr7;clear Hr7;try dsimp only at H
 try dsimp only
 refine Z4 ?_
 cases H
 refine aE [] (by decide) ?_
 exact To
open Go.SX Go.SW Go.Dt
def oT (rec_r03_expNodes:AR->Int->Option (Int)) (a0:AR) (a1:Int):Nat->Int->Int->Option (Int)
| 0,_,_=>none
| k+1,x4,x5=>
 if x5<(a0.AN.length:Int)then
  if x4<=a1 then
   (idx a0.AN x5).bind fun y1=>
   (chk (a1 - x4)).bind fun z1=>
   (rec_r03_expNodes y1 z1).bind fun y2=>
   (chk (x4+y2)).bind fun z2=>
   (chk (x5+1)).bind fun z3=>
   oT rec_r03_expNodes a0 a1 k z2 z3
  else
   some x4
 else
  some x4
def lK:Nat->AR->Int->Option (Int)
| 0,_,_=>none
| AA+1,a0,a1=>
 (oT (lK AA) a0 a1 AA 1 0).bind fun x1=>
 some x1
theorem aGJ:∀ (AA:Nat),(∀  (a0:AR) (a1:Int) (r:Int) (H:lK AA a0 a1=some r),FnS Tryz.prog 150 [fSt aO a0,fI a1] [] (fI r) (fun _=>[])):=by
 intro AA
 induction AA with
 | zero=>exact fun a0 a1 r H=>(by rw [lK]at H;cases H)
 | succ AA ih=>
 have ih_r03_expNodes:=@ih
 refine ?_
 intro a0 a1 r H
 rw [lK]at H
 refine bD Tryz.func150 rfl Tryz.ntmps150 rfl (fun β=>?_)
 refine Z1 ?_
 refine Tn (bR rfl hh bO) fun b1=>?_
 revert H;refine B5 fun o1 H Hr1=>?_
 refine aP (ι:=Int) (fun i=>o1=i) (fun i=>[(5,fI i)]) (fun i=>[aA b1 71 [fI a0.Op,fI a0.N,dD a0.AN]]) ?_ ?_
 refine Z4 ?_
 refine Tl (ι:=Nat × Int × Int) (fun i=>oT (lK AA) a0 a1 i.1 i.2.1 i.2.2=_) (fun i=>i.1) (fun i=>[(1,fI a1),(2,fEq (ptr b1)),(5,fI i.2.1),(6,fI i.2.2)]) (fun i=>[aA b1 71 [fI a0.Op,fI a0.N,dD a0.AN]]) (AA,1,0) H ?_
 clear H;rintro⟨k1,x4,x5⟩ H
 replace H:oT (lK AA) a0 a1 k1 x4 x5=_:=H
 try dsimp only
 obtain _ | k1:=k1
 rw [oT]at H;cases H
 rw [oT]at H
 refine aI ?_
 refine Z3 ?_
 refine Yo 0 rfl (bA rfl hh (sc rfl) rfl (eQ eG)) ?_
 revert H;refine I3 (fun c1 H=>?_) fun c1 H=>?_
 revert H;refine I5 (fun c2 H=>?_) fun c2 H=>?_
 refine Z3 ?_
 refine aI ?_
 refine Z4 ?_
 refine Yo 0 rfl (bA rfl hh (sc rfl) rfl (eQ eG)) ?_
 revert H;refine B1 fun y1 h1 H=>?_
 revert H;refine B4 fun z1 h2 H=>?_
 revert H;refine B1 fun y2 h3 H=>?_
 refine Tc (ih_r03_expNodes _ _ _ h3) ?_
 revert H;refine bs fun z2 h4 H=>?_
 revert H;refine B7 fun z3 h5 H=>?_
 refine Z3 ?_
 exact Tm ((k1,z2,z3)) ⟨H,ls⟩
 refine Z6 ?_
 exact Tm (x4) (ij H)
 refine Z11 ?_
 exact Tm (x4) (ij H)
 clear H;intro x1 hi;subst o1;have H:=Hr1;clear Hr1;try dsimp only at H
 try dsimp only
 refine Z5 ?_
 cases H
 refine aE [] (by decide) ?_
 exact To
def mT (rec_r03_expDepth:AR->Option (Int)) (a0:AR):Nat->Int->Int->Option (Int)
| 0,_,_=>none
| k+1,x4,x5=>
 if x5<(a0.AN.length:Int)then
  (idx a0.AN x5).bind fun y1=>
  (rec_r03_expDepth y1).bind fun y2=>
  (chk (x5+1)).bind fun z1=>
  mT rec_r03_expDepth a0 k (max x4 y2) z1
 else
  some x4
def lM:Nat->AR->Option (Int)
| 0,_=>none
| AA+1,a0=>
 (mT (lM AA) a0 AA 0 0).bind fun x1=>
 (chk (x1+1)).bind fun z2=>
 some z2
theorem aJF:∀ (AA:Nat),(∀  (a0:AR) (r:Int) (H:lM AA a0=some r),FnS Tryz.prog 151 [fSt aO a0] [] (fI r) (fun _=>[])):=by
 intro AA
 induction AA with
 | zero=>exact fun a0 r H=>(by rw [lM]at H;cases H)
 | succ AA ih=>
 have ih_r03_expDepth:=@ih
 refine ?_
 intro a0 r H
 rw [lM]at H
 refine bD Tryz.func151 rfl Tryz.ntmps151 rfl (fun β=>?_)
 refine Z1 ?_
 refine Tn (bR rfl hh bO) fun b1=>?_
 revert H;refine B5 fun o1 H Hr1=>?_
 refine aP (ι:=Int) (fun i=>o1=i) (fun i=>[(3,fI i)]) (fun i=>[aA b1 71 [fI a0.Op,fI a0.N,dD a0.AN]]) ?_ ?_
 refine Z4 ?_
 refine Tl (ι:=Nat × Int × Int) (fun i=>mT (lM AA) a0 i.1 i.2.1 i.2.2=_) (fun i=>i.1) (fun i=>[(1,fEq (ptr b1)),(3,fI i.2.1),(4,fI i.2.2)]) (fun i=>[aA b1 71 [fI a0.Op,fI a0.N,dD a0.AN]]) (AA,0,0) H ?_
 clear H;rintro⟨k1,x4,x5⟩ H
 replace H:mT (lM AA) a0 k1 x4 x5=_:=H
 try dsimp only
 obtain _ | k1:=k1
 rw [mT]at H;cases H
 rw [mT]at H
 refine aI ?_
 refine Z3 ?_
 refine Yo 0 rfl (bA rfl hh (sc rfl) rfl (eQ eG)) ?_
 revert H;refine I3 (fun c1 H=>?_) fun c1 H=>?_
 refine Z3 ?_
 refine aI ?_
 refine Z4 ?_
 refine Yo 0 rfl (bA rfl hh (sc rfl) rfl (eQ eG)) ?_
 revert H;refine B1 fun y1 h1 H=>?_
 revert H;refine B2 fun y2 h2 H=>?_
 refine Tc (ih_r03_expDepth _ _ h2) ?_
 refine Yy (o_max rfl hh hh) ?_
 revert H;refine B6 fun z1 h3 H=>?_
 refine Z3 ?_
 exact Tm ((k1,max x4 y2,z1)) ⟨H,ls⟩
 refine Z6 ?_
 exact Tm (x4) (ij H)
 clear H;intro x1 hi;subst o1;have H:=Hr1;clear Hr1;try dsimp only at H
 try dsimp only
 revert H;refine B2 fun z2 h4 H=>?_
 refine Z4 ?_
 cases H
 refine aE [] (by decide) ?_
 exact To
def rI:Nat->AR->Int->Option (Bool)
| 0,_,_=>none
| AA+1,a0,a1=>
 if a0.Op=1 then
  (if (a0.AN.length:Int)=0 then
   if (-1000000000)<=a0.N then
    some (decide (a0.N<=1000000000))
   else
    some false
  else
   some false).bind fun x1=>
  some x1
 else
  if a0.Op=2 then
   (if (a0.AN.length:Int)=0 then
    if 0<=a0.N then
     some (decide (a0.N<a1))
    else
     some false
   else
    some false).bind fun x2=>
   some x2
  else
   if a0.Op<3 then
    some false
   else
    if 7<a0.Op then
     some false
    else
     if (a0.AN.length:Int)≠2 then
      some false
     else
      if a0.N≠0 then
       some false
      else
       ((idx a0.AN 0).bind fun y1=>
       ((rI AA) y1 a1).bind fun y2=>
       bif y2 then
        (idx a0.AN 1).bind fun y3=>
        ((rI AA) y3 a1).bind fun y4=>
        some y4
       else
        some false).bind fun x3=>
       some x3
theorem aIX:∀ (AA:Nat),(∀  (a0:AR) (a1:Int) (r:Bool) (H:rI AA a0 a1=some r),FnS Tryz.prog 152 [fSt aO a0,fI a1] [] (aM r) (fun _=>[])):=by
 intro AA
 induction AA with
 | zero=>exact fun a0 a1 r H=>(by rw [rI]at H;cases H)
 | succ AA ih=>
 have ih_r03_expFormed:=@ih
 refine ?_
 intro a0 a1 r H
 rw [rI]at H
 refine bD Tryz.func152 rfl Tryz.ntmps152 rfl (fun β=>?_)
 refine Z1 ?_
 refine Tn (bR rfl hh bO) fun b1=>?_
 refine Z2 ?_
 refine aI ?_
 revert H;refine I7 (fun c1 H=>?_) fun c1 H=>?_
 revert H;refine B1 fun o1 H Hr1=>?_
 refine aP (ι:=Bool) (fun i=>o1=i) (fun i=>[(4,aM i)]) (fun i=>[aA b1 71 [fI a0.Op,fI a0.N,dD a0.AN]]) ?_ ?_
 refine Z2 ?_
 refine Yo 0 rfl (bA rfl hh (sc rfl) rfl (eQ eG)) ?_
 revert H;refine I3 (fun c2 H=>?_) fun c2 H=>?_
 revert H;refine I5 (fun c3 H=>?_) fun c3 H=>?_
 refine Z6 ?_
 exact Tm (decide (a0.N<=1000000000)) (ij H)
 refine Z6 ?_
 exact Tm (false) (ij H)
 refine Z11 ?_
 exact Tm (false) (ij H)
 clear H;intro x1 hi;subst o1;have H:=Hr1;clear Hr1;try dsimp only at H
 try dsimp only
 refine Z3 ?_
 cases H
 refine aE [] (by decide) ?_
 exact To
 revert H;refine I7 (fun c4 H=>?_) fun c4 H=>?_
 revert H;refine B1 fun o2 H Hr2=>?_
 refine aP (ι:=Bool) (fun i=>o2=i) (fun i=>[(4,aM i)]) (fun i=>[aA b1 71 [fI a0.Op,fI a0.N,dD a0.AN]]) ?_ ?_
 refine Z2 ?_
 refine Yo 0 rfl (bA rfl hh (sc rfl) rfl (eQ eG)) ?_
 revert H;refine I3 (fun c5 H=>?_) fun c5 H=>?_
 revert H;refine I5 (fun c6 H=>?_) fun c6 H=>?_
 refine Z7 ?_
 exact Tm (decide (a0.N<a1)) (ij H)
 refine Z7 ?_
 exact Tm (false) (ij H)
 refine Z12 ?_
 exact Tm (false) (ij H)
 clear H;intro x2 hi;subst o2;have H:=Hr2;clear Hr2;try dsimp only at H
 try dsimp only
 refine Z3 ?_
 cases H
 refine aE [] (by decide) ?_
 exact To
 revert H;refine I6 (fun c7 H=>?_) fun c7 H=>?_
 refine Z12 ?_
 refine Z12 ?_
 cases H
 refine aE [] (by decide) ?_
 exact To
 revert H;refine I5 (fun c8 H=>?_) fun c8 H=>?_
 refine Z12 ?_
 refine Z7 ?_
 cases H
 refine aE [] (by decide) ?_
 exact To
 refine Z1 ?_
 refine Yh 0 rfl c8 (bA rfl hh (sc rfl) rfl (eQ eG)) ?_
 revert H;refine I4 (fun c9 H=>?_) fun c9 H=>?_
 refine Z12 ?_
 refine Z1 ?_
 cases H
 refine aE [] (by decide) ?_
 exact To
 revert H;refine I6 (fun c10 H=>?_) fun c10 H=>?_
 refine Z7 ?_
 cases H
 refine aE [] (by decide) ?_
 exact To
 revert H;refine B4 fun o3 H Hr3=>?_
 refine aP (ι:=Bool) (fun i=>o3=i) (fun i=>[(4,aM i)]) (fun i=>[aA b1 71 [fI a0.Op,fI a0.N,dD a0.AN]]) ?_ ?_
 refine Z2 ?_
 refine Yo 0 rfl (bA rfl hh (sc rfl) rfl (eQ eG)) ?_
 revert H;refine bs fun y1 h1 H=>?_
 revert H;refine B3 fun y2 h2 H=>?_
 refine Tc (ih_r03_expFormed _ _ _ h2) ?_
 refine Z1 ?_
 revert H;refine cs (fun c11 H=>?_) fun c11 H=>?_
 refine Z1 ?_
 refine Yh 0 rfl c11 (bA rfl hh (sc rfl) rfl (eQ eG)) ?_
 revert H;refine bs fun y3 h3 H=>?_
 revert H;refine B3 fun y4 h4 H=>?_
 refine Tc (ih_r03_expFormed _ _ _ h4) ?_
 refine Z3 ?_
 exact Tm (y4) (ij H)
 refine Z9 ?_
 exact Tm (false) (ij H)
 clear H;intro x3 hi;subst o3;have H:=Hr3;clear Hr3;try dsimp only at H
 try dsimp only
 refine Z1 ?_
 cases H
 refine aE [] (by decide) ?_
 exact To
def wY (AA:Nat) (a0:AR) (a1:Int):Option (Bool):=
 ((lK AA (⟨a0.Op,a0.N,a0.AN⟩:AR) 60).bind fun y1=>
 if y1<=60 then
  (lM AA (⟨a0.Op,a0.N,a0.AN⟩:AR)).bind fun y2=>
  if y2<=12 then
   (rI AA (⟨a0.Op,a0.N,a0.AN⟩:AR) a1).bind fun y3=>
   some y3
  else
   some false
 else
  some false).bind fun x1=>
 some x1
theorem aHx (AA:Nat)  (a0:AR) (a1:Int) (r:Bool) (H:wY AA a0 a1=some r):FnS Tryz.prog 113 [fSt aO a0,fI a1] [] (aM r) (fun _=>[]):=by
 unfold wY at H
 refine bD Tryz.func113 rfl Tryz.ntmps113 rfl (fun β=>?_)
 refine Z1 ?_
 refine Tn (bR rfl hh bO) fun b1=>?_
 revert H;refine B2 fun o1 H Hr1=>?_
 refine aP (ι:=Bool) (fun i=>o1=i) (fun i=>[(4,aM i)]) (fun i=>[aA b1 71 [fI a0.Op,fI a0.N,dD a0.AN]]) ?_ ?_
 revert H;refine B2 fun y1 h1 H=>?_
 refine Tc (aGJ _ _ _ _ h1) ?_
 revert H;refine I2 (fun c1 H=>?_) fun c1 H=>?_
 revert H;refine B1 fun y2 h2 H=>?_
 refine Tc (aJF _ _ _ h2) ?_
 revert H;refine I3 (fun c2 H=>?_) fun c2 H=>?_
 revert H;refine B2 fun y3 h3 H=>?_
 refine Tc (aIX _ _ _ _ h3) ?_
 refine Z3 ?_
 exact Tm (y3) (ij H)
 refine Z6 ?_
 exact Tm (false) (ij H)
 refine Z11 ?_
 exact Tm (false) (ij H)
 clear H;intro x1 hi;subst o1;have H:=Hr1;clear Hr1;try dsimp only at H
 try dsimp only
 refine Z1 ?_
 cases H
 refine aE [] (by decide) ?_
 exact To
def uO (a0:Int):Option (Int × Int × Bool):=
 (if a0=1 then
  some (decide (a0=1))
 else
  some (decide (a0=7))).bind fun x1=>
 bif x1 then
  some (0,0,true)
 else
  if a0=2 then
   some ((-1),0,true)
  else
   if a0=3 then
    some (0,2,true)
   else
    if a0=5 then
     some (1,2,true)
    else
     (if a0=4 then
      some (decide (a0=4))
     else
      if a0=6 then
       some (decide (a0=6))
      else
       some (decide (a0=8))).bind fun x2=>
     bif x2 then
      some (0,1,true)
     else
      some (0,0,false)
theorem aIB  (a0:Int) (r:Int × Int × Bool) (H:uO a0=some r):FnS Tryz.prog 117 [fI a0] [] (dK [fI r.1,fI r.2.1,aM r.2.2]) (fun _=>[]):=by
 unfold uO at H
 refine bD Tryz.func117 rfl Tryz.ntmps117 rfl (fun β=>?_)
 refine Z5 ?_
 refine aI ?_
 revert H;refine B4 fun o1 H Hr1=>?_
 refine aP (ι:=Bool) (fun i=>o1=i) (fun i=>[(5,fI a0),(6,aM i)]) (fun i=>[]) ?_ ?_
 revert H;refine I4 (fun c1 H=>?_) fun c1 H=>?_
 refine Z3 ?_
 exact Tm (decide (a0=1)) (ij H)
 refine Z5 ?_
 exact Tm (decide (a0=7)) (ij H)
 clear H;intro x1 hi;subst o1;have H:=Hr1;clear Hr1;try dsimp only at H
 try dsimp only
 revert H;refine cs (fun c2 H=>?_) fun c2 H=>?_
 refine Z9 ?_
 cases H
 exact vC rfl (cC rfl) (cC rfl) (cC rfl) rfl
 revert H;refine I5 (fun c3 H=>?_) fun c3 H=>?_
 refine Z9 ?_
 cases H
 exact vC rfl (cC rfl) (cC rfl) (cC rfl) rfl
 revert H;refine I5 (fun c4 H=>?_) fun c4 H=>?_
 refine Z9 ?_
 cases H
 exact vC rfl (cC rfl) (cC rfl) (cC rfl) rfl
 revert H;refine I5 (fun c5 H=>?_) fun c5 H=>?_
 refine Z9 ?_
 cases H
 exact vC rfl (cC rfl) (cC rfl) (cC rfl) rfl
 revert H;refine B1 fun o2 H Hr2=>?_
 refine aP (ι:=Bool) (fun i=>o2=i) (fun i=>[(15,aM i)]) (fun i=>[]) ?_ ?_
 revert H;refine I4 (fun c6 H=>?_) fun c6 H=>?_
 refine Z3 ?_
 exact Tm (decide (a0=4)) (ij H)
 revert H;refine I5 (fun c7 H=>?_) fun c7 H=>?_
 refine Z3 ?_
 exact Tm (decide (a0=6)) (ij H)
 refine Z5 ?_
 exact Tm (decide (a0=8)) (ij H)
 clear H;intro x2 hi;subst o2;have H:=Hr2;clear Hr2;try dsimp only at H
 try dsimp only
 revert H;refine cs (fun c8 H=>?_) fun c8 H=>?_
 refine Z9 ?_
 cases H
 exact vC rfl (cC rfl) (cC rfl) (cC rfl) rfl
 refine Z10 ?_
 cases H
 exact vC rfl (cC rfl) (cC rfl) (cC rfl) rfl
def uR (a0:AM):Option (Int):=
 (chk ((a0.AK.length:Int)+(a0.AO.length:Int))).bind fun z1=>
 some z1
theorem aGZ  (a0:AM) (r:Int) (H:uR a0=some r):FnS Tryz.prog 118 [fSt aB a0] [] (fI r) (fun _=>[]):=by
 unfold uR at H
 refine bD Tryz.func118 rfl Tryz.ntmps118 rfl (fun β=>?_)
 refine Z1 ?_
 refine Tn (bR rfl hh bO) fun b1=>?_
 revert H;refine B9 fun z1 h1 H=>?_
 refine Z4 ?_
 cases H
 refine aE [] (by decide) ?_
 exact To
def oZ (a0:AM) (a1:Af):Nat->Int->Int->Option (Int)
| 0,_,_=>none
| k+1,x4,x5=>
 if x5<(a1.AU.length:Int)then
  (idx a1.AU x5).bind fun y1=>
  (idx a0.AK y1).bind fun y2=>
  (chk (x4+y2.Ak)).bind fun z1=>
  (chk (x5+1)).bind fun z2=>
  oZ a0 a1 k z1 z2
 else
  some x4
def wQ (AA:Nat) (a0:AM) (a1:Af):Option (Int):=
 (oZ a0 a1 AA 0 0).bind fun x1=>
 some x1
theorem aHR (AA:Nat)  (a0:AM) (a1:Af) (r:Int) (H:wQ AA a0 a1=some r):FnS Tryz.prog 153 [fSt aB a0,fSt aU a1] [] (fI r) (fun _=>[]):=by
 unfold wQ at H
 refine bD Tryz.func153 rfl Tryz.ntmps153 rfl (fun β=>?_)
 refine Z1 ?_
 refine Tn (bR rfl hh bO) fun b1=>?_
 refine Tn (bR rfl hh bO) fun b2=>?_
 revert H;refine B5 fun o1 H Hr1=>?_
 refine aP (ι:=Int) (fun i=>o1=i) (fun i=>[(5,fI i)]) (fun i=>[aA b2 81 [fI a1.At,fSl tI a1.AU,fI a1.AQ],aA b1 77 [fSl aS a0.AK,fSl aV a0.AO,fSl aU a0.AL]]) ?_ ?_
 refine Z4 ?_
 refine Tl (ι:=Nat × Int × Int) (fun i=>oZ a0 a1 i.1 i.2.1 i.2.2=_) (fun i=>i.1) (fun i=>[(2,fEq (ptr b1)),(3,fEq (ptr b2)),(5,fI i.2.1),(6,fI i.2.2)]) (fun i=>[aA b2 81 [fI a1.At,fSl tI a1.AU,fI a1.AQ],aA b1 77 [fSl aS a0.AK,fSl aV a0.AO,fSl aU a0.AL]]) (AA,0,0) H ?_
 clear H;rintro⟨k1,x4,x5⟩ H
 replace H:oZ a0 a1 k1 x4 x5=_:=H
 try dsimp only
 obtain _ | k1:=k1
 rw [oZ]at H;cases H
 rw [oZ]at H
 refine aI ?_
 revert H;refine I7 (fun c1 H=>?_) fun c1 H=>?_
 refine Z3 ?_
 refine aI ?_
 revert H;refine B1 fun y1 h1 H=>?_
 revert H;refine bs fun y2 h2 H=>?_
 revert H;refine bs fun z1 h3 H=>?_
 apply bJ (ods:=[_,_,_,_,_,_,_,_,_,_,_,_,_]) 13 0 2 bI rfl rfl rfl
 refine ND ?_
 refine M8 ?_
 intros
 refine M5 ?_
 intros
 revert H;refine B6 fun z2 h4 H=>?_
 refine Z3 ?_
 exact Tm ((k1,z1,z2)) ⟨H,ls⟩
 exact fk
 kernel_rfl
 refine Z6 ?_
 exact Tm (x4) (ij H)
 clear H;intro x1 hi;subst o1;have H:=Hr1;clear Hr1;try dsimp only at H
 try dsimp only
 refine Z5 ?_
 cases H
 refine aE [] (by decide) ?_
 exact To
open Go.SX Go.SW Go.Dt
def jB (AA:Nat) (a2:Int) (y5:AW):Nat->Int->Bool->Option (Bool)
| 0,_,_=>none
| k+1,x4,x5=>
 if x4<(y5.AS.length:Int)then
  (bif x5 then
   some true
  else
   (idx y5.AS x4).bind fun y7=>
   (wY AA y7 a2).bind fun y8=>
   some (!y8)).bind fun x6=>
  (chk (x4+1)).bind fun z2=>
  jB AA a2 y5 k z2 x6
 else
  some x5
def iY (rec_r03_look_node:Aa->Int->Int->Option (Aa)) (y5:AW) (x7:Int):Nat->Int->(List ByteArray)->(List AW)->(List AM)->Int->(List Int)->(List Int)->(List Int)->Bool->Option (Aa)
| 0,_,_,_,_,_,_,_,_,_=>none
| k+1,x26,x27,x28,x29,x30,x31,x32,x33,x34=>
 if x26<(y5.AN.length:Int)then
  bif x34 then
   some (⟨(⟨x27,x28,x29,x30⟩:AI),x31,x32,x33,x34⟩:Aa)
  else
   (idx y5.AN x26).bind fun y16=>
   (rec_r03_look_node (⟨(⟨x27,x28,x29,x30⟩:AI),x31,x32,x33,x34⟩:Aa) y16 x7).bind fun y17=>
   (chk (x26+1)).bind fun z5=>
   iY rec_r03_look_node y5 x7 k z5 y17.p.AF y17.p.AD y17.p.AE y17.p.AG y17.AY y17.Ah y17.Ag y17.bad
 else
  some (⟨(⟨x27,x28,x29,x30⟩:AI),x31,x32,x33,x34⟩:Aa)
def kD (AA:Nat) (rec_r03_look_node:Aa->Int->Int->Option (Aa)) (a1:AM) (a2:Int):Nat->Int->(List ByteArray)->(List AW)->(List AM)->Int->(List Int)->(List Int)->(List Int)->Bool->Option (List ByteArray × List AW × List AM × Int × List Int × List Int × List Int × Bool)
| 0,_,_,_,_,_,_,_,_,_=>none
| k+1,x18,x19,x20,x21,x22,x23,x24,x25,x26=>
 if x18<(a1.AL.length:Int)then
  bif x26 then
   some (x19,x20,x21,x22,x23,x24,x25,x26)
  else
   (idx a1.AL x18).bind fun y1=>
   (idx a1.AL x18).bind fun y2=>
   (wQ AA (⟨a1.AK,a1.AO,a1.AL⟩:AM) y2).bind fun y3=>
   (chk (a2+y3)).bind fun z1=>
   (rec_r03_look_node (⟨(⟨x19,x20,x21,x22⟩:AI),x23,x24,x25,x26⟩:Aa) y1.AQ z1).bind fun y4=>
   (chk (x18+1)).bind fun z2=>
   kD AA rec_r03_look_node a1 a2 k z2 y4.p.AF y4.p.AD y4.p.AE y4.p.AG y4.AY y4.Ah y4.Ag y4.bad
 else
  some (x19,x20,x21,x22,x23,x24,x25,x26)
def kA (rec_r03_look_node:Aa->Int->Int->Option (Aa)) (a1:AM) (a2:Int):Nat->Int->(List ByteArray)->(List AW)->(List AM)->Int->(List Int)->(List Int)->(List Int)->Bool->Option (Aa)
| 0,_,_,_,_,_,_,_,_,_=>none
| k+1,x36,x37,x38,x39,x40,x41,x42,x43,x44=>
 if x36<(a1.AO.length:Int)then
  bif x44 then
   some (⟨(⟨x37,x38,x39,x40⟩:AI),x41,x42,x43,x44⟩:Aa)
  else
   (idx a1.AO x36).bind fun y5=>
   (rec_r03_look_node (⟨(⟨x37,x38,x39,x40⟩:AI),x41,x42,x43,x44⟩:Aa) y5.AQ a2).bind fun y6=>
   (chk (x36+1)).bind fun z3=>
   kA rec_r03_look_node a1 a2 k z3 y6.p.AF y6.p.AD y6.p.AE y6.p.AG y6.AY y6.Ah y6.Ag y6.bad
 else
  some (⟨(⟨x37,x38,x39,x40⟩:AI),x41,x42,x43,x44⟩:Aa)
mutual
def eK:Nat->Aa->Int->Int->Option (Aa)
| 0,_,_,_=>none
| AA+1,a0,a1,a2=>
 if a1<0 then
  some (⟨(⟨a0.p.AF,a0.p.AD,a0.p.AE,a0.p.AG⟩:AI),a0.AY,a0.Ah,a0.Ag,true⟩:Aa)
 else
  if (a0.p.AD.length:Int)<=a1 then
   some (⟨(⟨a0.p.AF,a0.p.AD,a0.p.AE,a0.p.AG⟩:AI),a0.AY,a0.Ah,a0.Ag,true⟩:Aa)
  else
   (idx a0.Ah a1).bind fun y1=>
   if 0<y1 then
    some (⟨(⟨a0.p.AF,a0.p.AD,a0.p.AE,a0.p.AG⟩:AI),a0.AY,a0.Ah,a0.Ag,true⟩:Aa)
   else
    (idx a0.Ah a1).bind fun y2=>
    (chk (y2+1)).bind fun z1=>
    (idx a0.Ah a1).bind fun y3=>
    (idx a0.AY a1).bind fun y4=>
    (idx a0.p.AD a1).bind fun y5=>
    (uO y5.Op).bind fun y6=>
    (bif !y6.2.2 then
     (some (⟨(⟨a0.p.AF,a0.p.AD,a0.p.AE,a0.p.AG⟩:AI),a0.AY.set a1.toNat a2,a0.Ah.set a1.toNat z1,a0.Ag,true⟩:Aa)).bind fun r=>some (Sum.inr r)
    else
     if (y5.AN.length:Int)≠y6.2.1 then
      (some (⟨(⟨a0.p.AF,a0.p.AD,a0.p.AE,a0.p.AG⟩:AI),a0.AY.set a1.toNat a2,a0.Ah.set a1.toNat z1,a0.Ag,true⟩:Aa)).bind fun r=>some (Sum.inr r)
     else
      if y6.1<0 then
       if 3<(y5.AS.length:Int)then
        (some (⟨(⟨a0.p.AF,a0.p.AD,a0.p.AE,a0.p.AG⟩:AI),a0.AY.set a1.toNat a2,a0.Ah.set a1.toNat z1,a0.Ag,true⟩:Aa)).bind fun r=>some (Sum.inr r)
       else
        if 0<=y6.1 then
         if (y5.AS.length:Int)≠y6.1 then
          (some (⟨(⟨a0.p.AF,a0.p.AD,a0.p.AE,a0.p.AG⟩:AI),a0.AY.set a1.toNat a2,a0.Ah.set a1.toNat z1,a0.Ag,true⟩:Aa)).bind fun r=>some (Sum.inr r)
         else
          some (Sum.inl ())
        else
         some (Sum.inl ())
      else
       if 0<=y6.1 then
        if (y5.AS.length:Int)≠y6.1 then
         (some (⟨(⟨a0.p.AF,a0.p.AD,a0.p.AE,a0.p.AG⟩:AI),a0.AY.set a1.toNat a2,a0.Ah.set a1.toNat z1,a0.Ag,true⟩:Aa)).bind fun r=>some (Sum.inr r)
        else
         some (Sum.inl ())
       else
        some (Sum.inl ())).bind fun o=>match o with
    | Sum.inr r=>some r
    | Sum.inl _=>
    (jB AA a2 y5 AA 0 a0.bad).bind fun x1=>
    ((if y5.Op=2 then
     some (decide (y5.Op=2))
    else
     if y5.Op=6 then
      some (decide (y5.Op=6))
     else
      some (decide (y5.Op=8))).bind fun x16=>
    bif x16 then
     bif x1 then
      some (Sum.inl (a2,a0.p.AF,a0.p.AD,a0.p.AE,a0.p.AG,a0.AY.set a1.toNat a2,a0.Ah.set a1.toNat z1,a0.Ag,true))
     else
      if y5.N<0 then
       some (Sum.inl (a2,a0.p.AF,a0.p.AD,a0.p.AE,a0.p.AG,a0.AY.set a1.toNat a2,a0.Ah.set a1.toNat z1,a0.Ag,true))
      else
       some (Sum.inl (a2,a0.p.AF,a0.p.AD,a0.p.AE,a0.p.AG,a0.AY.set a1.toNat a2,a0.Ah.set a1.toNat z1,a0.Ag,decide (a2<=y5.N)))
    else
     if y5.Op=4 then
      if y5.N<0 then
       (some (⟨(⟨a0.p.AF,a0.p.AD,a0.p.AE,a0.p.AG⟩:AI),a0.AY.set a1.toNat a2,a0.Ah.set a1.toNat z1,a0.Ag,true⟩:Aa)).bind fun r=>some (Sum.inr r)
      else
       if (a0.p.AE.length:Int)<=y5.N then
        (some (⟨(⟨a0.p.AF,a0.p.AD,a0.p.AE,a0.p.AG⟩:AI),a0.AY.set a1.toNat a2,a0.Ah.set a1.toNat z1,a0.Ag,true⟩:Aa)).bind fun r=>some (Sum.inr r)
       else
        (idx a0.Ag y5.N).bind fun y9=>
        if 0<y9 then
         (some (⟨(⟨a0.p.AF,a0.p.AD,a0.p.AE,a0.p.AG⟩:AI),a0.AY.set a1.toNat a2,a0.Ah.set a1.toNat z1,a0.Ag,true⟩:Aa)).bind fun r=>some (Sum.inr r)
        else
         (idx a0.Ag y5.N).bind fun y10=>
         (chk (y10+1)).bind fun z3=>
         (idx a0.Ag y5.N).bind fun y11=>
         (idx a0.p.AE y5.N).bind fun y12=>
         (uR y12).bind fun y13=>
         (chk (a2+y13)).bind fun z4=>
         (idx a0.p.AE y5.N).bind fun y14=>
         ((mV AA) (⟨(⟨a0.p.AF,a0.p.AD,a0.p.AE,a0.p.AG⟩:AI),a0.AY.set a1.toNat a2,a0.Ah.set a1.toNat z1,a0.Ag.set y5.N.toNat z3,x1⟩:Aa) y14 z4).bind fun y15=>
         some (Sum.inl (z4,y15.p.AF,y15.p.AD,y15.p.AE,y15.p.AG,y15.AY,y15.Ah,y15.Ag,y15.bad))
     else
      bif x1 then
       some (Sum.inl (a2,a0.p.AF,a0.p.AD,a0.p.AE,a0.p.AG,a0.AY.set a1.toNat a2,a0.Ah.set a1.toNat z1,a0.Ag,true))
      else
       some (Sum.inl (a2,a0.p.AF,a0.p.AD,a0.p.AE,a0.p.AG,a0.AY.set a1.toNat a2,a0.Ah.set a1.toNat z1,a0.Ag,decide (y5.N≠0)))).bind fun o=>match o with
    | Sum.inr r=>some r
    | Sum.inl (x7,x8,x9,x10,x11,x12,x13,x14,x15)=>
    iY (eK AA) y5 x7 AA 0 x8 x9 x10 x11 x12 x13 x14 x15
def mV:Nat->Aa->AM->Int->Option (Aa)
| 0,_,_,_=>none
| AA+1,a0,a1,a2=>
 (kD AA (eK AA) a1 a2 AA 0 a0.p.AF a0.p.AD a0.p.AE a0.p.AG a0.AY a0.Ah a0.Ag a0.bad).bind fun (x1,x2,x3,x4,x5,x6,x7,x8)=>
 kA (eK AA) a1 a2 AA 0 x1 x2 x3 x4 x5 x6 x7 x8
end
theorem aJs:∀ (AA:Nat),(∀ (p0:Nat) (a0:Aa) (a1:Int) (a2:Int) (r:Aa) (H:eK AA a0 a1 a2=some r),FnS Tryz.prog 84 [fEq (.pointer (some ⟨p0,0,none⟩)),fI a1,fI a2] [qA p0 a0] (dK []) (fun _=>[qA p0 r]))/\(∀ (p0:Nat) (a0:Aa) (a1:AM) (a2:Int) (r:Aa) (H:mV AA a0 a1 a2=some r),FnS Tryz.prog 119 [fEq (.pointer (some ⟨p0,0,none⟩)),fSt aB a1,fI a2] [qA p0 a0] (dK []) (fun _=>[qA p0 r])):=by
 intro AA
 induction AA with
 | zero=>exact⟨fun p0 a0 a1 a2 r H=>(by rw [eK]at H;cases H),fun p0 a0 a1 a2 r H=>(by rw [mV]at H;cases H)⟩
 | succ AA ih=>
 obtain⟨ih_r03_look_node,ih_r03_look_def⟩:=@ih
 refine⟨?_,?_⟩
 intro p0 a0 a1 a2 r H
 rw [eK]at H
 refine bD Tryz.func84 rfl Tryz.ntmps84 rfl (fun β=>?_)
 refine sY (fun v1 v2 v3=>?_)
 refine aK 1 rfl (fun hc_v1=>?_)
 refine aK 2 rfl (fun hc_v2=>?_)
 refine aK 3 rfl (fun hc_v3=>?_)
 refine aI ?_
 revert H;refine I4 (fun c1 H=>?_) fun c1 H=>?_
 refine Yt c1 ?_
 refine Yt c1 ?_
 refine Yt c1 ?_
 refine Yt c1 ?_
 refine Yt c1 ?_
 refine Yt c1 ?_
 refine Yt c1 ?_
 refine Yt c1 ?_
 refine Yy (dC rfl hh c1 hh) ?_
 refine Z12 ?_
 refine Z4 ?_
 refine bX (φs':=[fSl aD a0.p.AF,fSl aN a0.p.AD,fSl aB a0.p.AE,fI a0.p.AG,fEq v1,fEq v2,fEq v3,aM true]) a1Z rfl rfl (has rfl) (has rfl) (aH a1Z) (sz rfl) rfl rfl ?_
 refine Z2 ?_
 refine fQ (x:=(⟨(⟨a0.p.AF,a0.p.AD,a0.p.AE,a0.p.AG⟩:AI),a0.AY,a0.Ah,a0.Ag,true⟩:Aa)) ?_
 cases H
 exact eD (.inl rfl) rfl rfl
 refine Yg c1 (cI rfl hh) ?_
 refine Yg c1 (cI rfl hh) ?_
 refine Yg c1 (jO rfl (has rfl) (fun m v h=>⟨_,h⟩)) ?_
 refine Yg c1 (bT 0 rfl hh (fa rfl) rfl) ?_
 refine Yg c1 (bT 1 rfl hh (fa rfl) rfl) ?_
 refine Yh 0 rfl c1 (bA rfl hh (sc rfl) rfl Ent.rfl) ?_
 refine Yg c1 (eP rfl hh (us rfl)) ?_
 refine Yg c1 (rM rfl hh hh) ?_
 refine Yy (cM rfl hh c1 hh) ?_
 revert H;refine I1 (fun c2 H=>?_) fun c2 H=>?_
 refine Yt c2 ?_
 refine Yt c2 ?_
 refine Yt c2 ?_
 refine Yt c2 ?_
 refine Yt c2 ?_
 refine Yt c2 ?_
 refine Yt c2 ?_
 refine Yt c2 ?_
 refine Yy (dC rfl hh c2 hh) ?_
 refine Z6 ?_
 refine bX (φs':=[fSl aD a0.p.AF,fSl aN a0.p.AD,fSl aB a0.p.AE,fI a0.p.AG,fEq v1,fEq v2,fEq v3,aM true]) a1Z rfl rfl (has rfl) (has rfl) (aH a1Z) (sz rfl) rfl rfl ?_
 refine Z2 ?_
 refine fQ (x:=(⟨(⟨a0.p.AF,a0.p.AD,a0.p.AE,a0.p.AG⟩:AI),a0.AY,a0.Ah,a0.Ag,true⟩:Aa)) ?_
 cases H
 exact eD (.inl rfl) rfl rfl
 refine Yg c2 (cI rfl hh) ?_
 refine Yg c2 (jO rfl (has rfl) (fun m v h=>⟨_,h⟩)) ?_
 refine Yg c2 (bT 5 rfl hh (fa rfl) rfl) ?_
 refine Yh 0 rfl c2 (bA rfl hh (sc rfl) rfl Ent.rfl) ?_
 refine Yg c2 (cI rfl hh) ?_
 revert H;refine bs fun y1 h1 H=>?_
 refine Yh 2 rfl c2 (iQ rfl hh hh (el rfl) h1) ?_
 refine Yh 2 rfl c2 (jU rfl rfl hh (sc rfl) (eW h1) rfl) ?_
 refine Yg c2 (gK rfl hh hh) ?_
 refine Yy (cM rfl hh c2 hh) ?_
 revert H;refine I1 (fun c3 H=>?_) fun c3 H=>?_
 refine cO hh c3 ?_
 refine Z4 ?_
 refine bX (φs':=[fSl aD a0.p.AF,fSl aN a0.p.AD,fSl aB a0.p.AE,fI a0.p.AG,fEq v1,fEq v2,fEq v3,aM true]) a1Z rfl rfl (has rfl) (has rfl) (aH a1Z) (sz rfl) rfl rfl ?_
 refine Z2 ?_
 refine fQ (x:=(⟨(⟨a0.p.AF,a0.p.AD,a0.p.AE,a0.p.AG⟩:AI),a0.AY,a0.Ah,a0.Ag,true⟩:Aa)) ?_
 cases H
 exact eD (.inl rfl) rfl rfl
 refine cN hh c3 ?_
 revert H;refine B8 fun y2 h2 H=>?_
 refine Yo 2 rfl (iQ rfl hh hh (el rfl) h2) ?_
 refine Yo 2 rfl (jU rfl rfl hh (sc rfl) (eW h2) rfl) ?_
 revert H;refine bs fun z1 h3 H=>?_
 refine Yy (dO rfl hh hh h3) ?_
 revert H;refine bs fun y3 h4 H=>?_
 refine Yo 2 rfl (iQ rfl hh hh (el rfl) h4) ?_
 refine cW ?_
 refine aA2 (z':=z1) a1Z rfl rfl rfl (has rfl) (has rfl) (aH a1Z) (sz rfl) (eW h4) rfl rfl ?_
 revert H;refine B8 fun y4 h5 H=>?_
 refine Yo 2 rfl (iQ rfl hh hh (el rfl) h5) ?_
 refine cW ?_
 refine aA2 (z':=a2) a1Z rfl rfl rfl (has rfl) (has rfl) (aH a1Z) (sz rfl) (eW h5) rfl rfl ?_
 revert H;refine B8 fun y5 h6 H=>?_
 refine Yy (bW rfl hh hh (el rfl) h6) ?_
 refine Z1 ?_
 refine Tn (bP rfl mG rfl) fun b1=>?_
 refine cT (φs':=[fI y5.Op,fI y5.N,fSl aO y5.AS,fSl tI y5.AN]) a1Z rfl rfl (has rfl) (has rfl) (aG (aH a1Z) (aG (aH a1Z) (aG (aT) (aG (aT) bH)))) (sz rfl) rfl rfl rfl ?_
 revert H;refine B4 fun y6 h7 H=>?_
 refine Tc (aIB _ _ h7) ?_
 revert H;refine B8 fun o1 H Hr1=>?_
 refine aP (ι:=Unit) (fun i=>o1=Sum.inl ()) (fun i=>[(0,fEq (ptr p0)),(2,fI a2),(6,fEq (ptr b1))]) (fun i=>[aA b1 65 [fI y5.Op,fI y5.N,fSl aO y5.AS,fSl tI y5.AN],aA p0 122 [fSl aD a0.p.AF,fSl aN a0.p.AD,fSl aB a0.p.AE,fI a0.p.AG,fEq v1,fEq v2,fEq v3,aM a0.bad],aC v1 3 tI (a0.AY.set a1.toNat a2),aC v2 3 tI (a0.Ah.set a1.toNat z1),aC v3 3 tI a0.Ag]) ?_ ?_
 refine Z4 ?_
 revert H;refine cs (fun c4 H=>?_) fun c4 H=>?_
 refine Yt c4 ?_
 refine Yt c4 ?_
 refine Yt c4 ?_
 refine Yt c4 ?_
 refine Yt c4 ?_
 refine Yy (dC rfl hh c4 hh) ?_
 refine Z4 ?_
 refine dP (⟨_,_,_,_,rfl,rfl,rfl,nu⟩) rfl rfl ?_
 refine dP (⟨_,_,_,_,rfl,rfl,rfl,nu⟩) rfl rfl ?_
 refine dP (⟨_,_,_,_,rfl,rfl,rfl,nu⟩) rfl rfl ?_
 refine dP (⟨_,_,_,_,rfl,rfl,rfl,nu⟩) rfl rfl ?_
 refine Z6 ?_
 refine dP (⟨_,_,_,_,rfl,rfl,rfl,nu⟩) rfl rfl ?_
 refine dP (⟨_,_,_,_,rfl,rfl,rfl,nu⟩) rfl rfl ?_
 refine dP (⟨_,_,_,_,rfl,rfl,rfl,nu⟩) rfl rfl ?_
 refine dP (⟨_,_,_,_,rfl,rfl,rfl,nu⟩) rfl rfl ?_
 refine dP (⟨_,_,_,_,rfl,rfl,rfl,nu⟩) rfl rfl ?_
 refine Z8 ?_
 refine cV ?_
 refine bX (φs':=[fSl aD a0.p.AF,fSl aN a0.p.AD,fSl aB a0.p.AE,fI a0.p.AG,fEq v1,fEq v2,fEq v3,aM true]) a1Z rfl rfl (has rfl) (has rfl) (aH a1Z) (sz rfl) rfl rfl ?_
 revert H;refine B2 fun r1 H e1=>?_
 cases e1;cases Hr1
 refine aY ?_
 refine aY ?_
 refine aY ?_
 refine cV ?_
 refine fQ (x:=(⟨(⟨a0.p.AF,a0.p.AD,a0.p.AE,a0.p.AG⟩:AI),a0.AY.set a1.toNat a2,a0.Ah.set a1.toNat z1,a0.Ag,true⟩:Aa)) ?_
 cases H
 refine aE [0] (by decide) ?_
 exact eD (.inl rfl) rfl rfl
 refine Yg c4 (bT 3 rfl hh (fa rfl) rfl) ?_
 refine Yh 0 rfl c4 (bA rfl hh (sc rfl) rfl Ent.rfl) ?_
 refine Yg c4 (eP rfl hh (us rfl)) ?_
 refine Yg c4 (cI rfl hh) ?_
 refine Yg c4 (lZ rfl hh hh) ?_
 refine Yy (cM rfl hh c4 hh) ?_
 revert H;refine I1 (fun c5 H=>?_) fun c5 H=>?_
 refine Yt c5 ?_
 refine Yt c5 ?_
 refine Yt c5 ?_
 refine dP (⟨_,_,_,_,rfl,rfl,rfl,nu⟩) rfl rfl ?_
 refine dP (⟨_,_,_,_,rfl,rfl,rfl,nu⟩) rfl rfl ?_
 refine dP (⟨_,_,_,_,rfl,rfl,rfl,nu⟩) rfl rfl ?_
 refine dP (⟨_,_,_,_,rfl,rfl,rfl,nu⟩) rfl rfl ?_
 refine Yt c5 ?_
 refine Yy (dC rfl hh c5 hh) ?_
 refine Z4 ?_
 refine dP (⟨_,_,_,_,rfl,rfl,rfl,nu⟩) rfl rfl ?_
 refine dP (⟨_,_,_,_,rfl,rfl,rfl,nu⟩) rfl rfl ?_
 refine dP (⟨_,_,_,_,rfl,rfl,rfl,nu⟩) rfl rfl ?_
 refine dP (⟨_,_,_,_,rfl,rfl,rfl,nu⟩) rfl rfl ?_
 refine dP (⟨_,_,_,_,rfl,rfl,rfl,nu⟩) rfl rfl ?_
 refine Z8 ?_
 refine cV ?_
 refine bX (φs':=[fSl aD a0.p.AF,fSl aN a0.p.AD,fSl aB a0.p.AE,fI a0.p.AG,fEq v1,fEq v2,fEq v3,aM true]) a1Z rfl rfl (has rfl) (has rfl) (aH a1Z) (sz rfl) rfl rfl ?_
 revert H;refine B2 fun r2 H e2=>?_
 cases e2;cases Hr1
 refine aY ?_
 refine aY ?_
 refine aY ?_
 refine cV ?_
 refine fQ (x:=(⟨(⟨a0.p.AF,a0.p.AD,a0.p.AE,a0.p.AG⟩:AI),a0.AY.set a1.toNat a2,a0.Ah.set a1.toNat z1,a0.Ag,true⟩:Aa)) ?_
 cases H
 refine aE [0] (by decide) ?_
 exact eD (.inl rfl) rfl rfl
 refine Yg c5 (cI rfl hh) ?_
 refine Yg c5 (vQ rfl hh hh) ?_
 refine Yg c5 (cI rfl hh) ?_
 revert H;refine is (fun c6 H=>?_) fun c6 H=>?_
 refine Yg c6 (bT 2 rfl hh (fa rfl) rfl) ?_
 refine Yh 0 rfl c6 (bA rfl hh (sc rfl) rfl Ent.rfl) ?_
 refine Yg c6 (eP rfl hh (us rfl)) ?_
 refine Yg c6 (gK rfl hh hh) ?_
 refine Yg c5 (dC rfl hh c6 hh) ?_
 refine Yy (cM rfl hh c5 hh) ?_
 revert H;refine I1 (fun c7 H=>?_) fun c7 H=>?_
 refine Yt c7 ?_
 refine Yt c7 ?_
 refine Yt c7 ?_
 refine dP (⟨_,_,_,_,rfl,rfl,rfl,nu⟩) rfl rfl ?_
 refine dP (⟨_,_,_,_,rfl,rfl,rfl,nu⟩) rfl rfl ?_
 refine dP (⟨_,_,_,_,rfl,rfl,rfl,nu⟩) rfl rfl ?_
 refine dP (⟨_,_,_,_,rfl,rfl,rfl,nu⟩) rfl rfl ?_
 refine dP (⟨_,_,_,_,rfl,rfl,rfl,nu⟩) rfl rfl ?_
 refine Yt c7 ?_
 refine Yy (dC rfl hh c7 hh) ?_
 refine Z6 ?_
 refine cV ?_
 refine bX (φs':=[fSl aD a0.p.AF,fSl aN a0.p.AD,fSl aB a0.p.AE,fI a0.p.AG,fEq v1,fEq v2,fEq v3,aM true]) a1Z rfl rfl (has rfl) (has rfl) (aH a1Z) (sz rfl) rfl rfl ?_
 revert H;refine B2 fun r3 H e3=>?_
 cases e3;cases Hr1
 refine aY ?_
 refine aY ?_
 refine aY ?_
 refine cV ?_
 refine fQ (x:=(⟨(⟨a0.p.AF,a0.p.AD,a0.p.AE,a0.p.AG⟩:AI),a0.AY.set a1.toNat a2,a0.Ah.set a1.toNat z1,a0.Ag,true⟩:Aa)) ?_
 cases H
 refine aE [0] (by decide) ?_
 exact eD (.inl rfl) rfl rfl
 refine Yg c7 (cI rfl hh) ?_
 refine Yg c7 (rM rfl hh hh) ?_
 refine Yg c7 (cI rfl hh) ?_
 revert H;refine is (fun c8 H=>?_) fun c8 H=>?_
 refine Yg c8 (bT 2 rfl hh (fa rfl) rfl) ?_
 refine Yh 0 rfl c8 (bA rfl hh (sc rfl) rfl Ent.rfl) ?_
 refine Yg c8 (eP rfl hh (us rfl)) ?_
 refine Yg c8 (cI rfl hh) ?_
 refine Yg c8 (lZ rfl hh hh) ?_
 refine Yg c7 (dC rfl hh c8 hh) ?_
 refine Yy (cM rfl hh c7 hh) ?_
 revert H;refine I1 (fun c9 H=>?_) fun c9 H=>?_
 refine cO hh c9 ?_
 refine Z4 ?_
 refine cV ?_
 refine bX (φs':=[fSl aD a0.p.AF,fSl aN a0.p.AD,fSl aB a0.p.AE,fI a0.p.AG,fEq v1,fEq v2,fEq v3,aM true]) a1Z rfl rfl (has rfl) (has rfl) (aH a1Z) (sz rfl) rfl rfl ?_
 revert H;refine B2 fun r4 H e4=>?_
 cases e4;cases Hr1
 refine aY ?_
 refine aY ?_
 refine aY ?_
 refine cV ?_
 refine fQ (x:=(⟨(⟨a0.p.AF,a0.p.AD,a0.p.AE,a0.p.AG⟩:AI),a0.AY.set a1.toNat a2,a0.Ah.set a1.toNat z1,a0.Ag,true⟩:Aa)) ?_
 cases H
 refine aE [0] (by decide) ?_
 exact eD (.inl rfl) rfl rfl
 refine cN hh c9 ?_
 refine Z2 ?_
 refine aE [0,3,1,2,4] (by decide) ?_
 exact Tm (()) (ij H)
 refine Yf c8 ?_
 refine Yf c8 ?_
 refine Yf c8 ?_
 refine Yf c8 ?_
 refine Yf c8 ?_
 refine Yg c7 (cM rfl hh c8 hh) ?_
 refine Yy (cM rfl hh c7 hh) ?_
 refine Z4 ?_
 refine aE [0,3,1,2,4] (by decide) ?_
 exact Tm (()) (ij H)
 refine Yf c6 ?_
 refine Yf c6 ?_
 refine Yf c6 ?_
 refine Yf c6 ?_
 refine Yg c5 (cM rfl hh c6 hh) ?_
 refine Yy (cM rfl hh c5 hh) ?_
 revert H;refine I4 (fun c10 H=>?_) fun c10 H=>?_
 refine Yg c10 (bT 2 rfl hh (fa rfl) rfl) ?_
 refine Yh 0 rfl c10 (bA rfl hh (sc rfl) rfl Ent.rfl) ?_
 refine Yg c10 (eP rfl hh (us rfl)) ?_
 refine Yg c10 (cI rfl hh) ?_
 refine Yg c10 (lZ rfl hh hh) ?_
 refine Yg rfl (dC rfl hh c10 hh) ?_
 revert H;refine I2 (fun c11 H=>?_) fun c11 H=>?_
 refine cO hh c11 ?_
 refine Z4 ?_
 refine cV ?_
 refine bX (φs':=[fSl aD a0.p.AF,fSl aN a0.p.AD,fSl aB a0.p.AE,fI a0.p.AG,fEq v1,fEq v2,fEq v3,aM true]) a1Z rfl rfl (has rfl) (has rfl) (aH a1Z) (sz rfl) rfl rfl ?_
 revert H;refine B2 fun r5 H e5=>?_
 cases e5;cases Hr1
 refine aY ?_
 refine aY ?_
 refine aY ?_
 refine cV ?_
 refine fQ (x:=(⟨(⟨a0.p.AF,a0.p.AD,a0.p.AE,a0.p.AG⟩:AI),a0.AY.set a1.toNat a2,a0.Ah.set a1.toNat z1,a0.Ag,true⟩:Aa)) ?_
 cases H
 refine aE [0] (by decide) ?_
 exact eD (.inl rfl) rfl rfl
 refine cN hh c11 ?_
 refine Z2 ?_
 refine aE [0,3,1,2,4] (by decide) ?_
 exact Tm (()) (ij H)
 refine Yf c10 ?_
 refine Yf c10 ?_
 refine Yf c10 ?_
 refine Yf c10 ?_
 refine Yf c10 ?_
 refine Yg rfl (cM rfl hh c10 hh) ?_
 refine Z5 ?_
 refine aE [0,3,1,2,4] (by decide) ?_
 exact Tm (()) (ij H)
 clear H;intro i hi;subst o1;have H:=Hr1;clear Hr1;try dsimp only at H
 try dsimp only
 revert H;refine bs fun o2 H Hr2=>?_
 refine aP (ι:=Bool) (fun i=>o2=i) (fun i=>[(0,fEq (ptr p0)),(2,fI a2),(6,fEq (ptr b1))]) (fun i=>[aA b1 65 [fI y5.Op,fI y5.N,fSl aO y5.AS,fSl tI y5.AN],aA p0 122 [fSl aD a0.p.AF,fSl aN a0.p.AD,fSl aB a0.p.AE,fI a0.p.AG,fEq v1,fEq v2,fEq v3,aM i],aC v1 3 tI (a0.AY.set a1.toNat a2),aC v2 3 tI (a0.Ah.set a1.toNat z1),aC v3 3 tI a0.Ag]) ?_ ?_
 refine Z4 ?_
 refine Tl (ι:=Nat × Int × Bool) (fun i=>jB AA a2 y5 i.1 i.2.1 i.2.2=_) (fun i=>i.1) (fun i=>[(0,fEq (ptr p0)),(2,fI a2),(6,fEq (ptr b1)),(10,fI i.2.1)]) (fun i=>[aA b1 65 [fI y5.Op,fI y5.N,fSl aO y5.AS,fSl tI y5.AN],aA p0 122 [fSl aD a0.p.AF,fSl aN a0.p.AD,fSl aB a0.p.AE,fI a0.p.AG,fEq v1,fEq v2,fEq v3,aM i.2.2],aC v1 3 tI (a0.AY.set a1.toNat a2),aC v2 3 tI (a0.Ah.set a1.toNat z1),aC v3 3 tI a0.Ag]) (AA,0,a0.bad) H ?_
 clear H;rintro⟨k1,x4,x5⟩ H
 replace H:jB AA a2 y5 k1 x4 x5=_:=H
 try dsimp only
 obtain _ | k1:=k1
 rw [jB]at H;cases H
 rw [jB]at H
 refine aI ?_
 revert H;refine I7 (fun c12 H=>?_) fun c12 H=>?_
 refine cO hh c12 ?_
 revert H;refine B2 fun o3 H Hr3=>?_
 refine aP (ι:=Bool) (fun i=>o3=i) (fun i=>[(0,fEq (ptr p0)),(2,fI a2),(6,fEq (ptr b1)),(10,fI x4)]) (fun i=>[aA p0 122 [fSl aD a0.p.AF,fSl aN a0.p.AD,fSl aB a0.p.AE,fI a0.p.AG,fEq v1,fEq v2,fEq v3,aM i],aA b1 65 [fI y5.Op,fI y5.N,fSl aO y5.AS,fSl tI y5.AN],aC v1 3 tI (a0.AY.set a1.toNat a2),aC v2 3 tI (a0.Ah.set a1.toNat z1),aC v3 3 tI a0.Ag]) ?_ ?_
 refine Z8 ?_
 revert H;refine cs (fun c13 H=>?_) fun c13 H=>?_
 refine Yt c13 ?_
 refine Yt c13 ?_
 refine Yt c13 ?_
 refine Yt c13 ?_
 refine Yt c13 ?_
 refine Yt c13 ?_
 refine Yt c13 ?_
 refine Yt c13 ?_
 refine Yy (dC rfl hh c13 hh) ?_
 refine Z2 ?_
 refine cL ?_
 refine bX (φs':=[fSl aD a0.p.AF,fSl aN a0.p.AD,fSl aB a0.p.AE,fI a0.p.AG,fEq v1,fEq v2,fEq v3,aM true]) a1Z rfl rfl (has rfl) (has rfl) (aH a1Z) (sz rfl) rfl rfl ?_
 refine Z3 ?_
 exact Tm (true) (ij H)
 refine Yg c13 (bT 2 rfl hh (fa rfl) rfl) ?_
 refine Yh 0 rfl c13 (bA rfl hh (sc rfl) rfl Ent.rfl) ?_
 refine Yg c13 (cI rfl hh) ?_
 revert H;refine bs fun y7 h8 H=>?_
 refine Yg c13 (bW rfl hh hh (el rfl) h8) ?_
 refine Yg c13 (aBo rfl hh (ag rfl)) ?_
 refine Yg c13 (cI rfl hh) ?_
 revert H;refine bs fun y8 h9 H=>?_
 refine Tc (aHx _ _ _ _ h9) ?_
 refine Yg c13 (mH rfl hh) ?_
 refine Yy (cM rfl hh c13 hh) ?_
 refine Z2 ?_
 refine cL ?_
 refine bX (φs':=[fSl aD a0.p.AF,fSl aN a0.p.AD,fSl aB a0.p.AE,fI a0.p.AG,fEq v1,fEq v2,fEq v3,aM (!y8)]) a1Z rfl rfl (has rfl) (has rfl) (aH a1Z) (sz rfl) rfl rfl ?_
 refine Z3 ?_
 exact Tm (!y8) (ij H)
 clear H;intro x6 hi;subst o3;have H:=Hr3;clear Hr3;try dsimp only at H
 try dsimp only
 revert H;refine B2 fun z2 h10 H=>?_
 refine Yy (dO rfl hh hh h10) ?_
 refine Z2 ?_
 refine aE [1,0,2,3,4] (by decide) ?_
 exact Tm ((k1,z2,x6)) ⟨H,ls⟩
 refine cN hh c12 ?_
 refine Z5 ?_
 exact Tm (x5) (ij H)
 clear H;intro x1 hi;subst o2;have H:=Hr2;clear Hr2;try dsimp only at H
 try dsimp only
 revert H;refine B4 fun o4 H Hr4=>?_
 refine aP (ι:=Int × List ByteArray × List AW × List AM × Int × List Int × List Int × List Int × Bool × Value × Value × Value) (fun i=>o4=Sum.inl (i.1,i.2.1,i.2.2.1,i.2.2.2.1,i.2.2.2.2.1,i.2.2.2.2.2.1,i.2.2.2.2.2.2.1,i.2.2.2.2.2.2.2.1,i.2.2.2.2.2.2.2.2.1)) (fun i=>[(0,fEq (ptr p0)),(6,fEq (ptr b1)),(11,fI i.1)]) (fun i=>[aA p0 122 [fSl aD i.2.1,fSl aN i.2.2.1,fSl aB i.2.2.2.1,fI i.2.2.2.2.1,fEq i.2.2.2.2.2.2.2.2.2.1,fEq i.2.2.2.2.2.2.2.2.2.2.1,fEq i.2.2.2.2.2.2.2.2.2.2.2,aM i.2.2.2.2.2.2.2.2.1],aA b1 65 [fI y5.Op,fI y5.N,fSl aO y5.AS,fSl tI y5.AN],aC i.2.2.2.2.2.2.2.2.2.1 3 tI i.2.2.2.2.2.1,aC i.2.2.2.2.2.2.2.2.2.2.1 3 tI i.2.2.2.2.2.2.1,aC i.2.2.2.2.2.2.2.2.2.2.2 3 tI i.2.2.2.2.2.2.2.1]) ?_ ?_
 revert H;refine B5 fun o5 H Hr5=>?_
 refine aP (ι:=Bool) (fun i=>o5=i) (fun i=>[(0,fEq (ptr p0)),(2,fI a2),(6,fEq (ptr b1)),(11,fI a2),(128,fI y5.Op),(141,aM i)]) (fun i=>[aA b1 65 [fI y5.Op,fI y5.N,fSl aO y5.AS,fSl tI y5.AN],aA p0 122 [fSl aD a0.p.AF,fSl aN a0.p.AD,fSl aB a0.p.AE,fI a0.p.AG,fEq v1,fEq v2,fEq v3,aM x1],aC v1 3 tI (a0.AY.set a1.toNat a2),aC v2 3 tI (a0.Ah.set a1.toNat z1),aC v3 3 tI a0.Ag]) ?_ ?_
 revert H;refine I4 (fun c14 H=>?_) fun c14 H=>?_
 refine cO hh c14 ?_
 refine Z2 ?_
 exact Tm (decide (y5.Op=2)) (ij H)
 refine cN hh c14 ?_
 revert H;refine I4 (fun c15 H=>?_) fun c15 H=>?_
 refine cO hh c15 ?_
 refine Z2 ?_
 exact Tm (decide (y5.Op=6)) (ij H)
 refine cN hh c15 ?_
 refine Z4 ?_
 exact Tm (decide (y5.Op=8)) (ij H)
 clear H;intro x16 hi;subst o5;have H:=Hr5;clear Hr5;try dsimp only at H
 try dsimp only
 revert H;refine cs (fun c16 H=>?_) fun c16 H=>?_
 refine cO hh c16 ?_
 refine Z7 ?_
 revert H;refine cs (fun c17 H=>?_) fun c17 H=>?_
 refine Yt c17 ?_
 refine Yt c17 ?_
 refine Yt c17 ?_
 refine Yy (dC rfl hh c17 hh) ?_
 refine Z8 ?_
 refine cL ?_
 refine bX (φs':=[fSl aD a0.p.AF,fSl aN a0.p.AD,fSl aB a0.p.AE,fI a0.p.AG,fEq v1,fEq v2,fEq v3,aM true]) a1Z rfl rfl (has rfl) (has rfl) (aH a1Z) (sz rfl) rfl rfl ?_
 refine Z3 ?_
 exact Tm ((a2,a0.p.AF,a0.p.AD,a0.p.AE,a0.p.AG,a0.AY.set a1.toNat a2,a0.Ah.set a1.toNat z1,a0.Ag,true,v1,v2,v3)) (ij H)
 refine Yg c17 (bT 1 rfl hh (fa rfl) rfl) ?_
 refine Yh 0 rfl c17 (bA rfl hh (sc rfl) rfl Ent.rfl) ?_
 refine Yg c17 (vQ rfl hh hh) ?_
 refine Yy (cM rfl hh c17 hh) ?_
 revert H;refine I1 (fun c18 H=>?_) fun c18 H=>?_
 refine Yt c18 ?_
 refine Yt c18 ?_
 refine Yt c18 ?_
 refine Yt c18 ?_
 refine Yy (dC rfl hh c18 hh) ?_
 refine Z2 ?_
 refine cL ?_
 refine bX (φs':=[fSl aD a0.p.AF,fSl aN a0.p.AD,fSl aB a0.p.AE,fI a0.p.AG,fEq v1,fEq v2,fEq v3,aM true]) a1Z rfl rfl (has rfl) (has rfl) (aH a1Z) (sz rfl) rfl rfl ?_
 refine Z3 ?_
 exact Tm ((a2,a0.p.AF,a0.p.AD,a0.p.AE,a0.p.AG,a0.AY.set a1.toNat a2,a0.Ah.set a1.toNat z1,a0.Ag,true,v1,v2,v3)) (ij H)
 refine Yg c18 (bT 1 rfl hh (fa rfl) rfl) ?_
 refine Yh 0 rfl c18 (bA rfl hh (sc rfl) rfl Ent.rfl) ?_
 refine Yg c18 (cI rfl hh) ?_
 refine Yg c18 (rM rfl hh hh) ?_
 refine Yy (cM rfl hh c18 hh) ?_
 refine Z2 ?_
 refine cL ?_
 refine bX (φs':=[fSl aD a0.p.AF,fSl aN a0.p.AD,fSl aB a0.p.AE,fI a0.p.AG,fEq v1,fEq v2,fEq v3,aM (decide (a2<=y5.N))]) a1Z rfl rfl (has rfl) (has rfl) (aH a1Z) (sz rfl) rfl rfl ?_
 refine Z3 ?_
 exact Tm ((a2,a0.p.AF,a0.p.AD,a0.p.AE,a0.p.AG,a0.AY.set a1.toNat a2,a0.Ah.set a1.toNat z1,a0.Ag,decide (a2<=y5.N),v1,v2,v3)) (ij H)
 refine cN hh c16 ?_
 revert H;refine I4 (fun c19 H=>?_) fun c19 H=>?_
 refine cO hh c19 ?_
 refine aI ?_
 refine aI ?_
 revert H;refine is (fun c20 H=>?_) fun c20 H=>?_
 apply bJ (ods:=[_,_,_,_,_,_,_,_,_,_,_,_,_,_,_,_,_,_,_,_,_,_,_,_,_]) 25 0 5 bI rfl rfl rfl
 refine ND ?_
 refine M4 ?_
 intros
 refine Mt c20 fun _=>?_
 refine Mt c20 fun _=>?_
 refine Mt c20 fun _=>?_
 refine Mt c20 fun _=>?_
 refine Mt c20 fun _=>?_
 refine Mt c20 fun _=>?_
 refine Mt c20 fun _=>?_
 refine Mt c20 fun _=>?_
 refine Mt c20 fun _=>?_
 refine My (dC rfl hh c20 hh) fun _=>?_
 refine M8 ?_
 intros
 refine M3 ?_
 intros
 refine Z7 ?_
 refine cL ?_
 refine bX (φs':=[fSl aD a0.p.AF,fSl aN a0.p.AD,fSl aB a0.p.AE,fI a0.p.AG,fEq v1,fEq v2,fEq v3,aM true]) a1Z rfl rfl (has rfl) (has rfl) (aH a1Z) (sz rfl) rfl rfl ?_
 revert H;refine B4 fun r6 H e6=>?_
 cases e6;cases Hr4
 refine aY ?_
 refine aY ?_
 refine aY ?_
 refine cV ?_
 refine fQ (x:=(⟨(⟨a0.p.AF,a0.p.AD,a0.p.AE,a0.p.AG⟩:AI),a0.AY.set a1.toNat a2,a0.Ah.set a1.toNat z1,a0.Ag,true⟩:Aa)) ?_
 cases H
 refine aE [0] (by decide) ?_
 exact eD (.inl rfl) rfl rfl
 exact fk
 kernel_rfl
 revert H;refine is (fun c21 H=>?_) fun c21 H=>?_
 apply bJ (ods:=[_,_,_,_,_,_,_,_,_,_,_,_,_,_,_,_,_,_,_,_,_,_,_,_,_]) 25 0 5 bI rfl rfl rfl
 refine ND ?_
 refine M4 ?_
 intros
 refine Mg c20 (bT 1 rfl hh (fa rfl) rfl) fun _=>?_
 refine dH (od:=odC [0] false (fI y5.N) [cS]) (ps:=[0]) (φ:=fI y5.N) rfl (fun _=>rfl) ⟨_,_,rfl,rfl,c20⟩ rfl rfl (bA rfl hh (sc rfl) rfl Ent.rfl) (fun _=>?_)
 refine Mg c20 (cI rfl hh) fun _=>?_
 refine Mg c20 (jO rfl (has rfl) (fun m v h=>⟨_,h⟩)) fun _=>?_
 refine Mg c20 (bT 0 rfl hh (fa rfl) rfl) fun _=>?_
 refine Mg c20 (bT 2 rfl hh (fa rfl) rfl) fun _=>?_
 refine dH (od:=odC [1] false (fSl aB a0.p.AE) [cS]) (ps:=[1]) (φ:=fSl aB a0.p.AE) rfl (fun _=>rfl) ⟨_,_,rfl,rfl,c20⟩ rfl rfl (bA rfl hh (sc rfl) rfl Ent.rfl) (fun _=>?_)
 refine Mg c20 (eP rfl hh (us rfl)) fun _=>?_
 refine Mg c20 (rM rfl hh hh) fun _=>?_
 refine My (cM rfl hh c20 hh) fun _=>?_
 refine M1 ?_
 intros
 refine Mt c21 fun _=>?_
 refine Mt c21 fun _=>?_
 refine Mt c21 fun _=>?_
 refine Mt c21 fun _=>?_
 refine Mt c21 fun _=>?_
 refine Mt c21 fun _=>?_
 refine Mt c21 fun _=>?_
 refine Mt c21 fun _=>?_
 refine Mt c21 fun _=>?_
 refine My (dC rfl hh c21 hh) fun _=>?_
 refine Z7 ?_
 refine cL ?_
 refine bX (φs':=[fSl aD a0.p.AF,fSl aN a0.p.AD,fSl aB a0.p.AE,fI a0.p.AG,fEq v1,fEq v2,fEq v3,aM true]) a1Z rfl rfl (has rfl) (has rfl) (aH a1Z) (sz rfl) rfl rfl ?_
 revert H;refine B4 fun r7 H e7=>?_
 cases e7;cases Hr4
 refine aY ?_
 refine aY ?_
 refine aY ?_
 refine cV ?_
 refine fQ (x:=(⟨(⟨a0.p.AF,a0.p.AD,a0.p.AE,a0.p.AG⟩:AI),a0.AY.set a1.toNat a2,a0.Ah.set a1.toNat z1,a0.Ag,true⟩:Aa)) ?_
 cases H
 refine aE [0] (by decide) ?_
 exact eD (.inl rfl) rfl rfl
 exact fk
 kernel_rfl
 revert H;refine bs fun y9 h11 H=>?_
 apply bJ (ods:=[_,_,_,_,_,_,_,_,_,_,_,_,_,_,_,_,_,_,_,_,_,_,_,_,_]) 25 0 5 bI rfl rfl rfl
 refine ND ?_
 refine M4 ?_
 intros
 refine Mg c20 (bT 1 rfl hh (fa rfl) rfl) fun _=>?_
 refine dH (od:=odC [0] false (fI y5.N) [cS]) (ps:=[0]) (φ:=fI y5.N) rfl (fun _=>rfl) ⟨_,_,rfl,rfl,c20⟩ rfl rfl (bA rfl hh (sc rfl) rfl Ent.rfl) (fun _=>?_)
 refine Mg c20 (cI rfl hh) fun _=>?_
 refine Mg c20 (jO rfl (has rfl) (fun m v h=>⟨_,h⟩)) fun _=>?_
 refine Mg c20 (bT 0 rfl hh (fa rfl) rfl) fun _=>?_
 refine Mg c20 (bT 2 rfl hh (fa rfl) rfl) fun _=>?_
 refine dH (od:=odC [1] false (fSl aB a0.p.AE) [cS]) (ps:=[1]) (φ:=fSl aB a0.p.AE) rfl (fun _=>rfl) ⟨_,_,rfl,rfl,c20⟩ rfl rfl (bA rfl hh (sc rfl) rfl Ent.rfl) (fun _=>?_)
 refine Mg c20 (eP rfl hh (us rfl)) fun _=>?_
 refine Mg c20 (rM rfl hh hh) fun _=>?_
 refine My (cM rfl hh c20 hh) fun _=>?_
 refine M1 ?_
 intros
 refine Mg c21 (cI rfl hh) fun _=>?_
 refine Mg c21 (jO rfl (has rfl) (fun m v h=>⟨_,h⟩)) fun _=>?_
 refine Mg c21 (bT 6 rfl hh (fa rfl) rfl) fun _=>?_
 refine dH (od:=odC [1] false (fEq v3) [cS]) (ps:=[1]) (φ:=fEq v3) rfl (fun _=>rfl) ⟨_,_,rfl,rfl,c21⟩ rfl rfl (bA rfl hh (sc rfl) rfl Ent.rfl) (fun _=>?_)
 refine Mg c21 (bT 1 rfl hh (fa rfl) rfl) fun _=>?_
 refine dH (od:=odC [0] false (fI y5.N) [cS]) (ps:=[0]) (φ:=fI y5.N) rfl (fun _=>rfl) ⟨_,_,rfl,rfl,c21⟩ rfl rfl (bA rfl hh (sc rfl) rfl Ent.rfl) (fun _=>?_)
 refine dH (od:=odC [4] false (sE v3 1 y5.N.toNat 0) [cS]) (ps:=[4]) (φ:=sE v3 1 y5.N.toNat 0) rfl (fun _=>rfl) ⟨_,_,rfl,rfl,c21⟩ rfl rfl (iQ rfl hh hh (el rfl) h11) (fun _=>?_)
 refine dH (od:=odC [4] false (fI y9) [cS]) (ps:=[4]) (φ:=fI y9) rfl (fun _=>rfl) ⟨_,_,rfl,rfl,c21⟩ rfl rfl (jU rfl rfl hh (sc rfl) (eW h11) rfl) (fun _=>?_)
 refine Mg c21 (gK rfl hh hh) fun _=>?_
 refine My (cM rfl hh c21 hh) fun _=>?_
 revert H;refine I2 (fun c22 H=>?_) fun c22 H=>?_
 refine cO hh c22 ?_
 refine Z4 ?_
 refine cL ?_
 refine bX (φs':=[fSl aD a0.p.AF,fSl aN a0.p.AD,fSl aB a0.p.AE,fI a0.p.AG,fEq v1,fEq v2,fEq v3,aM true]) a1Z rfl rfl (has rfl) (has rfl) (aH a1Z) (sz rfl) rfl rfl ?_
 revert H;refine B4 fun r8 H e8=>?_
 cases e8;cases Hr4
 refine aY ?_
 refine aY ?_
 refine aY ?_
 refine cV ?_
 refine fQ (x:=(⟨(⟨a0.p.AF,a0.p.AD,a0.p.AE,a0.p.AG⟩:AI),a0.AY.set a1.toNat a2,a0.Ah.set a1.toNat z1,a0.Ag,true⟩:Aa)) ?_
 cases H
 refine aE [0] (by decide) ?_
 exact eD (.inl rfl) rfl rfl
 refine cN hh c22 ?_
 refine Z2 ?_
 refine aI ?_
 revert H;refine bs fun y10 h12 H=>?_
 revert H;refine bs fun z3 h13 H=>?_
 revert H;refine bs fun y11 h14 H=>?_
 apply bJ (ods:=[_,_,_,_,_,_,_,_,_,_,_]) 11 0 5 bI rfl rfl rfl
 refine ND ?_
 refine M6 ?_
 intros
 refine Mo 4 rfl (iQ rfl hh hh (el rfl) h12) fun _=>?_
 refine Mo 4 rfl (jU rfl rfl hh (sc rfl) (eW h12) rfl) fun _=>?_
 refine My (dO rfl hh hh h13) fun _=>?_
 refine Mo 4 rfl (iQ rfl hh hh (el rfl) h14) fun _=>?_
 refine zV (od:=odC [4] true (dZ) [aC v3 3 tI (a0.Ag.set y5.N.toNat z3)]) (p:=4) (z':=z3) rfl (fun _=>rfl) (fun _=>rfl) a1Z rfl rfl rfl rfl (has rfl) (has rfl) (aH a1Z) (sz rfl) (eW h14) rfl rfl (fun _=>?_)
 refine Z2 ?_
 refine aI ?_
 revert H;refine bs fun y12 h15 H=>?_
 revert H;refine bs fun y13 h16 H=>?_
 revert H;refine bs fun z4 h17 H=>?_
 apply bJ (ods:=[_,_,_,_,_,_,_,_,_,_,_,_,_]) 13 0 5 bI rfl rfl rfl
 refine ND ?_
 refine M8 ?_
 intros
 refine My (bW rfl hh hh (el rfl) h15) fun _=>?_
 refine M1 ?_
 intros
 refine Nc (aGZ _ _ h16) fun _=>?_
 refine My (dO rfl hh hh h17) fun _=>?_
 refine M1 ?_
 intros
 revert H;refine B2 fun y14 h18 H=>?_
 apply bJ (ods:=[_,_,_,_,_,_,_,_,_,_,_]) 11 0 5 bI rfl rfl rfl
 refine ND ?_
 refine M8 ?_
 intros
 refine My (bW rfl hh hh (el rfl) h18) fun _=>?_
 refine M2 ?_
 intros
 refine Z1 ?_
 refine aY ?_
 refine aY ?_
 refine aY ?_
 refine aY ?_
 refine fQ (x:=(⟨(⟨a0.p.AF,a0.p.AD,a0.p.AE,a0.p.AG⟩:AI),a0.AY.set a1.toNat a2,a0.Ah.set a1.toNat z1,a0.Ag.set y5.N.toNat z3,x1⟩:Aa)) ?_
 revert H;refine bs fun y15 h19 H=>?_
 refine Tc (ih_r03_look_def _ _ _ _ _ h19) ?_
 refine sY (fun v7 v8 v9=>?_)
 refine aK 1 rfl (fun hc_v7=>?_)
 refine aK 2 rfl (fun hc_v8=>?_)
 refine aK 3 rfl (fun hc_v9=>?_)
 refine Z3 ?_
 refine aE [0,4,1,2,3] (by decide) ?_
 exact Tm ((z4,y15.p.AF,y15.p.AD,y15.p.AE,y15.p.AG,y15.AY,y15.Ah,y15.Ag,y15.bad,v7,v8,v9)) (ij H)
 exact fk
 kernel_rfl
 exact fk
 kernel_rfl
 exact fk
 kernel_rfl
 exact fk
 kernel_rfl
 refine cN hh c19 ?_
 refine Z7 ?_
 revert H;refine cs (fun c23 H=>?_) fun c23 H=>?_
 refine Yt c23 ?_
 refine Yt c23 ?_
 refine Yt c23 ?_
 refine Yy (dC rfl hh c23 hh) ?_
 refine Z2 ?_
 refine cL ?_
 refine bX (φs':=[fSl aD a0.p.AF,fSl aN a0.p.AD,fSl aB a0.p.AE,fI a0.p.AG,fEq v1,fEq v2,fEq v3,aM true]) a1Z rfl rfl (has rfl) (has rfl) (aH a1Z) (sz rfl) rfl rfl ?_
 refine Z3 ?_
 exact Tm ((a2,a0.p.AF,a0.p.AD,a0.p.AE,a0.p.AG,a0.AY.set a1.toNat a2,a0.Ah.set a1.toNat z1,a0.Ag,true,v1,v2,v3)) (ij H)
 refine Yg c23 (bT 1 rfl hh (fa rfl) rfl) ?_
 refine Yh 0 rfl c23 (bA rfl hh (sc rfl) rfl Ent.rfl) ?_
 refine Yg c23 (lZ rfl hh hh) ?_
 refine Yy (cM rfl hh c23 hh) ?_
 refine Z2 ?_
 refine cL ?_
 refine bX (φs':=[fSl aD a0.p.AF,fSl aN a0.p.AD,fSl aB a0.p.AE,fI a0.p.AG,fEq v1,fEq v2,fEq v3,aM (decide (y5.N≠0))]) a1Z rfl rfl (has rfl) (has rfl) (aH a1Z) (sz rfl) rfl rfl ?_
 refine Z3 ?_
 exact Tm ((a2,a0.p.AF,a0.p.AD,a0.p.AE,a0.p.AG,a0.AY.set a1.toNat a2,a0.Ah.set a1.toNat z1,a0.Ag,decide (y5.N≠0),v1,v2,v3)) (ij H)
 clear H;intro i hi;obtain⟨x7,x8,x9,x10,x11,x12,x13,x14,x15,v4,v5,v6⟩:=i;subst o4;have H:=Hr4;clear Hr4;try dsimp only at H
 try dsimp only
 refine aK 2 rfl (fun hc_v4=>?_)
 refine aK 3 rfl (fun hc_v5=>?_)
 refine aK 4 rfl (fun hc_v6=>?_)
 refine Z4 ?_
 refine Tl (ι:=Nat × Int × List ByteArray × List AW × List AM × Int × List Int × List Int × List Int × Bool × Value × Value × Value) (fun i=>iY (eK AA) y5 x7 i.1 i.2.1 i.2.2.1 i.2.2.2.1 i.2.2.2.2.1 i.2.2.2.2.2.1 i.2.2.2.2.2.2.1 i.2.2.2.2.2.2.2.1 i.2.2.2.2.2.2.2.2.1 i.2.2.2.2.2.2.2.2.2.1=_) (fun i=>i.1) (fun i=>[(0,fEq (ptr p0)),(6,fEq (ptr b1)),(11,fI x7),(12,fI i.2.1)]) (fun i=>[aA p0 122 [fSl aD i.2.2.1,fSl aN i.2.2.2.1,fSl aB i.2.2.2.2.1,fI i.2.2.2.2.2.1,fEq i.2.2.2.2.2.2.2.2.2.2.1,fEq i.2.2.2.2.2.2.2.2.2.2.2.1,fEq i.2.2.2.2.2.2.2.2.2.2.2.2,aM i.2.2.2.2.2.2.2.2.2.1],aA b1 65 [fI y5.Op,fI y5.N,fSl aO y5.AS,fSl tI y5.AN],aC i.2.2.2.2.2.2.2.2.2.2.1 3 tI i.2.2.2.2.2.2.1,aC i.2.2.2.2.2.2.2.2.2.2.2.1 3 tI i.2.2.2.2.2.2.2.1,aC i.2.2.2.2.2.2.2.2.2.2.2.2 3 tI i.2.2.2.2.2.2.2.2.1]) (AA,0,x8,x9,x10,x11,x12,x13,x14,x15,v4,v5,v6) H ?_
 clear H;rintro⟨k2,x26,x27,x28,x29,x30,x31,x32,x33,x34,v13,v14,v15⟩ H
 replace H:iY (eK AA) y5 x7 k2 x26 x27 x28 x29 x30 x31 x32 x33 x34=_:=H
 try dsimp only
 obtain _ | k2:=k2
 rw [iY]at H;cases H
 rw [iY]at H
 refine aK 2 rfl (fun hc_v13=>?_)
 refine aK 3 rfl (fun hc_v14=>?_)
 refine aK 4 rfl (fun hc_v15=>?_)
 refine aI ?_
 revert H;refine I7 (fun c24 H=>?_) fun c24 H=>?_
 refine Yg c24 (cI rfl hh) ?_
 refine Yg c24 (jO rfl (has rfl) (fun m v h=>⟨_,h⟩)) ?_
 refine Yg c24 (bT 7 rfl hh (fa rfl) rfl) ?_
 refine Yh 0 rfl c24 (bA rfl hh (sc rfl) rfl Ent.rfl) ?_
 refine Yg c24 (mH rfl hh) ?_
 refine Yy (dC rfl hh c24 hh) ?_
 refine Z1 ?_
 revert H;refine cs (fun c25 H=>?_) fun c25 H=>?_
 refine cN hh (oL c25) ?_
 refine Z4 ?_
 refine aY ?_
 refine aY ?_
 refine aY ?_
 refine cV ?_
 refine fQ (x:=(⟨(⟨x27,x28,x29,x30⟩:AI),x31,x32,x33,x34⟩:Aa)) ?_
 cases H
 refine aE [0] (by decide) ?_
 exact eD (.inr rfl) rfl rfl
 refine cO hh (pS c25) ?_
 refine Z2 ?_
 refine aI ?_
 revert H;refine B6 fun y16 h20 H=>?_
 refine Yy (bW rfl hh hh (el rfl) h20) ?_
 refine Z2 ?_
 refine aY ?_
 refine aY ?_
 refine aY ?_
 refine cV ?_
 refine fQ (x:=(⟨(⟨x27,x28,x29,x30⟩:AI),x31,x32,x33,x34⟩:Aa)) ?_
 revert H;refine bs fun y17 h21 H=>?_
 refine Tc (ih_r03_look_node _ _ _ _ _ h21) ?_
 refine sY (fun v16 v17 v18=>?_)
 refine aK 1 rfl (fun hc_v16=>?_)
 refine aK 2 rfl (fun hc_v17=>?_)
 refine aK 3 rfl (fun hc_v18=>?_)
 revert H;refine B5 fun z5 h22 H=>?_
 refine Yy (dO rfl hh hh h22) ?_
 refine Z2 ?_
 refine aE [0,4,1,2,3] (by decide) ?_
 exact Tm ((k2,z5,y17.p.AF,y17.p.AD,y17.p.AE,y17.p.AG,y17.AY,y17.Ah,y17.Ag,y17.bad,v16,v17,v18)) ⟨H,ls⟩
 refine Yf c24 ?_
 refine Yf c24 ?_
 refine Yf c24 ?_
 refine Yf c24 ?_
 refine Yf c24 ?_
 refine Yy (cM rfl hh c24 hh) ?_
 refine Z6 ?_
 refine aY ?_
 refine aY ?_
 refine aY ?_
 refine cV ?_
 refine fQ (x:=(⟨(⟨x27,x28,x29,x30⟩:AI),x31,x32,x33,x34⟩:Aa)) ?_
 cases H
 refine aE [0] (by decide) ?_
 exact eD (.inr rfl) rfl rfl
 intro p0 a0 a1 a2 r H
 rw [mV]at H
 refine bD Tryz.func119 rfl Tryz.ntmps119 rfl (fun β=>?_)
 refine sY (fun v1 v2 v3=>?_)
 refine aK 1 rfl (fun hc_v1=>?_)
 refine aK 2 rfl (fun hc_v2=>?_)
 refine aK 3 rfl (fun hc_v3=>?_)
 refine Z1 ?_
 refine Tn (bR rfl hh bO) fun b1=>?_
 revert H;refine B1 fun o1 H Hr1=>?_
 refine aP (ι:=List ByteArray × List AW × List AM × Int × List Int × List Int × List Int × Bool × Value × Value × Value) (fun i=>o1=(i.1,i.2.1,i.2.2.1,i.2.2.2.1,i.2.2.2.2.1,i.2.2.2.2.2.1,i.2.2.2.2.2.2.1,i.2.2.2.2.2.2.2.1)) (fun i=>[(0,fEq (ptr p0)),(2,fI a2),(4,fEq (ptr b1))]) (fun i=>[aA b1 77 [fSl aS a1.AK,fSl aV a1.AO,fSl aU a1.AL],aA p0 122 [fSl aD i.1,fSl aN i.2.1,fSl aB i.2.2.1,fI i.2.2.2.1,fEq i.2.2.2.2.2.2.2.2.1,fEq i.2.2.2.2.2.2.2.2.2.1,fEq i.2.2.2.2.2.2.2.2.2.2,aM i.2.2.2.2.2.2.2.1],aC i.2.2.2.2.2.2.2.2.1 3 tI i.2.2.2.2.1,aC i.2.2.2.2.2.2.2.2.2.1 3 tI i.2.2.2.2.2.1,aC i.2.2.2.2.2.2.2.2.2.2 3 tI i.2.2.2.2.2.2.1]) ?_ ?_
 refine Z4 ?_
 refine Tl (ι:=Nat × Int × List ByteArray × List AW × List AM × Int × List Int × List Int × List Int × Bool × Value × Value × Value) (fun i=>kD AA (eK AA) a1 a2 i.1 i.2.1 i.2.2.1 i.2.2.2.1 i.2.2.2.2.1 i.2.2.2.2.2.1 i.2.2.2.2.2.2.1 i.2.2.2.2.2.2.2.1 i.2.2.2.2.2.2.2.2.1 i.2.2.2.2.2.2.2.2.2.1=_) (fun i=>i.1) (fun i=>[(0,fEq (ptr p0)),(2,fI a2),(4,fEq (ptr b1)),(6,fI i.2.1)]) (fun i=>[aA b1 77 [fSl aS a1.AK,fSl aV a1.AO,fSl aU a1.AL],aA p0 122 [fSl aD i.2.2.1,fSl aN i.2.2.2.1,fSl aB i.2.2.2.2.1,fI i.2.2.2.2.2.1,fEq i.2.2.2.2.2.2.2.2.2.2.1,fEq i.2.2.2.2.2.2.2.2.2.2.2.1,fEq i.2.2.2.2.2.2.2.2.2.2.2.2,aM i.2.2.2.2.2.2.2.2.2.1],aC i.2.2.2.2.2.2.2.2.2.2.1 3 tI i.2.2.2.2.2.2.1,aC i.2.2.2.2.2.2.2.2.2.2.2.1 3 tI i.2.2.2.2.2.2.2.1,aC i.2.2.2.2.2.2.2.2.2.2.2.2 3 tI i.2.2.2.2.2.2.2.2.1]) (AA,0,a0.p.AF,a0.p.AD,a0.p.AE,a0.p.AG,a0.AY,a0.Ah,a0.Ag,a0.bad,v1,v2,v3) H ?_
 clear H;rintro⟨k1,x18,x19,x20,x21,x22,x23,x24,x25,x26,v10,v11,v12⟩ H
 replace H:kD AA (eK AA) a1 a2 k1 x18 x19 x20 x21 x22 x23 x24 x25 x26=_:=H
 try dsimp only
 obtain _ | k1:=k1
 rw [kD]at H;cases H
 rw [kD]at H
 refine aK 2 rfl (fun hc_v10=>?_)
 refine aK 3 rfl (fun hc_v11=>?_)
 refine aK 4 rfl (fun hc_v12=>?_)
 refine aI ?_
 revert H;refine I7 (fun c1 H=>?_) fun c1 H=>?_
 refine Yg c1 (cI rfl hh) ?_
 refine Yg c1 (jO rfl (has rfl) (fun m v h=>⟨_,h⟩)) ?_
 refine Yg c1 (bT 7 rfl hh (fa rfl) rfl) ?_
 refine Yh 1 rfl c1 (bA rfl hh (sc rfl) rfl Ent.rfl) ?_
 refine Yg c1 (mH rfl hh) ?_
 refine Yy (dC rfl hh c1 hh) ?_
 refine Z1 ?_
 revert H;refine cs (fun c2 H=>?_) fun c2 H=>?_
 refine cN hh (oL c2) ?_
 refine Z5 ?_
 exact Tm ((x19,x20,x21,x22,x23,x24,x25,x26,v10,v11,v12)) (ij H)
 refine cO hh (pS c2) ?_
 refine Z2 ?_
 refine aI ?_
 revert H;refine B1 fun y1 h1 H=>?_
 revert H;refine bs fun y2 h2 H=>?_
 revert H;refine bs fun y3 h3 H=>?_
 revert H;refine bs fun z1 h4 H=>?_
 apply bJ (ods:=[_,_,_,_,_,_,_,_,_,_,_,_,_,_,_,_]) 16 0 5 bI rfl rfl rfl
 refine ND ?_
 refine M4 ?_
 intros
 refine My (bW rfl hh hh (el rfl) h1) fun _=>?_
 refine M7 ?_
 intros
 refine My (bW rfl hh hh (el rfl) h2) fun _=>?_
 refine M1 ?_
 intros
 refine Nc (aHR _ _ _ _ h3) fun _=>?_
 refine My (dO rfl hh hh h4) fun _=>?_
 refine Z1 ?_
 refine aY ?_
 refine aY ?_
 refine aY ?_
 refine aY ?_
 refine fQ (x:=(⟨(⟨x19,x20,x21,x22⟩:AI),x23,x24,x25,x26⟩:Aa)) ?_
 revert H;refine bs fun y4 h5 H=>?_
 refine Tc (ih_r03_look_node _ _ _ _ _ h5) ?_
 refine sY (fun v13 v14 v15=>?_)
 refine aK 1 rfl (fun hc_v13=>?_)
 refine aK 2 rfl (fun hc_v14=>?_)
 refine aK 3 rfl (fun hc_v15=>?_)
 revert H;refine B5 fun z2 h6 H=>?_
 refine Yy (dO rfl hh hh h6) ?_
 refine Z2 ?_
 refine aE [4,0,1,2,3] (by decide) ?_
 exact Tm ((k1,z2,y4.p.AF,y4.p.AD,y4.p.AE,y4.p.AG,y4.AY,y4.Ah,y4.Ag,y4.bad,v13,v14,v15)) ⟨H,ls⟩
 exact fk
 kernel_rfl
 refine Yf c1 ?_
 refine Yf c1 ?_
 refine Yf c1 ?_
 refine Yf c1 ?_
 refine Yf c1 ?_
 refine Yy (cM rfl hh c1 hh) ?_
 refine Z7 ?_
 exact Tm ((x19,x20,x21,x22,x23,x24,x25,x26,v10,v11,v12)) (ij H)
 clear H;intro i hi;obtain⟨x1,x2,x3,x4,x5,x6,x7,x8,v4,v5,v6⟩:=i;subst o1;have H:=Hr1;clear Hr1;try dsimp only at H
 try dsimp only
 refine aK 2 rfl (fun hc_v4=>?_)
 refine aK 3 rfl (fun hc_v5=>?_)
 refine aK 4 rfl (fun hc_v6=>?_)
 refine Z4 ?_
 refine Tl (ι:=Nat × Int × List ByteArray × List AW × List AM × Int × List Int × List Int × List Int × Bool × Value × Value × Value) (fun i=>kA (eK AA) a1 a2 i.1 i.2.1 i.2.2.1 i.2.2.2.1 i.2.2.2.2.1 i.2.2.2.2.2.1 i.2.2.2.2.2.2.1 i.2.2.2.2.2.2.2.1 i.2.2.2.2.2.2.2.2.1 i.2.2.2.2.2.2.2.2.2.1=_) (fun i=>i.1) (fun i=>[(0,fEq (ptr p0)),(2,fI a2),(4,fEq (ptr b1)),(7,fI i.2.1)]) (fun i=>[aA b1 77 [fSl aS a1.AK,fSl aV a1.AO,fSl aU a1.AL],aA p0 122 [fSl aD i.2.2.1,fSl aN i.2.2.2.1,fSl aB i.2.2.2.2.1,fI i.2.2.2.2.2.1,fEq i.2.2.2.2.2.2.2.2.2.2.1,fEq i.2.2.2.2.2.2.2.2.2.2.2.1,fEq i.2.2.2.2.2.2.2.2.2.2.2.2,aM i.2.2.2.2.2.2.2.2.2.1],aC i.2.2.2.2.2.2.2.2.2.2.1 3 tI i.2.2.2.2.2.2.1,aC i.2.2.2.2.2.2.2.2.2.2.2.1 3 tI i.2.2.2.2.2.2.2.1,aC i.2.2.2.2.2.2.2.2.2.2.2.2 3 tI i.2.2.2.2.2.2.2.2.1]) (AA,0,x1,x2,x3,x4,x5,x6,x7,x8,v4,v5,v6) H ?_
 clear H;rintro⟨k2,x36,x37,x38,x39,x40,x41,x42,x43,x44,v19,v20,v21⟩ H
 replace H:kA (eK AA) a1 a2 k2 x36 x37 x38 x39 x40 x41 x42 x43 x44=_:=H
 try dsimp only
 obtain _ | k2:=k2
 rw [kA]at H;cases H
 rw [kA]at H
 refine aK 2 rfl (fun hc_v19=>?_)
 refine aK 3 rfl (fun hc_v20=>?_)
 refine aK 4 rfl (fun hc_v21=>?_)
 refine aI ?_
 revert H;refine I7 (fun c3 H=>?_) fun c3 H=>?_
 refine Yg c3 (cI rfl hh) ?_
 refine Yg c3 (jO rfl (has rfl) (fun m v h=>⟨_,h⟩)) ?_
 refine Yg c3 (bT 7 rfl hh (fa rfl) rfl) ?_
 refine Yh 1 rfl c3 (bA rfl hh (sc rfl) rfl Ent.rfl) ?_
 refine Yg c3 (mH rfl hh) ?_
 refine Yy (dC rfl hh c3 hh) ?_
 refine Z1 ?_
 revert H;refine cs (fun c4 H=>?_) fun c4 H=>?_
 refine cN hh (oL c4) ?_
 refine Z4 ?_
 refine aY ?_
 refine aY ?_
 refine aY ?_
 refine aY ?_
 refine fQ (x:=(⟨(⟨x37,x38,x39,x40⟩:AI),x41,x42,x43,x44⟩:Aa)) ?_
 cases H
 refine aE [0] (by decide) ?_
 exact eD (.inr rfl) rfl rfl
 refine cO hh (pS c4) ?_
 refine Z2 ?_
 refine aI ?_
 revert H;refine B6 fun y5 h7 H=>?_
 refine Yy (bW rfl hh hh (el rfl) h7) ?_
 refine Z3 ?_
 refine aY ?_
 refine aY ?_
 refine aY ?_
 refine aY ?_
 refine fQ (x:=(⟨(⟨x37,x38,x39,x40⟩:AI),x41,x42,x43,x44⟩:Aa)) ?_
 revert H;refine bs fun y6 h8 H=>?_
 refine Tc (ih_r03_look_node _ _ _ _ _ h8) ?_
 refine sY (fun v22 v23 v24=>?_)
 refine aK 1 rfl (fun hc_v22=>?_)
 refine aK 2 rfl (fun hc_v23=>?_)
 refine aK 3 rfl (fun hc_v24=>?_)
 revert H;refine B5 fun z3 h9 H=>?_
 refine Yy (dO rfl hh hh h9) ?_
 refine Z2 ?_
 refine aE [4,0,1,2,3] (by decide) ?_
 exact Tm ((k2,z3,y6.p.AF,y6.p.AD,y6.p.AE,y6.p.AG,y6.AY,y6.Ah,y6.Ag,y6.bad,v22,v23,v24)) ⟨H,ls⟩
 refine Yf c3 ?_
 refine Yf c3 ?_
 refine Yf c3 ?_
 refine Yf c3 ?_
 refine Yf c3 ?_
 refine Yy (cM rfl hh c3 hh) ?_
 refine Z6 ?_
 refine aY ?_
 refine aY ?_
 refine aY ?_
 refine aY ?_
 refine fQ (x:=(⟨(⟨x37,x38,x39,x40⟩:AI),x41,x42,x43,x44⟩:Aa)) ?_
 cases H
 refine aE [0] (by decide) ?_
 exact eD (.inr rfl) rfl rfl
theorem aIW (AA:Nat) (p0:Nat) (a0:Aa) (a1:Int) (a2:Int) (r:Aa) (H:eK AA a0 a1 a2=some r):FnS Tryz.prog 84 [fEq (.pointer (some ⟨p0,0,none⟩)),fI a1,fI a2] [qA p0 a0] (dK []) (fun _=>[qA p0 r]):=(aJs AA).1 p0 a0 a1 a2 r H
open Go.SX Go.SW Go.Dt
def iS (AA:Nat) (a0:AI):Nat->Int->Bool->Option (Bool)
| 0,_,_=>none
| k+1,x4,x5=>
 if x4<(a0.AF.length:Int)then
  (bif x5 then
   some true
  else
   (idx a0.AF x4).bind fun y1=>
   (tK AA y1).bind fun y2=>
   bif !y2 then
    some true
   else
    if 0<x4 then
     (idx a0.AF x4).bind fun y3=>
     (chk (x4 - 1)).bind fun z1=>
     (idx a0.AF z1).bind fun y4=>
     some (sle y3 y4)
    else
     some false).bind fun x6=>
  (chk (x4+1)).bind fun z2=>
  iS AA a0 k z2 x6
 else
  some x5
def jW (AA:Nat) (a0:AI):Nat->Int->Bool->Option (Bool)
| 0,_,_=>none
| k+1,x10,x11=>
 if x10<(a0.AE.length:Int)then
  (bif x11 then
   some true
  else
   (idx a0.AE x10).bind fun y5=>
   (xW AA y5).bind fun y6=>
   some (!y6)).bind fun x12=>
  (chk (x10+1)).bind fun z3=>
  jW AA a0 k z3 x12
 else
  some x11
def jP (y10:Aa):Nat->Int->Bool->Option (Bool)
| 0,_,_=>none
| k+1,x16,x17=>
 if x16<(y10.Ah.length:Int)then
  (bif x17 then
   some true
  else
   (idx y10.Ah x16).bind fun y11=>
   some (decide (y11=0))).bind fun x18=>
  (chk (x16+1)).bind fun z4=>
  jP y10 k z4 x18
 else
  some x17
def jT (y10:Aa):Nat->Int->Bool->Option (Bool)
| 0,_,_=>none
| k+1,x22,x23=>
 if x22<(y10.Ag.length:Int)then
  (bif x23 then
   some true
  else
   (idx y10.Ag x22).bind fun y12=>
   some (decide (y12=0))).bind fun x24=>
  (chk (x22+1)).bind fun z5=>
  jT y10 k z5 x24
 else
  some x23
def uA (AA:Nat) (a0:AI):Option (Aa):=
 if 12<(a0.AF.length:Int)then
  some (⟨(⟨a0.AF,a0.AD,a0.AE,a0.AG⟩:AI),[],[],[],true⟩:Aa)
 else
  if 60<(a0.AD.length:Int)then
   some (⟨(⟨a0.AF,a0.AD,a0.AE,a0.AG⟩:AI),[],[],[],true⟩:Aa)
  else
   if 12<(a0.AE.length:Int)then
    some (⟨(⟨a0.AF,a0.AD,a0.AE,a0.AG⟩:AI),[],[],[],true⟩:Aa)
   else
    (iS AA a0 AA 0 false).bind fun x1=>
    (jW AA a0 AA 0 x1).bind fun x7=>
    (mk 0 (a0.AD.length:Int)).bind fun y7=>
    (mk 0 (a0.AD.length:Int)).bind fun y8=>
    (mk 0 (a0.AE.length:Int)).bind fun y9=>
    bif x7 then
     some (⟨(⟨a0.AF,a0.AD,a0.AE,a0.AG⟩:AI),y7,y8,y9,x7⟩:Aa)
    else
     (eK AA (⟨(⟨a0.AF,a0.AD,a0.AE,a0.AG⟩:AI),y7,y8,y9,x7⟩:Aa) a0.AG (a0.AF.length:Int)).bind fun y10=>
     (jP y10 AA 0 y10.bad).bind fun x13=>
     (jT y10 AA 0 x13).bind fun x19=>
     some (⟨(⟨y10.p.AF,y10.p.AD,y10.p.AE,y10.p.AG⟩:AI),y10.AY,y10.Ah,y10.Ag,x19⟩:Aa)
theorem aFg (AA:Nat)  (a0:AI) (r:Aa) (H:uA AA a0=some r):FnS Tryz.prog 51 [fSt cK a0] [] (aF uI r) (fun _=>[]):=by
 unfold uA at H
 refine bD Tryz.func51 rfl Tryz.ntmps51 rfl (fun β=>?_)
 refine Z1 ?_
 refine Tn (bR rfl hh bO) fun b1=>?_
 refine Z4 ?_
 refine Yy (gQ (ψs:=[fSl aD a0.AF,fSl aN a0.AD,fSl aB a0.AE,fI a0.AG,fEq (.slice none 0 0),fEq (.slice none 0 0),fEq (.slice none 0 0),aM false]) rfl aG3 rfl (bS.cons (has rfl) bO bS.nil) rfl) ?_
 refine Tn (bR rfl hh bO) fun b2=>?_
 refine Z2 ?_
 refine aI ?_
 revert H;refine I6 (fun c1 H=>?_) fun c1 H=>?_
 refine Yt c1 ?_
 refine Yt c1 ?_
 refine Yt c1 ?_
 refine Yt c1 ?_
 refine Yy (dC rfl hh c1 hh) ?_
 refine Z12 ?_
 refine bX (φs':=[fSl aD a0.AF,fSl aN a0.AD,fSl aB a0.AE,fI a0.AG,fEq (.slice none 0 0),fEq (.slice none 0 0),fEq (.slice none 0 0),aM true]) a1Z rfl rfl (has rfl) (has rfl) (aH a1Z) (sz rfl) rfl rfl ?_
 refine Z6 ?_
 refine cB (φ:=aF uI (⟨(⟨a0.AF,a0.AD,a0.AE,a0.AG⟩:AI),[],[],[],true⟩:Aa)) (v:=ptr b2) [2,10,3,27,28,30] (fV (aQ.cons Ent.rfl (aQ.cons Ent.rfl (aQ.cons Ent.rfl (aQ.cons Ent.rfl (aQ.cons dF (aQ.cons dF (aQ.cons dF (aQ.cons Ent.rfl aQ.nil))))))))) fz ?_
 refine bZ ?_
 cases H
 refine aE [] (by decide) ?_
 exact To
 refine Yg c1 (bT 1 rfl hh (fa rfl) rfl) ?_
 refine Yh 1 rfl c1 (bA rfl hh (sc rfl) rfl Ent.rfl) ?_
 refine Yg c1 (eP rfl hh (us rfl)) ?_
 refine Yg c1 (gK rfl hh hh) ?_
 refine Yy (cM rfl hh c1 hh) ?_
 revert H;refine I1 (fun c2 H=>?_) fun c2 H=>?_
 refine Yt c2 ?_
 refine Yt c2 ?_
 refine Yt c2 ?_
 refine Yt c2 ?_
 refine Yy (dC rfl hh c2 hh) ?_
 refine Z6 ?_
 refine bX (φs':=[fSl aD a0.AF,fSl aN a0.AD,fSl aB a0.AE,fI a0.AG,fEq (.slice none 0 0),fEq (.slice none 0 0),fEq (.slice none 0 0),aM true]) a1Z rfl rfl (has rfl) (has rfl) (aH a1Z) (sz rfl) rfl rfl ?_
 refine Z6 ?_
 refine cB (φ:=aF uI (⟨(⟨a0.AF,a0.AD,a0.AE,a0.AG⟩:AI),[],[],[],true⟩:Aa)) (v:=ptr b2) [2,10,3,27,28,30] (fV (aQ.cons Ent.rfl (aQ.cons Ent.rfl (aQ.cons Ent.rfl (aQ.cons Ent.rfl (aQ.cons dF (aQ.cons dF (aQ.cons dF (aQ.cons Ent.rfl aQ.nil))))))))) fz ?_
 refine bZ ?_
 cases H
 refine aE [] (by decide) ?_
 exact To
 refine Yg c2 (bT 2 rfl hh (fa rfl) rfl) ?_
 refine Yh 1 rfl c2 (bA rfl hh (sc rfl) rfl Ent.rfl) ?_
 refine Yg c2 (eP rfl hh (us rfl)) ?_
 refine Yg c2 (gK rfl hh hh) ?_
 refine Yy (cM rfl hh c2 hh) ?_
 revert H;refine I1 (fun c3 H=>?_) fun c3 H=>?_
 refine cO hh c3 ?_
 refine Z4 ?_
 refine bX (φs':=[fSl aD a0.AF,fSl aN a0.AD,fSl aB a0.AE,fI a0.AG,fEq (.slice none 0 0),fEq (.slice none 0 0),fEq (.slice none 0 0),aM true]) a1Z rfl rfl (has rfl) (has rfl) (aH a1Z) (sz rfl) rfl rfl ?_
 refine Z6 ?_
 refine cB (φ:=aF uI (⟨(⟨a0.AF,a0.AD,a0.AE,a0.AG⟩:AI),[],[],[],true⟩:Aa)) (v:=ptr b2) [2,10,3,27,28,30] (fV (aQ.cons Ent.rfl (aQ.cons Ent.rfl (aQ.cons Ent.rfl (aQ.cons Ent.rfl (aQ.cons dF (aQ.cons dF (aQ.cons dF (aQ.cons Ent.rfl aQ.nil))))))))) fz ?_
 refine bZ ?_
 cases H
 refine aE [] (by decide) ?_
 exact To
 refine cN hh c3 ?_
 revert H;refine B2 fun o1 H Hr1=>?_
 refine aP (ι:=Bool) (fun i=>o1=i) (fun i=>[(1,fEq (ptr b1)),(3,fEq (ptr b2))]) (fun i=>[aA b2 122 [fSl aD a0.AF,fSl aN a0.AD,fSl aB a0.AE,fI a0.AG,fEq (.slice none 0 0),fEq (.slice none 0 0),fEq (.slice none 0 0),aM i],aA b1 26 [fSl aD a0.AF,fSl aN a0.AD,fSl aB a0.AE,fI a0.AG]]) ?_ ?_
 refine Z4 ?_
 refine Tl (ι:=Nat × Int × Bool) (fun i=>iS AA a0 i.1 i.2.1 i.2.2=_) (fun i=>i.1) (fun i=>[(1,fEq (ptr b1)),(3,fEq (ptr b2)),(4,fI i.2.1)]) (fun i=>[aA b2 122 [fSl aD a0.AF,fSl aN a0.AD,fSl aB a0.AE,fI a0.AG,fEq (.slice none 0 0),fEq (.slice none 0 0),fEq (.slice none 0 0),aM i.2.2],aA b1 26 [fSl aD a0.AF,fSl aN a0.AD,fSl aB a0.AE,fI a0.AG]]) (AA,0,false) H ?_
 clear H;rintro⟨k1,x4,x5⟩ H
 replace H:iS AA a0 k1 x4 x5=_:=H
 try dsimp only
 obtain _ | k1:=k1
 rw [iS]at H;cases H
 rw [iS]at H
 refine aI ?_
 revert H;refine I7 (fun c4 H=>?_) fun c4 H=>?_
 refine cO hh c4 ?_
 revert H;refine B2 fun o2 H Hr2=>?_
 refine aP (ι:=Bool) (fun i=>o2=i) (fun i=>[(1,fEq (ptr b1)),(3,fEq (ptr b2)),(4,fI x4)]) (fun i=>[aA b2 122 [fSl aD a0.AF,fSl aN a0.AD,fSl aB a0.AE,fI a0.AG,fEq (.slice none 0 0),fEq (.slice none 0 0),fEq (.slice none 0 0),aM i],aA b1 26 [fSl aD a0.AF,fSl aN a0.AD,fSl aB a0.AE,fI a0.AG]]) ?_ ?_
 refine Z1 ?_
 revert H;refine cs (fun c5 H=>?_) fun c5 H=>?_
 apply bJ (ods:=[_,_,_,_,_,_,_,_,_,_,_,_,_,_,_,_,_,_,_,_,_,_,_,_,_,_,_,_,_,_,_,_,_,_,_]) 35 0 2 bI rfl rfl rfl
 refine ND ?_
 refine M6 ?_
 intros
 refine Mt c5 fun _=>?_
 refine Mt c5 fun _=>?_
 refine Mt c5 fun _=>?_
 refine Mt c5 fun _=>?_
 refine Mt c5 fun _=>?_
 refine Mt c5 fun _=>?_
 refine Mt c5 fun _=>?_
 refine My (dC rfl hh c5 hh) fun _=>?_
 refine M4 ?_
 intros
 refine eB (od:=odS) rfl (⟨_,_,_,_,rfl,rfl,rfl,nu⟩) rfl (fun _=>?_)
 refine eB (od:=odS) rfl (⟨_,_,_,_,rfl,rfl,rfl,nu⟩) rfl (fun _=>?_)
 refine eB (od:=odS) rfl (⟨_,_,_,_,rfl,rfl,rfl,nu⟩) rfl (fun _=>?_)
 refine eB (od:=odS) rfl (⟨_,_,_,_,rfl,rfl,rfl,nu⟩) rfl (fun _=>?_)
 refine eB (od:=odS) rfl (⟨_,_,_,_,rfl,rfl,rfl,nu⟩) rfl (fun _=>?_)
 refine eB (od:=odS) rfl (⟨_,_,_,_,rfl,rfl,rfl,nu⟩) rfl (fun _=>?_)
 refine eB (od:=odS) rfl (⟨_,_,_,_,rfl,rfl,rfl,nu⟩) rfl (fun _=>?_)
 refine eB (od:=odS) rfl (⟨_,_,_,_,rfl,rfl,rfl,nu⟩) rfl (fun _=>?_)
 refine eB (od:=odS) rfl (⟨_,_,_,_,rfl,rfl,rfl,nu⟩) rfl (fun _=>?_)
 refine eB (od:=odS) rfl (⟨_,_,_,_,rfl,rfl,rfl,nu⟩) rfl (fun _=>?_)
 refine eB (od:=odS) rfl (⟨_,_,_,_,rfl,rfl,rfl,nu⟩) rfl (fun _=>?_)
 refine eB (od:=odS) rfl (⟨_,_,_,_,rfl,rfl,rfl,nu⟩) rfl (fun _=>?_)
 refine M4 ?_
 intros
 refine tB (od:=odC [0] true (dZ) [aA b2 122 [fSl aD a0.AF,fSl aN a0.AD,fSl aB a0.AE,fI a0.AG,fEq (.slice none 0 0),fEq (.slice none 0 0),fEq (.slice none 0 0),aM true]]) (p:=0) (φs':=[fSl aD a0.AF,fSl aN a0.AD,fSl aB a0.AE,fI a0.AG,fEq (.slice none 0 0),fEq (.slice none 0 0),fEq (.slice none 0 0),aM true]) rfl (fun _=>rfl) (fun _=>rfl) a1Z rfl rfl rfl (has rfl) (has rfl) (aH a1Z) (sz rfl) rfl rfl (fun _=>?_)
 refine Z4 ?_
 exact Tm (true) (ij H)
 exact fk
 kernel_rfl
 revert H;refine bs fun y1 h1 H=>?_
 revert H;refine bs fun y2 h2 H=>?_
 revert H;refine cs (fun c6 H=>?_) fun c6 H=>?_
 apply bJ (ods:=[_,_,_,_,_,_,_,_,_,_,_,_,_,_,_,_,_,_,_,_,_,_,_,_,_,_,_,_,_,_,_,_,_,_,_]) 35 0 2 bI rfl rfl rfl
 refine ND ?_
 refine M6 ?_
 intros
 refine Mg c5 (bT 0 rfl hh (fa rfl) rfl) fun _=>?_
 refine dH (od:=odC [1] false (fSl aD a0.AF) [cS]) (ps:=[1]) (φ:=fSl aD a0.AF) rfl (fun _=>rfl) ⟨_,_,rfl,rfl,c5⟩ rfl rfl (bA rfl hh (sc rfl) rfl Ent.rfl) (fun _=>?_)
 refine Mg c5 (cI rfl hh) fun _=>?_
 refine Mg c5 (bW rfl hh hh (el rfl) h1) fun _=>?_
 refine Mg c5 (fP rfl hh (sc rfl) rfl) fun _=>?_
 refine Nc (aBY _ _ _ h2) fun _=>?_
 refine Mg c5 (mH rfl hh) fun _=>?_
 refine My (cM rfl hh c5 hh) fun _=>?_
 refine M1 ?_
 intros
 refine Mt c6 fun _=>?_
 refine Mt c6 fun _=>?_
 refine Mt c6 fun _=>?_
 refine eB (od:=odS) rfl (⟨_,_,_,_,rfl,rfl,rfl,nu⟩) rfl (fun _=>?_)
 refine eB (od:=odS) rfl (⟨_,_,_,_,rfl,rfl,rfl,nu⟩) rfl (fun _=>?_)
 refine eB (od:=odS) rfl (⟨_,_,_,_,rfl,rfl,rfl,nu⟩) rfl (fun _=>?_)
 refine eB (od:=odS) rfl (⟨_,_,_,_,rfl,rfl,rfl,nu⟩) rfl (fun _=>?_)
 refine eB (od:=odS) rfl (⟨_,_,_,_,rfl,rfl,rfl,nu⟩) rfl (fun _=>?_)
 refine eB (od:=odS) rfl (⟨_,_,_,_,rfl,rfl,rfl,nu⟩) rfl (fun _=>?_)
 refine eB (od:=odS) rfl (⟨_,_,_,_,rfl,rfl,rfl,nu⟩) rfl (fun _=>?_)
 refine eB (od:=odS) rfl (⟨_,_,_,_,rfl,rfl,rfl,nu⟩) rfl (fun _=>?_)
 refine eB (od:=odS) rfl (⟨_,_,_,_,rfl,rfl,rfl,nu⟩) rfl (fun _=>?_)
 refine eB (od:=odS) rfl (⟨_,_,_,_,rfl,rfl,rfl,nu⟩) rfl (fun _=>?_)
 refine eB (od:=odS) rfl (⟨_,_,_,_,rfl,rfl,rfl,nu⟩) rfl (fun _=>?_)
 refine eB (od:=odS) rfl (⟨_,_,_,_,rfl,rfl,rfl,nu⟩) rfl (fun _=>?_)
 refine Mt c6 fun _=>?_
 refine My (dC rfl hh c6 hh) fun _=>?_
 refine M2 ?_
 intros
 refine tB (od:=odC [0] true (dZ) [aA b2 122 [fSl aD a0.AF,fSl aN a0.AD,fSl aB a0.AE,fI a0.AG,fEq (.slice none 0 0),fEq (.slice none 0 0),fEq (.slice none 0 0),aM true]]) (p:=0) (φs':=[fSl aD a0.AF,fSl aN a0.AD,fSl aB a0.AE,fI a0.AG,fEq (.slice none 0 0),fEq (.slice none 0 0),fEq (.slice none 0 0),aM true]) rfl (fun _=>rfl) (fun _=>rfl) a1Z rfl rfl rfl (has rfl) (has rfl) (aH a1Z) (sz rfl) rfl rfl (fun _=>?_)
 refine Z4 ?_
 exact Tm (true) (ij H)
 exact fk
 kernel_rfl
 revert H;refine is (fun c7 H=>?_) fun c7 H=>?_
 revert H;refine bs fun y3 h3 H=>?_
 revert H;refine bs fun z1 h4 H=>?_
 revert H;refine bs fun y4 h5 H=>?_
 apply bJ (ods:=[_,_,_,_,_,_,_,_,_,_,_,_,_,_,_,_,_,_,_,_,_,_,_,_,_,_,_,_,_,_,_,_,_,_,_]) 35 0 2 bI rfl rfl rfl
 refine ND ?_
 refine M6 ?_
 intros
 refine Mg c5 (bT 0 rfl hh (fa rfl) rfl) fun _=>?_
 refine dH (od:=odC [1] false (fSl aD a0.AF) [cS]) (ps:=[1]) (φ:=fSl aD a0.AF) rfl (fun _=>rfl) ⟨_,_,rfl,rfl,c5⟩ rfl rfl (bA rfl hh (sc rfl) rfl Ent.rfl) (fun _=>?_)
 refine Mg c5 (cI rfl hh) fun _=>?_
 refine Mg c5 (bW rfl hh hh (el rfl) h1) fun _=>?_
 refine Mg c5 (fP rfl hh (sc rfl) rfl) fun _=>?_
 refine Nc (aBY _ _ _ h2) fun _=>?_
 refine Mg c5 (mH rfl hh) fun _=>?_
 refine My (cM rfl hh c5 hh) fun _=>?_
 refine M1 ?_
 intros
 refine Mg c6 (cI rfl hh) fun _=>?_
 refine Mg c6 (gK rfl hh hh) fun _=>?_
 refine Mg c6 (cI rfl hh) fun _=>?_
 refine Mg c7 (bT 0 rfl hh (fa rfl) rfl) fun _=>?_
 refine dH (od:=odC [1] false (fSl aD a0.AF) [cS]) (ps:=[1]) (φ:=fSl aD a0.AF) rfl (fun _=>rfl) ⟨_,_,rfl,rfl,c7⟩ rfl rfl (bA rfl hh (sc rfl) rfl Ent.rfl) (fun _=>?_)
 refine Mg c7 (cI rfl hh) fun _=>?_
 refine Mg c7 (bW rfl hh hh (el rfl) h3) fun _=>?_
 refine Mg c7 (fP rfl hh (sc rfl) rfl) fun _=>?_
 refine Mg c7 (bT 0 rfl hh (fa rfl) rfl) fun _=>?_
 refine dH (od:=odC [1] false (fSl aD a0.AF) [cS]) (ps:=[1]) (φ:=fSl aD a0.AF) rfl (fun _=>rfl) ⟨_,_,rfl,rfl,c7⟩ rfl rfl (bA rfl hh (sc rfl) rfl Ent.rfl) (fun _=>?_)
 refine Mg c7 (cI rfl hh) fun _=>?_
 refine Mg c7 (o_sub rfl hh hh h4) fun _=>?_
 refine Mg c7 (bW rfl hh hh (el rfl) h5) fun _=>?_
 refine Mg c7 (fP rfl hh (sc rfl) rfl) fun _=>?_
 refine Mg c7 (o_leqS rfl hh hh) fun _=>?_
 refine Mg c6 (dC rfl hh c7 hh) fun _=>?_
 refine My (cM rfl hh c6 hh) fun _=>?_
 refine M2 ?_
 intros
 refine tB (od:=odC [0] true (dZ) [aA b2 122 [fSl aD a0.AF,fSl aN a0.AD,fSl aB a0.AE,fI a0.AG,fEq (.slice none 0 0),fEq (.slice none 0 0),fEq (.slice none 0 0),aM (sle y3 y4)]]) (p:=0) (φs':=[fSl aD a0.AF,fSl aN a0.AD,fSl aB a0.AE,fI a0.AG,fEq (.slice none 0 0),fEq (.slice none 0 0),fEq (.slice none 0 0),aM (sle y3 y4)]) rfl (fun _=>rfl) (fun _=>rfl) a1Z rfl rfl rfl (has rfl) (has rfl) (aH a1Z) (sz rfl) rfl rfl (fun _=>?_)
 refine Z4 ?_
 exact Tm (sle y3 y4) (ij H)
 exact fk
 kernel_rfl
 apply bJ (ods:=[_,_,_,_,_,_,_,_,_,_,_,_,_,_,_,_,_,_,_,_,_,_,_,_,_,_,_,_,_,_,_,_,_,_,_]) 35 0 2 bI rfl rfl rfl
 refine ND ?_
 refine M6 ?_
 intros
 refine Mg c5 (bT 0 rfl hh (fa rfl) rfl) fun _=>?_
 refine dH (od:=odC [1] false (fSl aD a0.AF) [cS]) (ps:=[1]) (φ:=fSl aD a0.AF) rfl (fun _=>rfl) ⟨_,_,rfl,rfl,c5⟩ rfl rfl (bA rfl hh (sc rfl) rfl Ent.rfl) (fun _=>?_)
 refine Mg c5 (cI rfl hh) fun _=>?_
 refine Mg c5 (bW rfl hh hh (el rfl) h1) fun _=>?_
 refine Mg c5 (fP rfl hh (sc rfl) rfl) fun _=>?_
 refine Nc (aBY _ _ _ h2) fun _=>?_
 refine Mg c5 (mH rfl hh) fun _=>?_
 refine My (cM rfl hh c5 hh) fun _=>?_
 refine M1 ?_
 intros
 refine Mg c6 (cI rfl hh) fun _=>?_
 refine Mg c6 (gK rfl hh hh) fun _=>?_
 refine Mg c6 (cI rfl hh) fun _=>?_
 refine Mz c7 fun _=>?_
 refine Mz c7 fun _=>?_
 refine Mz c7 fun _=>?_
 refine Mz c7 fun _=>?_
 refine Mz c7 fun _=>?_
 refine Mz c7 fun _=>?_
 refine Mz c7 fun _=>?_
 refine Mz c7 fun _=>?_
 refine Mz c7 fun _=>?_
 refine Mz c7 fun _=>?_
 refine Mz c7 fun _=>?_
 refine Mz c7 fun _=>?_
 refine Mg c6 (cM rfl hh c7 hh) fun _=>?_
 refine My (cM rfl hh c6 hh) fun _=>?_
 refine M2 ?_
 intros
 refine tB (od:=odC [0] true (dZ) [aA b2 122 [fSl aD a0.AF,fSl aN a0.AD,fSl aB a0.AE,fI a0.AG,fEq (.slice none 0 0),fEq (.slice none 0 0),fEq (.slice none 0 0),aM false]]) (p:=0) (φs':=[fSl aD a0.AF,fSl aN a0.AD,fSl aB a0.AE,fI a0.AG,fEq (.slice none 0 0),fEq (.slice none 0 0),fEq (.slice none 0 0),aM false]) rfl (fun _=>rfl) (fun _=>rfl) a1Z rfl rfl rfl (has rfl) (has rfl) (aH a1Z) (sz rfl) rfl rfl (fun _=>?_)
 refine Z4 ?_
 exact Tm (false) (ij H)
 exact fk
 kernel_rfl
 clear H;intro x6 hi;subst o2;have H:=Hr2;clear Hr2;try dsimp only at H
 try dsimp only
 revert H;refine B2 fun z2 h6 H=>?_
 refine Yy (dO rfl hh hh h6) ?_
 refine Z2 ?_
 exact Tm ((k1,z2,x6)) ⟨H,ls⟩
 refine cN hh c4 ?_
 refine Z5 ?_
 exact Tm (x5) (ij H)
 clear H;intro x1 hi;subst o1;have H:=Hr1;clear Hr1;try dsimp only at H
 try dsimp only
 revert H;refine bs fun o3 H Hr3=>?_
 refine aP (ι:=Bool) (fun i=>o3=i) (fun i=>[(1,fEq (ptr b1)),(3,fEq (ptr b2))]) (fun i=>[aA b2 122 [fSl aD a0.AF,fSl aN a0.AD,fSl aB a0.AE,fI a0.AG,fEq (.slice none 0 0),fEq (.slice none 0 0),fEq (.slice none 0 0),aM i],aA b1 26 [fSl aD a0.AF,fSl aN a0.AD,fSl aB a0.AE,fI a0.AG]]) ?_ ?_
 refine Z4 ?_
 refine Tl (ι:=Nat × Int × Bool) (fun i=>jW AA a0 i.1 i.2.1 i.2.2=_) (fun i=>i.1) (fun i=>[(1,fEq (ptr b1)),(3,fEq (ptr b2)),(5,fI i.2.1)]) (fun i=>[aA b2 122 [fSl aD a0.AF,fSl aN a0.AD,fSl aB a0.AE,fI a0.AG,fEq (.slice none 0 0),fEq (.slice none 0 0),fEq (.slice none 0 0),aM i.2.2],aA b1 26 [fSl aD a0.AF,fSl aN a0.AD,fSl aB a0.AE,fI a0.AG]]) (AA,0,x1) H ?_
 clear H;rintro⟨k2,x10,x11⟩ H
 replace H:jW AA a0 k2 x10 x11=_:=H
 try dsimp only
 obtain _ | k2:=k2
 rw [jW]at H;cases H
 rw [jW]at H
 refine aI ?_
 revert H;refine I7 (fun c8 H=>?_) fun c8 H=>?_
 refine cO hh c8 ?_
 revert H;refine B2 fun o4 H Hr4=>?_
 refine aP (ι:=Bool) (fun i=>o4=i) (fun i=>[(1,fEq (ptr b1)),(3,fEq (ptr b2)),(5,fI x10)]) (fun i=>[aA b2 122 [fSl aD a0.AF,fSl aN a0.AD,fSl aB a0.AE,fI a0.AG,fEq (.slice none 0 0),fEq (.slice none 0 0),fEq (.slice none 0 0),aM i],aA b1 26 [fSl aD a0.AF,fSl aN a0.AD,fSl aB a0.AE,fI a0.AG]]) ?_ ?_
 refine Z8 ?_
 revert H;refine cs (fun c9 H=>?_) fun c9 H=>?_
 refine Yt c9 ?_
 refine Yt c9 ?_
 refine Yt c9 ?_
 refine Yt c9 ?_
 refine Yt c9 ?_
 refine Yt c9 ?_
 refine Yt c9 ?_
 refine Yy (dC rfl hh c9 hh) ?_
 refine Z2 ?_
 refine bX (φs':=[fSl aD a0.AF,fSl aN a0.AD,fSl aB a0.AE,fI a0.AG,fEq (.slice none 0 0),fEq (.slice none 0 0),fEq (.slice none 0 0),aM true]) a1Z rfl rfl (has rfl) (has rfl) (aH a1Z) (sz rfl) rfl rfl ?_
 refine Z3 ?_
 exact Tm (true) (ij H)
 refine Yg c9 (bT 2 rfl hh (fa rfl) rfl) ?_
 refine Yh 1 rfl c9 (bA rfl hh (sc rfl) rfl Ent.rfl) ?_
 refine Yg c9 (cI rfl hh) ?_
 revert H;refine bs fun y5 h7 H=>?_
 refine Yg c9 (bW rfl hh hh (el rfl) h7) ?_
 refine Yg c9 (aBo rfl hh (ag rfl)) ?_
 revert H;refine bs fun y6 h8 H=>?_
 refine Tc (aHi _ _ _ h8) ?_
 refine Yg c9 (mH rfl hh) ?_
 refine Yy (cM rfl hh c9 hh) ?_
 refine Z2 ?_
 refine bX (φs':=[fSl aD a0.AF,fSl aN a0.AD,fSl aB a0.AE,fI a0.AG,fEq (.slice none 0 0),fEq (.slice none 0 0),fEq (.slice none 0 0),aM (!y6)]) a1Z rfl rfl (has rfl) (has rfl) (aH a1Z) (sz rfl) rfl rfl ?_
 refine Z3 ?_
 exact Tm (!y6) (ij H)
 clear H;intro x12 hi;subst o4;have H:=Hr4;clear Hr4;try dsimp only at H
 try dsimp only
 revert H;refine B2 fun z3 h9 H=>?_
 refine Yy (dO rfl hh hh h9) ?_
 refine Z2 ?_
 exact Tm ((k2,z3,x12)) ⟨H,ls⟩
 refine cN hh c8 ?_
 refine Z5 ?_
 exact Tm (x11) (ij H)
 clear H;intro x7 hi;subst o3;have H:=Hr3;clear Hr3;try dsimp only at H
 try dsimp only
 refine aI ?_
 revert H;refine bs fun y7 h10 H=>?_
 revert H;refine bs fun y8 h11 H=>?_
 revert H;refine bs fun y9 h12 H=>?_
 apply bJ (ods:=[_,_,_,_,_,_,_,_,_,_,_,_,_,_,_,_,_,_,_,_,_,_,_,_]) 24 3 5 bI rfl rfl rfl
 refine ND ?_
 refine M6 ?_
 intros
 refine Mn 2 (fun b3=> .slice (some ⟨b3,0,none⟩) y7.length y7.length) (fun b3=>aC (.slice (some ⟨b3,0,none⟩) y7.length y7.length) 3 tI y7) rfl (qN (t:=tI) (z:=0) rfl (has rfl) (et rfl) rfl uZ rfl h10) (fun b3 u1=>?_)
 refine M3 ?_
 intros
 refine Mn 3 (fun b4=> .slice (some ⟨b4,0,none⟩) y8.length y8.length) (fun b4=>aC (.slice (some ⟨b4,0,none⟩) y8.length y8.length) 3 tI y8) rfl (qN (t:=tI) (z:=0) rfl (has rfl) (et rfl) rfl uZ rfl h11) (fun b4 u2=>?_)
 refine M3 ?_
 intros
 refine Mn 4 (fun b5=> .slice (some ⟨b5,0,none⟩) y9.length y9.length) (fun b5=>aC (.slice (some ⟨b5,0,none⟩) y9.length y9.length) 3 tI y9) rfl (qN (t:=tI) (z:=0) rfl (has rfl) (et rfl) rfl uZ rfl h12) (fun b5 u3=>?_)
 refine M2 ?_
 intros
 refine tB (od:=od1 6 [0] true (fun b3 _=>dZ) (fun b3 _=>[aA b2 122 [fSl aD a0.AF,fSl aN a0.AD,fSl aB a0.AE,fI a0.AG,fEq (.slice (some ⟨b3,0,none⟩) y7.length y7.length),fEq (.slice none 0 0),fEq (.slice none 0 0),aM x7]])) (p:=0) (φs':=[fSl aD a0.AF,fSl aN a0.AD,fSl aB a0.AE,fI a0.AG,fEq (.slice (some ⟨b3,0,none⟩) y7.length y7.length),fEq (.slice none 0 0),fEq (.slice none 0 0),aM x7]) rfl (fun _=>rfl) (fun _=>rfl) a1Z rfl rfl rfl (has rfl) (has rfl) (aH a1Z) (sz rfl) rfl rfl (fun _=>?_)
 refine M2 ?_
 intros
 refine tB (od:=od2 6 10 [0] true (fun b3 _ b4 _=>dZ) (fun b3 _ b4 _=>[aA b2 122 [fSl aD a0.AF,fSl aN a0.AD,fSl aB a0.AE,fI a0.AG,fEq (.slice (some ⟨b3,0,none⟩) y7.length y7.length),fEq (.slice (some ⟨b4,0,none⟩) y8.length y8.length),fEq (.slice none 0 0),aM x7]])) (p:=0) (φs':=[fSl aD a0.AF,fSl aN a0.AD,fSl aB a0.AE,fI a0.AG,fEq (.slice (some ⟨b3,0,none⟩) y7.length y7.length),fEq (.slice (some ⟨b4,0,none⟩) y8.length y8.length),fEq (.slice none 0 0),aM x7]) rfl (fun _=>rfl) (fun _=>rfl) a1Z rfl rfl rfl (has rfl) (has rfl) (aH a1Z) (sz rfl) rfl rfl (fun _=>?_)
 refine M2 ?_
 intros
 refine tB (od:=od3 6 10 14 [0] true (fun b3 _ b4 _ b5 _=>dZ) (fun b3 _ b4 _ b5 _=>[aA b2 122 [fSl aD a0.AF,fSl aN a0.AD,fSl aB a0.AE,fI a0.AG,fEq (.slice (some ⟨b3,0,none⟩) y7.length y7.length),fEq (.slice (some ⟨b4,0,none⟩) y8.length y8.length),fEq (.slice (some ⟨b5,0,none⟩) y9.length y9.length),aM x7]])) (p:=0) (φs':=[fSl aD a0.AF,fSl aN a0.AD,fSl aB a0.AE,fI a0.AG,fEq (.slice (some ⟨b3,0,none⟩) y7.length y7.length),fEq (.slice (some ⟨b4,0,none⟩) y8.length y8.length),fEq (.slice (some ⟨b5,0,none⟩) y9.length y9.length),aM x7]) rfl (fun _=>rfl) (fun _=>rfl) a1Z rfl rfl rfl (has rfl) (has rfl) (aH a1Z) (sz rfl) rfl rfl (fun _=>?_)
 refine Z1 ?_
 generalize (Value.slice (some ⟨b3,0,none⟩) _ _)=v1
 refine aK 2 rfl (fun hc_v1=>?_)
 generalize (Value.slice (some ⟨b4,0,none⟩) _ _)=v2
 refine aK 3 rfl (fun hc_v2=>?_)
 generalize (Value.slice (some ⟨b5,0,none⟩) _ _)=v3
 refine aK 4 rfl (fun hc_v3=>?_)
 refine Z1 ?_
 refine aI ?_
 refine Z6 ?_
 revert H;refine cs (fun c10 H=>?_) fun c10 H=>?_
 refine cO hh c10 ?_
 refine Z5 ?_
 refine cW ?_
 refine cB (φ:=fSl tI y7) (v:=v1) [101] cZ fz ?_
 refine eV (φs':=[fSl aD a0.AF,fSl aN a0.AD,fSl aB a0.AE,fI a0.AG,fSl tI y7,fEq v2,fEq v3,aM x7]) (i:=4) rfl rfl ?_
 refine bZ ?_
 refine cW ?_
 refine cB (φ:=fSl tI y8) (v:=v2) [105] cZ fz ?_
 refine eV (φs':=[fSl aD a0.AF,fSl aN a0.AD,fSl aB a0.AE,fI a0.AG,fSl tI y7,fSl tI y8,fEq v3,aM x7]) (i:=5) rfl rfl ?_
 refine bZ ?_
 refine cW ?_
 refine cB (φ:=fSl tI y9) (v:=v3) [109] cZ fz ?_
 refine eV (φs':=[fSl aD a0.AF,fSl aN a0.AD,fSl aB a0.AE,fI a0.AG,fSl tI y7,fSl tI y8,fSl tI y9,aM x7]) (i:=6) rfl rfl ?_
 refine bZ ?_
 refine cB (φ:=aF uI (⟨(⟨a0.AF,a0.AD,a0.AE,a0.AG⟩:AI),y7,y8,y9,x7⟩:Aa)) (v:=ptr b2) [3,95,96,97,110,112,114,116,117,120,2] (fV aQ.rfl) fz ?_
 refine bZ ?_
 cases H
 refine aE [] (by decide) ?_
 exact To
 refine cN hh c10 ?_
 refine Z9 ?_
 refine aY ?_
 refine aY ?_
 refine aY ?_
 refine cV ?_
 refine fQ (x:=(⟨(⟨a0.AF,a0.AD,a0.AE,a0.AG⟩:AI),y7,y8,y9,x7⟩:Aa)) ?_
 revert H;refine bs fun y10 h13 H=>?_
 refine Tc (aIW _ _ _ _ _ _ h13) ?_
 refine sY (fun v4 v5 v6=>?_)
 refine aK 1 rfl (fun hc_v4=>?_)
 refine aK 2 rfl (fun hc_v5=>?_)
 refine aK 3 rfl (fun hc_v6=>?_)
 revert H;refine B1 fun o5 H Hr5=>?_
 refine aP (ι:=Bool) (fun i=>o5=i) (fun i=>[(3,fEq (ptr b2))]) (fun i=>[aA b2 122 [fSl aD y10.p.AF,fSl aN y10.p.AD,fSl aB y10.p.AE,fI y10.p.AG,fEq v4,fEq v5,fEq v6,aM i],aA b1 26 [fSl aD a0.AF,fSl aN a0.AD,fSl aB a0.AE,fI a0.AG],aC v4 3 tI y10.AY,aC v5 3 tI y10.Ah,aC v6 3 tI y10.Ag]) ?_ ?_
 refine Z4 ?_
 refine aE [0,4,1,2,3] (by decide) ?_
 refine Tl (ι:=Nat × Int × Bool) (fun i=>jP y10 i.1 i.2.1 i.2.2=_) (fun i=>i.1) (fun i=>[(3,fEq (ptr b2)),(6,fI i.2.1)]) (fun i=>[aA b2 122 [fSl aD y10.p.AF,fSl aN y10.p.AD,fSl aB y10.p.AE,fI y10.p.AG,fEq v4,fEq v5,fEq v6,aM i.2.2],aA b1 26 [fSl aD a0.AF,fSl aN a0.AD,fSl aB a0.AE,fI a0.AG],aC v4 3 tI y10.AY,aC v5 3 tI y10.Ah,aC v6 3 tI y10.Ag]) (AA,0,y10.bad) H ?_
 clear H;rintro⟨k3,x16,x17⟩ H
 replace H:jP y10 k3 x16 x17=_:=H
 try dsimp only
 obtain _ | k3:=k3
 rw [jP]at H;cases H
 rw [jP]at H
 refine aI ?_
 revert H;refine I9 (fun c11 H=>?_) fun c11 H=>?_
 refine cO hh c11 ?_
 revert H;refine B2 fun o6 H Hr6=>?_
 refine aP (ι:=Bool) (fun i=>o6=i) (fun i=>[(3,fEq (ptr b2)),(6,fI x16)]) (fun i=>[aA b2 122 [fSl aD y10.p.AF,fSl aN y10.p.AD,fSl aB y10.p.AE,fI y10.p.AG,fEq v4,fEq v5,fEq v6,aM i],aA b1 26 [fSl aD a0.AF,fSl aN a0.AD,fSl aB a0.AE,fI a0.AG],aC v4 3 tI y10.AY,aC v5 3 tI y10.Ah,aC v6 3 tI y10.Ag]) ?_ ?_
 refine Z8 ?_
 revert H;refine cs (fun c12 H=>?_) fun c12 H=>?_
 refine Yt c12 ?_
 refine Yt c12 ?_
 refine Yt c12 ?_
 refine Yt c12 ?_
 refine Yt c12 ?_
 refine Yt c12 ?_
 refine Yt c12 ?_
 refine Yt c12 ?_
 refine Yy (dC rfl hh c12 hh) ?_
 refine Z2 ?_
 refine bX (φs':=[fSl aD y10.p.AF,fSl aN y10.p.AD,fSl aB y10.p.AE,fI y10.p.AG,fEq v4,fEq v5,fEq v6,aM true]) a1Z rfl rfl (has rfl) (has rfl) (aH a1Z) (sz rfl) rfl rfl ?_
 refine Z3 ?_
 exact Tm (true) (ij H)
 refine Yg c12 (cI rfl hh) ?_
 refine Yg c12 (jO rfl (has rfl) (fun m v h=>⟨_,h⟩)) ?_
 refine Yg c12 (bT 5 rfl hh (fa rfl) rfl) ?_
 refine Yh 0 rfl c12 (bA rfl hh (sc rfl) rfl Ent.rfl) ?_
 refine Yg c12 (cI rfl hh) ?_
 revert H;refine bs fun y11 h14 H=>?_
 refine Yh 3 rfl c12 (iQ rfl hh hh (el rfl) h14) ?_
 refine Yh 3 rfl c12 (jU rfl rfl hh (sc rfl) (eW h14) rfl) ?_
 refine Yg c12 (o_eql rfl hh hh) ?_
 refine Yy (cM rfl hh c12 hh) ?_
 refine Z2 ?_
 refine bX (φs':=[fSl aD y10.p.AF,fSl aN y10.p.AD,fSl aB y10.p.AE,fI y10.p.AG,fEq v4,fEq v5,fEq v6,aM (decide (y11=0))]) a1Z rfl rfl (has rfl) (has rfl) (aH a1Z) (sz rfl) rfl rfl ?_
 refine Z3 ?_
 exact Tm (decide (y11=0)) (ij H)
 clear H;intro x18 hi;subst o6;have H:=Hr6;clear Hr6;try dsimp only at H
 try dsimp only
 revert H;refine B2 fun z4 h15 H=>?_
 refine Yy (dO rfl hh hh h15) ?_
 refine Z2 ?_
 exact Tm ((k3,z4,x18)) ⟨H,ls⟩
 refine cN hh c11 ?_
 refine Z5 ?_
 exact Tm (x17) (ij H)
 clear H;intro x13 hi;subst o5;have H:=Hr5;clear Hr5;try dsimp only at H
 try dsimp only
 revert H;refine bs fun o7 H Hr7=>?_
 refine aP (ι:=Bool) (fun i=>o7=i) (fun i=>[(3,fEq (ptr b2))]) (fun i=>[aA b2 122 [fSl aD y10.p.AF,fSl aN y10.p.AD,fSl aB y10.p.AE,fI y10.p.AG,fEq v4,fEq v5,fEq v6,aM i],aA b1 26 [fSl aD a0.AF,fSl aN a0.AD,fSl aB a0.AE,fI a0.AG],aC v4 3 tI y10.AY,aC v5 3 tI y10.Ah,aC v6 3 tI y10.Ag]) ?_ ?_
 refine Z4 ?_
 refine Tl (ι:=Nat × Int × Bool) (fun i=>jT y10 i.1 i.2.1 i.2.2=_) (fun i=>i.1) (fun i=>[(3,fEq (ptr b2)),(7,fI i.2.1)]) (fun i=>[aA b2 122 [fSl aD y10.p.AF,fSl aN y10.p.AD,fSl aB y10.p.AE,fI y10.p.AG,fEq v4,fEq v5,fEq v6,aM i.2.2],aA b1 26 [fSl aD a0.AF,fSl aN a0.AD,fSl aB a0.AE,fI a0.AG],aC v4 3 tI y10.AY,aC v5 3 tI y10.Ah,aC v6 3 tI y10.Ag]) (AA,0,x13) H ?_
 clear H;rintro⟨k4,x22,x23⟩ H
 replace H:jT y10 k4 x22 x23=_:=H
 try dsimp only
 obtain _ | k4:=k4
 rw [jT]at H;cases H
 rw [jT]at H
 refine aI ?_
 revert H;refine I9 (fun c13 H=>?_) fun c13 H=>?_
 refine cO hh c13 ?_
 revert H;refine B2 fun o8 H Hr8=>?_
 refine aP (ι:=Bool) (fun i=>o8=i) (fun i=>[(3,fEq (ptr b2)),(7,fI x22)]) (fun i=>[aA b2 122 [fSl aD y10.p.AF,fSl aN y10.p.AD,fSl aB y10.p.AE,fI y10.p.AG,fEq v4,fEq v5,fEq v6,aM i],aA b1 26 [fSl aD a0.AF,fSl aN a0.AD,fSl aB a0.AE,fI a0.AG],aC v4 3 tI y10.AY,aC v5 3 tI y10.Ah,aC v6 3 tI y10.Ag]) ?_ ?_
 refine Z8 ?_
 revert H;refine cs (fun c14 H=>?_) fun c14 H=>?_
 refine Yt c14 ?_
 refine Yt c14 ?_
 refine Yt c14 ?_
 refine Yt c14 ?_
 refine Yt c14 ?_
 refine Yt c14 ?_
 refine Yt c14 ?_
 refine Yt c14 ?_
 refine Yy (dC rfl hh c14 hh) ?_
 refine Z2 ?_
 refine bX (φs':=[fSl aD y10.p.AF,fSl aN y10.p.AD,fSl aB y10.p.AE,fI y10.p.AG,fEq v4,fEq v5,fEq v6,aM true]) a1Z rfl rfl (has rfl) (has rfl) (aH a1Z) (sz rfl) rfl rfl ?_
 refine Z3 ?_
 exact Tm (true) (ij H)
 refine Yg c14 (cI rfl hh) ?_
 refine Yg c14 (jO rfl (has rfl) (fun m v h=>⟨_,h⟩)) ?_
 refine Yg c14 (bT 6 rfl hh (fa rfl) rfl) ?_
 refine Yh 0 rfl c14 (bA rfl hh (sc rfl) rfl Ent.rfl) ?_
 refine Yg c14 (cI rfl hh) ?_
 revert H;refine bs fun y12 h16 H=>?_
 refine Yh 4 rfl c14 (iQ rfl hh hh (el rfl) h16) ?_
 refine Yh 4 rfl c14 (jU rfl rfl hh (sc rfl) (eW h16) rfl) ?_
 refine Yg c14 (o_eql rfl hh hh) ?_
 refine Yy (cM rfl hh c14 hh) ?_
 refine Z2 ?_
 refine bX (φs':=[fSl aD y10.p.AF,fSl aN y10.p.AD,fSl aB y10.p.AE,fI y10.p.AG,fEq v4,fEq v5,fEq v6,aM (decide (y12=0))]) a1Z rfl rfl (has rfl) (has rfl) (aH a1Z) (sz rfl) rfl rfl ?_
 refine Z3 ?_
 exact Tm (decide (y12=0)) (ij H)
 clear H;intro x24 hi;subst o8;have H:=Hr8;clear Hr8;try dsimp only at H
 try dsimp only
 revert H;refine B2 fun z5 h17 H=>?_
 refine Yy (dO rfl hh hh h17) ?_
 refine Z2 ?_
 exact Tm ((k4,z5,x24)) ⟨H,ls⟩
 refine cN hh c13 ?_
 refine Z5 ?_
 exact Tm (x23) (ij H)
 clear H;intro x19 hi;subst o7;have H:=Hr7;clear Hr7;try dsimp only at H
 try dsimp only
 refine Z5 ?_
 refine cW ?_
 refine cB (φ:=fSl tI y10.AY) (v:=v4) [] cZ (fun _ h=>nomatch h) ?_
 refine eV (φs':=[fSl aD y10.p.AF,fSl aN y10.p.AD,fSl aB y10.p.AE,fI y10.p.AG,fSl tI y10.AY,fEq v5,fEq v6,aM x19]) (i:=4) rfl rfl ?_
 refine bZ ?_
 refine cW ?_
 refine cB (φ:=fSl tI y10.Ah) (v:=v5) [] cZ (fun _ h=>nomatch h) ?_
 refine eV (φs':=[fSl aD y10.p.AF,fSl aN y10.p.AD,fSl aB y10.p.AE,fI y10.p.AG,fSl tI y10.AY,fSl tI y10.Ah,fEq v6,aM x19]) (i:=5) rfl rfl ?_
 refine bZ ?_
 refine cW ?_
 refine cB (φ:=fSl tI y10.Ag) (v:=v6) [] cZ (fun _ h=>nomatch h) ?_
 refine eV (φs':=[fSl aD y10.p.AF,fSl aN y10.p.AD,fSl aB y10.p.AE,fI y10.p.AG,fSl tI y10.AY,fSl tI y10.Ah,fSl tI y10.Ag,aM x19]) (i:=6) rfl rfl ?_
 refine bZ ?_
 refine cB (φ:=aF uI (⟨(⟨y10.p.AF,y10.p.AD,y10.p.AE,y10.p.AG⟩:AI),y10.AY,y10.Ah,y10.Ag,x19⟩:Aa)) (v:=ptr b2) [3,180,2] (fV aQ.rfl) fz ?_
 refine bZ ?_
 cases H
 refine aE [] (by decide) ?_
 exact To
 exact fk
 kernel_rfl
def xT (AA:Nat) (a0:AI):Option (Int):=
 (uA AA (⟨a0.AF,a0.AD,a0.AE,a0.AG⟩:AI)).bind fun y1=>
 bif y1.bad then
  some 2
 else
  some 0
theorem aGP (AA:Nat)  (a0:AI) (r:Int) (H:xT AA a0=some r):FnS Tryz.prog 16 [fSt cK a0] [] (fI r) (fun _=>[]):=by
 unfold xT at H
 refine bD Tryz.func16 rfl Tryz.ntmps16 rfl (fun β=>?_)
 refine Z1 ?_
 refine Tn (bR rfl hh bO) fun b1=>?_
 refine Z2 ?_
 refine aI ?_
 revert H;refine B2 fun y1 h1 H=>?_
 refine Tc (aFg _ _ _ h1) ?_
 refine Z4 ?_
 revert H;refine cs (fun c1 H=>?_) fun c1 H=>?_
 refine Z5 ?_
 cases H
 refine aE [] (by decide) ?_
 exact To
 refine Z7 ?_
 cases H
 refine aE [] (by decide) ?_
 exact To
def uB (AA:Nat) (a0:AI):Option (List Int):=
 (uA AA (⟨a0.AF,a0.AD,a0.AE,a0.AG⟩:AI)).bind fun y1=>
 some y1.AY
theorem aFo (AA:Nat)  (a0:AI) (r:List Int) (H:uB AA a0=some r):FnS Tryz.prog 60 [fSt cK a0] [] (fSl tI r) (fun _=>[]):=by
 unfold uB at H
 refine bD Tryz.func60 rfl Tryz.ntmps60 rfl (fun β=>?_)
 refine Z1 ?_
 refine Tn (bR rfl hh bO) fun b1=>?_
 revert H;refine B4 fun y1 h1 H=>?_
 refine Tc (aFg _ _ _ h1) ?_
 refine Z6 ?_
 cases H
 refine aE [] (by decide) ?_
 exact To
def pI (a0:List Int) (a1:Int):Nat->Int->Option (Int)
| 0,_=>none
| k+1,x3=>
 if x3<(a0.length:Int)then
  (idx a0 x3).bind fun y1=>
  if y1<a1 then
   (chk (x3+1)).bind fun z1=>
   pI a0 a1 k z1
  else
   some x3
 else
  some x3
def iE (AA:Nat) (a0:List Int) (a1:Int):Option (List Int):=
 (pI a0 a1 AA 0).bind fun x1=>
 (if x1<(a0.length:Int)then
  (idx a0 x1).bind fun y2=>
  if y2=a1 then
   (some a0).bind fun r=>some (Sum.inr r)
  else
   some (Sum.inl ())
 else
  some (Sum.inl ())).bind fun o=>match o with
 | Sum.inr r=>some r
 | Sum.inl _=>
 (slc a0 x1 (a0.length:Int)).bind fun y3=>
 (cQ ([a1]++y3)).bind fun z2=>
 (slc a0 0 x1).bind fun y4=>
 (cQ (([]:List Int)++y4)).bind fun z3=>
 (cQ (z3++z2)).bind fun z4=>
 some z4
theorem xQ (AA:Nat)  (a0:List Int) (a1:Int) (r:List Int) (H:iE AA a0 a1=some r):FnS Tryz.prog 62 [fSl tI a0,fI a1] [] (fSl tI r) (fun _=>[]):=by
 unfold iE at H
 refine bD Tryz.func62 rfl Tryz.ntmps62 rfl (fun β=>?_)
 revert H;refine B6 fun o1 H Hr1=>?_
 refine aP (ι:=Int) (fun i=>o1=i) (fun i=>[(0,fSl tI a0),(1,fI a1),(5,fI i)]) (fun i=>[]) ?_ ?_
 refine Z1 ?_
 refine Tl (ι:=Nat × Int) (fun i=>pI a0 a1 i.1 i.2=_) (fun i=>i.1) (fun i=>[(0,fSl tI a0),(1,fI a1),(5,fI i.2)]) (fun i=>[]) (AA,0) H ?_
 clear H;rintro⟨k1,x3⟩ H
 replace H:pI a0 a1 k1 x3=_:=H
 try dsimp only
 obtain _ | k1:=k1
 rw [pI]at H;cases H
 rw [pI]at H
 refine aI ?_
 revert H;refine I6 (fun c1 H=>?_) fun c1 H=>?_
 revert H;refine B2 fun y1 h1 H=>?_
 revert H;refine I6 (fun c2 H=>?_) fun c2 H=>?_
 revert H;refine B6 fun z1 h2 H=>?_
 refine Z5 ?_
 exact Tm ((k1,z1)) ⟨H,ls⟩
 refine Z6 ?_
 exact Tm (x3) (ij H)
 refine Z12 ?_
 refine Z2 ?_
 exact Tm (x3) (ij H)
 clear H;intro x1 hi;subst o1;have H:=Hr1;clear Hr1;try dsimp only at H
 try dsimp only
 revert H;refine bs fun o2 H Hr2=>?_
 refine aP (ι:=Unit) (fun i=>o2=Sum.inl ()) (fun i=>[(0,fSl tI a0),(1,fI a1),(5,fI x1)]) (fun i=>[]) ?_ ?_
 revert H;refine I6 (fun c3 H=>?_) fun c3 H=>?_
 revert H;refine B2 fun y2 h3 H=>?_
 revert H;refine I6 (fun c4 H=>?_) fun c4 H=>?_
 revert H;refine B6 fun r1 H e1=>?_
 cases e1;cases Hr2
 cases H
 exact To
 refine Z3 ?_
 exact Tm (()) (ij H)
 refine Z11 ?_
 exact Tm (()) (ij H)
 clear H;intro i hi;subst o2;have H:=Hr2;clear Hr2;try dsimp only at H
 try dsimp only
 refine Z2 ?_
 refine Tn (eJ (t:=tI) (xs:=[a1]) rfl (et rfl) (bM.cons rfl (has rfl) (cF (aH a1Z)) bM.nil) rfl rfl rfl) fun b1=>?_
 generalize (Value.slice (some ⟨b1,0,none⟩) _ _)=v1
 refine aK 0 rfl (fun hc_v1=>?_)
 revert H;refine B2 fun y3 h4 H=>?_
 refine Yy (aBQ (t:=tI) rfl hh (aBR hh) aCs (el rfl) h4) ?_
 revert H;refine bs fun z2 h5 H=>?_
 refine gU (ys:=y3) a1Z rfl rfl rfl (has rfl) (has rfl) (et rfl) rfl h5 (fun v2=>?_)
 refine aK 0 rfl (fun hc_v2=>?_)
 refine Z3 ?_
 refine Tn (eJ (t:=tI) (xs:=([]:List Int)) rfl (et rfl) bM.nil rfl rfl rfl) fun b2=>?_
 generalize (Value.slice (some ⟨b2,0,none⟩) _ _)=v3
 refine aK 0 rfl (fun hc_v3=>?_)
 revert H;refine B2 fun y4 h6 H=>?_
 refine Yy (aBQ (t:=tI) rfl hh aCs (aBR hh) (el rfl) h6) ?_
 revert H;refine bs fun z3 h7 H=>?_
 refine gU (ys:=y4) a1Z rfl rfl rfl (has rfl) (has rfl) (et rfl) rfl h7 (fun v4=>?_)
 refine aK 0 rfl (fun hc_v4=>?_)
 revert H;refine B1 fun z4 h8 H=>?_
 refine cL ?_
 refine gO a1Z rfl rfl rfl (has rfl) (has rfl) (et rfl) rfl h8 (fun v5=>?_)
 refine aK 0 rfl (fun hc_v5=>?_)
 refine Z3 ?_
 refine cB (φ:=fSl tI z4) (v:=v5) [46,4] cZ fz ?_
 refine bZ ?_
 cases H
 exact To
def oA (y2:AM):Nat->(List Int)->Int->Option (List Int)
| 0,_,_=>none
| k+1,x5,x6=>
 if x6<(y2.AL.length:Int)then
  (idx y2.AL x6).bind fun y3=>
  (cQ (x5++[y3.AQ])).bind fun z1=>
  (chk (x6+1)).bind fun z2=>
  oA y2 k z1 z2
 else
  some x5
def pB (y2:AM):Nat->(List Int)->Int->Option (List Int)
| 0,_,_=>none
| k+1,x9,x10=>
 if x10<(y2.AO.length:Int)then
  (idx y2.AO x10).bind fun y4=>
  (cQ (x9++[y4.AQ])).bind fun z3=>
  (chk (x10+1)).bind fun z4=>
  pB y2 k z3 z4
 else
  some x9
def vV (AA:Nat) (a0:AI) (a1:Int):Option (List Int):=
 (idx a0.AD a1).bind fun y1=>
 (if y1.Op=4 then
  (idx a0.AE y1.N).bind fun y2=>
  (oA y2 AA [] 0).bind fun x2=>
  pB y2 AA x2 0
 else
  some []).bind fun x1=>
 (cQ (x1++y1.AN)).bind fun z5=>
 some z5
theorem aJm (AA:Nat)  (a0:AI) (a1:Int) (r:List Int) (H:vV AA a0 a1=some r):FnS Tryz.prog 138 [fSt cK a0,fI a1] [] (fSl tI r) (fun _=>[]):=by
 unfold vV at H
 refine bD Tryz.func138 rfl Tryz.ntmps138 rfl (fun β=>?_)
 refine Z1 ?_
 refine Tn (bR rfl hh bO) fun b1=>?_
 revert H;refine B9 fun y1 h1 H=>?_
 refine Z2 ?_
 refine Tn (bP rfl mG rfl) fun b2=>?_
 refine cT (φs':=[fI y1.Op,fI y1.N,fSl aO y1.AS,fSl tI y1.AN]) a1Z rfl rfl (has rfl) (has rfl) (aG (aH a1Z) (aG (aH a1Z) (aG (aT) (aG (aT) bH)))) (sz rfl) rfl rfl rfl ?_
 revert H;refine B1 fun o1 H Hr1=>?_
 refine aP (ι:=List Int × Value) (fun i=>o1=i.1) (fun i=>[(5,fEq i.2),(6,fEq (ptr b2))]) (fun i=>[aA b2 65 [fI y1.Op,fI y1.N,fSl aO y1.AS,fSl tI y1.AN],aA b1 26 [fSl aD a0.AF,fSl aN a0.AD,fSl aB a0.AE,fI a0.AG],aC i.2 3 tI i.1]) ?_ ?_
 revert H;refine I5 (fun c1 H=>?_) fun c1 H=>?_
 revert H;refine B6 fun y2 h2 H=>?_
 refine Z2 ?_
 refine Tn (bP rfl qL rfl) fun b3=>?_
 refine cT (φs':=[fSl aS y2.AK,fSl aV y2.AO,fSl aU y2.AL]) a1Z rfl rfl (has rfl) (has rfl) (aG (aT) (aG (aT) (aG (aT) bH))) (sz rfl) rfl rfl rfl ?_
 revert H;refine B1 fun o2 H Hr2=>?_
 refine aP (ι:=List Int × Value) (fun i=>o2=i.1) (fun i=>[(5,fEq i.2),(6,fEq (ptr b2)),(7,fEq (ptr b3))]) (fun i=>[aA b3 77 [fSl aS y2.AK,fSl aV y2.AO,fSl aU y2.AL],aA b2 65 [fI y1.Op,fI y1.N,fSl aO y1.AS,fSl tI y1.AN],aA b1 26 [fSl aD a0.AF,fSl aN a0.AD,fSl aB a0.AE,fI a0.AG],aC i.2 3 tI i.1]) ?_ ?_
 refine Z4 ?_
 refine eZ tI 3 ?_
 refine aE [1,2,3,0] (by decide) ?_
 refine Tl (ι:=Nat × List Int × Int × Value) (fun i=>oA y2 i.1 i.2.1 i.2.2.1=_) (fun i=>i.1) (fun i=>[(5,fEq i.2.2.2),(6,fEq (ptr b2)),(7,fEq (ptr b3)),(8,fI i.2.2.1)]) (fun i=>[aA b3 77 [fSl aS y2.AK,fSl aV y2.AO,fSl aU y2.AL],aA b2 65 [fI y1.Op,fI y1.N,fSl aO y1.AS,fSl tI y1.AN],aA b1 26 [fSl aD a0.AF,fSl aN a0.AD,fSl aB a0.AE,fI a0.AG],aC i.2.2.2 3 tI i.2.1]) (AA,[],0,(.slice none 0 0)) H ?_
 clear H;rintro⟨k1,x5,x6,v4⟩ H
 replace H:oA y2 k1 x5 x6=_:=H
 try dsimp only
 obtain _ | k1:=k1
 rw [oA]at H;cases H
 rw [oA]at H
 refine aK 3 rfl (fun hc_v4=>?_)
 refine aI ?_
 revert H;refine I7 (fun c2 H=>?_) fun c2 H=>?_
 refine Z3 ?_
 refine aI ?_
 revert H;refine B6 fun y3 h3 H=>?_
 refine Z3 ?_
 refine Tn (eJ (t:=tI) (xs:=[y3.AQ]) rfl (et rfl) (bM.cons rfl (has rfl) (cF (aH a1Z)) bM.nil) rfl rfl rfl) fun b4=>?_
 generalize (Value.slice (some ⟨b4,0,none⟩) _ _)=v5
 refine aK 0 rfl (fun hc_v5=>?_)
 revert H;refine bs fun z1 h4 H=>?_
 refine aY ?_
 refine cL ?_
 refine gO a1Z rfl rfl rfl (has rfl) (has rfl) (et rfl) rfl h4 (fun v6=>?_)
 refine aK 0 rfl (fun hc_v6=>?_)
 revert H;refine B6 fun z2 h5 H=>?_
 refine Z3 ?_
 refine aE [1,2,3,0] (by decide) ?_
 exact Tm ((k1,z1,z2,v6)) ⟨H,ls⟩
 refine Z6 ?_
 exact Tm ((x5,v4)) (ij H)
 clear H;intro i hi;obtain⟨x2,v2⟩:=i;subst o2;have H:=Hr2;clear Hr2;try dsimp only at H
 try dsimp only
 refine aK 3 rfl (fun hc_v2=>?_)
 refine Z4 ?_
 refine Tl (ι:=Nat × List Int × Int × Value) (fun i=>pB y2 i.1 i.2.1 i.2.2.1=_) (fun i=>i.1) (fun i=>[(5,fEq i.2.2.2),(6,fEq (ptr b2)),(7,fEq (ptr b3)),(9,fI i.2.2.1)]) (fun i=>[aA b3 77 [fSl aS y2.AK,fSl aV y2.AO,fSl aU y2.AL],aA b2 65 [fI y1.Op,fI y1.N,fSl aO y1.AS,fSl tI y1.AN],aA b1 26 [fSl aD a0.AF,fSl aN a0.AD,fSl aB a0.AE,fI a0.AG],aC i.2.2.2 3 tI i.2.1]) (AA,x2,0,v2) H ?_
 clear H;rintro⟨k2,x9,x10,v8⟩ H
 replace H:pB y2 k2 x9 x10=_:=H
 try dsimp only
 obtain _ | k2:=k2
 rw [pB]at H;cases H
 rw [pB]at H
 refine aK 3 rfl (fun hc_v8=>?_)
 refine aI ?_
 revert H;refine I7 (fun c3 H=>?_) fun c3 H=>?_
 refine Z3 ?_
 refine aI ?_
 revert H;refine B6 fun y4 h6 H=>?_
 refine Z3 ?_
 refine Tn (eJ (t:=tI) (xs:=[y4.AQ]) rfl (et rfl) (bM.cons rfl (has rfl) (cF (aH a1Z)) bM.nil) rfl rfl rfl) fun b5=>?_
 generalize (Value.slice (some ⟨b5,0,none⟩) _ _)=v9
 refine aK 0 rfl (fun hc_v9=>?_)
 revert H;refine bs fun z3 h7 H=>?_
 refine aY ?_
 refine cL ?_
 refine gO a1Z rfl rfl rfl (has rfl) (has rfl) (et rfl) rfl h7 (fun v10=>?_)
 refine aK 0 rfl (fun hc_v10=>?_)
 revert H;refine B6 fun z4 h8 H=>?_
 refine Z3 ?_
 refine aE [1,2,3,0] (by decide) ?_
 exact Tm ((k2,z3,z4,v10)) ⟨H,ls⟩
 refine Z6 ?_
 refine aE [1,2,3] (by decide) ?_
 exact Tm ((x9,v8)) (ij H)
 refine Z3 ?_
 refine eZ tI 3 ?_
 refine aE [1,2,0] (by decide) ?_
 exact Tm (([],(.slice none 0 0))) (ij H)
 clear H;intro i hi;obtain⟨x1,v1⟩:=i;subst o1;have H:=Hr1;clear Hr1;try dsimp only at H
 try dsimp only
 refine aK 2 rfl (fun hc_v1=>?_)
 revert H;refine B4 fun z5 h9 H=>?_
 refine cW ?_
 refine gU (ys:=y1.AN) a1Z rfl rfl rfl (has rfl) (has rfl) (et rfl) rfl h9 (fun v11=>?_)
 refine aK 0 rfl (fun hc_v11=>?_)
 refine Z3 ?_
 refine cB (φ:=fSl tI z5) (v:=v11) [59,4] cZ fz ?_
 refine bZ ?_
 cases H
 refine aE [] (by decide) ?_
 exact To
end Go.Proofs.YtgidgoahhepmlaaGreat
