/- Parts of the proof: lemmas, and the steps through the program. -/
import Derived.Test.YtgidgoahhepmlaaGreatFo2
import Derived.Test.YtgidgoahhepmlaaGreatProg
import Derived.Shelf.Sort.Plain
import Derived.Shelf.Slices.CompactI
import Derived.Shelf.Slices.In.SortNone
import Derived.DefersIn
import Derived.Below
set_option linter.unusedVariables false
set_option linter.unusedSimpArgs false
set_option maxRecDepth 100000
set_option maxHeartbeats 2000000
namespace Go.Proofs.YtgidgoahhepmlaaGreat
open Go.SX Go.SW Go.Dt
attribute [local irreducible] Code.wpIn wpListIn Exit.then Exit.inBlock
def uG (AA:Nat) (a0:AH):Option (Ag × Bool):=
 if 60<(a0.AB.length:Int)then
  some ((⟨(⟨a0.AF,a0.AI,a0.AB,a0.AD,a0.AG⟩:AH),[],[],[],[],(⟨[],[],[],0⟩:AJ),false⟩:Ag),false)
 else
  if 12<(a0.AD.length:Int)then
   some ((⟨(⟨a0.AF,a0.AI,a0.AB,a0.AD,a0.AG⟩:AH),[],[],[],[],(⟨[],[],[],0⟩:AJ),false⟩:Ag),false)
  else
   if 12<(a0.AF.length:Int)then
    some ((⟨(⟨a0.AF,a0.AI,a0.AB,a0.AD,a0.AG⟩:AH),[],[],[],[],(⟨[],[],[],0⟩:AJ),false⟩:Ag),false)
   else
    (vO AA a0.AI (a0.AF.length:Int)).bind fun y1=>
    bif y1 then
     (mk false (a0.AB.length:Int)).bind fun y2=>
     (mk [] (a0.AB.length:Int)).bind fun y3=>
     (mk [] (a0.AB.length:Int)).bind fun y4=>
     (mk 0 (a0.AB.length:Int)).bind fun y5=>
     (cQ ([]++a0.AF)).bind fun z1=>
     (mk (⟨0,0,[],[]⟩:AZ) (a0.AB.length:Int)).bind fun y6=>
     (cQ ([]++a0.AI)).bind fun z2=>
     (eE AA (⟨(⟨a0.AF,a0.AI,a0.AB,a0.AD,a0.AG⟩:AH),y2,y3,y5,y4,(⟨z1,y6,[],a0.AG⟩:AJ),false⟩:Ag) a0.AG z2 (a0.AF.length:Int)).bind fun y7=>
     bif y7.bad then
      some ((⟨(⟨y7.f.AF,y7.f.AI,y7.f.AB,y7.f.AD,y7.f.AG⟩:AH),y7.AP,y7.AY,y7.Aa,y7.AU,(⟨y7.p.AF,y7.p.AB,y7.p.AD,y7.p.AG⟩:AJ),y7.bad⟩:Ag),false)
     else
      (zP AA a0.AD).bind fun y8=>
      (vW AA (⟨y7.p.AF,y7.p.AB,y8,y7.p.AG⟩:AJ)).bind fun y9=>
      some ((⟨(⟨y7.f.AF,y7.f.AI,y7.f.AB,y7.f.AD,y7.f.AG⟩:AH),y7.AP,y7.AY,y7.Aa,y7.AU,(⟨y7.p.AF,y7.p.AB,y8,y7.p.AG⟩:AJ),y7.bad⟩:Ag),decide (y9=0))
    else
     some ((⟨(⟨a0.AF,a0.AI,a0.AB,a0.AD,a0.AG⟩:AH),[],[],[],[],(⟨[],[],[],0⟩:AJ),false⟩:Ag),false)
theorem aEC (AA:Nat)  (a0:AH) (r:Ag × Bool) (H:uG AA a0=some r):FnS Tryz.prog 46 [fSt jB a0] [] (dB [aL nM r.1,aH r.2]) (fun _=>[]):=by
 unfold uG at H
 refine bB Tryz.func46 rfl Tryz.ntmps46 rfl (fun β=>?_)
 refine Z1 ?_
 refine Tn (bU rfl hh bM) fun b1=>?_
 refine Z5 ?_
 refine Yy (gL (ψs:=[fSl aD a0.AF,fSl tI a0.AI,fSl aW a0.AB,fSl aB a0.AD,fI a0.AG,fEq (.slice none 0 0),fEq (.slice none 0 0),fEq (.slice none 0 0),fEq (.slice none 0 0),fEq (.slice none 0 0),fEq (.slice none 0 0),fEq (.slice none 0 0),fI 0,aH false]) rfl aLA rfl (bW.cons (has rfl) bM bW.nil) rfl) ?_
 refine Tn (bU rfl hh bM) fun b2=>?_
 refine Z2 ?_
 refine aG ?_
 refine I6 H (fun c1 H=>?_) fun c1 H=>?_
 refine Z12 ?_
 refine Z12 ?_
 refine Z4 ?_
 refine bT (φ:=aL nM (⟨a0,[],[],[],[],(⟨[],[],[],0⟩:AJ),false⟩:Ag)) (v:=ptr b2) [2,7,4,33] (fA (aK.cons Ent.rfl (aK.cons Ent.rfl (aK.cons Ent.rfl (aK.cons Ent.rfl (aK.cons Ent.rfl (aK.cons cC (aK.cons cC (aK.cons cC (aK.cons cC (aK.cons cC (aK.cons cC (aK.cons cC (aK.cons Ent.rfl (aK.cons Ent.rfl aK.nil))))))))))))))) fz ?_
 refine bQ ?_
 cases H
 refine aE [] (by decide) ?_
 exact gU rfl (bO rfl) (bO rfl) rfl
 refine I6 H (fun c2 H=>?_) fun c2 H=>?_
 refine Z12 ?_
 refine Z10 ?_
 refine bT (φ:=aL nM (⟨a0,[],[],[],[],(⟨[],[],[],0⟩:AJ),false⟩:Ag)) (v:=ptr b2) [2,7,4,33] (fA (aK.cons Ent.rfl (aK.cons Ent.rfl (aK.cons Ent.rfl (aK.cons Ent.rfl (aK.cons Ent.rfl (aK.cons cC (aK.cons cC (aK.cons cC (aK.cons cC (aK.cons cC (aK.cons cC (aK.cons cC (aK.cons Ent.rfl (aK.cons Ent.rfl aK.nil))))))))))))))) fz ?_
 refine bQ ?_
 cases H
 refine aE [] (by decide) ?_
 exact gU rfl (bO rfl) (bO rfl) rfl
 refine I6 H (fun c3 H=>?_) fun c3 H=>?_
 refine Z12 ?_
 refine Z4 ?_
 refine bT (φ:=aL nM (⟨a0,[],[],[],[],(⟨[],[],[],0⟩:AJ),false⟩:Ag)) (v:=ptr b2) [2,7,4,33] (fA (aK.cons Ent.rfl (aK.cons Ent.rfl (aK.cons Ent.rfl (aK.cons Ent.rfl (aK.cons Ent.rfl (aK.cons cC (aK.cons cC (aK.cons cC (aK.cons cC (aK.cons cC (aK.cons cC (aK.cons cC (aK.cons Ent.rfl (aK.cons Ent.rfl aK.nil))))))))))))))) fz ?_
 refine bQ ?_
 cases H
 refine aE [] (by decide) ?_
 exact gU rfl (bO rfl) (bO rfl) rfl
 refine B5 H fun y1 h1 H=>?_
 refine Tc (aEd _ _ _ _ h1) ?_
 refine Z3 ?_
 refine cz H (fun c4 H=>?_) fun c4 H=>?_
 refine B8 H fun y2 h2 H=>?_
 refine Tn (kH (t:=aR) (z:=false) rfl hh (et rfl) rfl wF rfl h2) fun b3=>?_
 generalize (Value.slice (some ⟨b3,0,none⟩) _ _)=v1
 refine rc 0 fun hc_v1=>?_
 refine Z2 ?_
 refine bH ?_
 refine bK (φs':=[fSl aD a0.AF,fSl tI a0.AI,fSl aW a0.AB,fSl aB a0.AD,fI a0.AG,fEq v1,fEq (.slice none 0 0),fEq (.slice none 0 0),fEq (.slice none 0 0),fEq (.slice none 0 0),fEq (.slice none 0 0),fEq (.slice none 0 0),fI 0,aH false]) a1F rfl rfl (has rfl) (has rfl) (aF hc_v1) (sz rfl) rfl rfl ?_
 refine B6 H fun y3 h3 H=>?_
 refine Tn (uW (t:=(tSl tI)) (z:=[]) rfl hh (et rfl) rfl wW (aK.cons cC aK.nil) h3) fun b4=>?_
 generalize (Value.slice (some ⟨b4,0,none⟩) _ _)=v2
 refine rc 0 fun hc_v2=>?_
 refine Z2 ?_
 refine bH ?_
 refine bK (φs':=[fSl aD a0.AF,fSl tI a0.AI,fSl aW a0.AB,fSl aB a0.AD,fI a0.AG,fEq v1,fEq v2,fEq (.slice none 0 0),fEq (.slice none 0 0),fEq (.slice none 0 0),fEq (.slice none 0 0),fEq (.slice none 0 0),fI 0,aH false]) a1F rfl rfl (has rfl) (has rfl) (aF hc_v2) (sz rfl) rfl rfl ?_
 refine B6 H fun y4 h4 H=>?_
 refine Tn (uW (t:=(tSl tI)) (z:=[]) rfl hh (et rfl) rfl wW (aK.cons cC aK.nil) h4) fun b5=>?_
 generalize (Value.slice (some ⟨b5,0,none⟩) _ _)=v3
 refine rc 0 fun hc_v3=>?_
 refine Z2 ?_
 refine bH ?_
 refine bK (φs':=[fSl aD a0.AF,fSl tI a0.AI,fSl aW a0.AB,fSl aB a0.AD,fI a0.AG,fEq v1,fEq v2,fEq (.slice none 0 0),fEq v3,fEq (.slice none 0 0),fEq (.slice none 0 0),fEq (.slice none 0 0),fI 0,aH false]) a1F rfl rfl (has rfl) (has rfl) (aF hc_v3) (sz rfl) rfl rfl ?_
 refine B6 H fun y5 h5 H=>?_
 refine Tn (kH (t:=tI) (z:=0) rfl hh (et rfl) rfl pE rfl h5) fun b6=>?_
 generalize (Value.slice (some ⟨b6,0,none⟩) _ _)=v4
 refine rc 0 fun hc_v4=>?_
 refine Z2 ?_
 refine bH ?_
 refine bK (φs':=[fSl aD a0.AF,fSl tI a0.AI,fSl aW a0.AB,fSl aB a0.AD,fI a0.AG,fEq v1,fEq v2,fEq v4,fEq v3,fEq (.slice none 0 0),fEq (.slice none 0 0),fEq (.slice none 0 0),fI 0,aH false]) a1F rfl rfl (has rfl) (has rfl) (aF hc_v4) (sz rfl) rfl rfl ?_
 refine Z1 ?_
 refine aG ?_
 refine bz H fun z1 h6 H=>?_
 refine bz H fun y6 h7 H=>?_
 apply bD (ods:=[_,_,_,_,_,_,_,_,_,_,_,_,_,_]) 14 1 7 bC rfl rfl rfl
 refine ND ?_
 refine M3 ?_
 intros
 refine aAt (od:=odC [] true (fSl aD z1) []) rfl (fun _=>rfl) a1F rfl rfl (has rfl) (has rfl) (et rfl) rfl h6 (fun _=>?_)
 refine M3 ?_
 intros
 refine Mn 6 (fun b7=> .slice (some ⟨b7,0,none⟩) y6.length y6.length) (fun b7=>aC (.slice (some ⟨b7,0,none⟩) y6.length y6.length) 65 aJ y6) rfl (uW (t:=aJ) (z:=(⟨0,0,[],[]⟩:AZ)) rfl (has rfl) (et rfl) rfl jV (aK.cons Ent.rfl (aK.cons Ent.rfl (aK.cons cC (aK.cons cC aK.nil)))) h7) (fun b7 u1=>?_)
 refine M2 ?_
 intros
 refine D1 7 b7 _ (fun b7 _=>eC [fSl aD z1,fEq (.slice (some ⟨b7,0,none⟩) y6.length y6.length),fEq (.slice none 0 0),fI a0.AG]) rfl (gL (ψs:=[fSl aD z1,fEq (.slice (some ⟨b7,0,none⟩) y6.length y6.length),fEq (.slice none 0 0),fI a0.AG]) rfl aBA rfl (bW.cons (has rfl) (cL (aS)) (bW.cons (has rfl) (cL (aF a1F)) (bW.cons (has rfl) (cL (aF a1F)) bW.nil))) rfl) (fun _=>?_)
 refine M2 ?_
 intros
 refine mS (od:=od1 7 [0] true (fun b7 _=>dP) (fun b7 _=>[aA b2 118 [fSl aD a0.AF,fSl tI a0.AI,fSl aW a0.AB,fSl aB a0.AD,fI a0.AG,fEq v1,fEq v2,fEq v4,fEq v3,fSl aD z1,fEq (.slice (some ⟨b7,0,none⟩) y6.length y6.length),fEq (.slice none 0 0),fI a0.AG,aH false]])) (p:=0) (φs':=[fSl aD a0.AF,fSl tI a0.AI,fSl aW a0.AB,fSl aB a0.AD,fI a0.AG,fEq v1,fEq v2,fEq v4,fEq v3,fSl aD z1,fEq (.slice (some ⟨b7,0,none⟩) y6.length y6.length),fEq (.slice none 0 0),fI a0.AG,aH false]) rfl (fun _=>rfl) (fun _=>rfl) a1F rfl rfl rfl (has rfl) (has rfl) (aI (aS) (aI (aF a1F) (aI (aF a1F) (aI (aF a1F) bN)))) (sz rfl) rfl rfl rfl (fun _=>?_)
 refine Z1 ?_
 generalize (Value.slice (some ⟨b7,0,none⟩) _ _)=v5
 refine rc 6 fun _=>?_
 refine Z1 ?_
 refine aG ?_
 refine bz H fun z2 h8 H=>?_
 apply bD (ods:=[_,_,_,_,_,_,_,_,_]) 9 0 7 bC rfl rfl rfl
 refine ND ?_
 refine M5 ?_
 intros
 refine aAt (od:=odC [] true (fSl tI z2) []) rfl (fun _=>rfl) a1F rfl rfl (has rfl) (has rfl) (et rfl) rfl h8 (fun _=>?_)
 refine M3 ?_
 intros
 refine Z1 ?_
 refine T_blkE (ψs:=[fSl aD (((⟨a0,y2,y3,y5,y4,(⟨z1,y6,[],a0.AG⟩:AJ),false⟩:Ag).f).AF),fSl tI (((⟨a0,y2,y3,y5,y4,(⟨z1,y6,[],a0.AG⟩:AJ),false⟩:Ag).f).AI),fSl aW (((⟨a0,y2,y3,y5,y4,(⟨z1,y6,[],a0.AG⟩:AJ),false⟩:Ag).f).AB),fSl aB (((⟨a0,y2,y3,y5,y4,(⟨z1,y6,[],a0.AG⟩:AJ),false⟩:Ag).f).AD),fI (((⟨a0,y2,y3,y5,y4,(⟨z1,y6,[],a0.AG⟩:AJ),false⟩:Ag).f).AG),fEq v1,fEq v2,fEq v4,fEq v3,fSl aD (((⟨a0,y2,y3,y5,y4,(⟨z1,y6,[],a0.AG⟩:AJ),false⟩:Ag).p).AF),fEq v5,fSl aB (((⟨a0,y2,y3,y5,y4,(⟨z1,y6,[],a0.AG⟩:AJ),false⟩:Ag).p).AD),fI (((⟨a0,y2,y3,y5,y4,(⟨z1,y6,[],a0.AG⟩:AJ),false⟩:Ag).p).AG),aH ((⟨a0,y2,y3,y5,y4,(⟨z1,y6,[],a0.AG⟩:AJ),false⟩:Ag).bad)]) (aK.cons Ent.rfl (aK.cons Ent.rfl (aK.cons Ent.rfl (aK.cons Ent.rfl (aK.cons Ent.rfl (aK.cons Ent.rfl (aK.cons Ent.rfl (aK.cons Ent.rfl (aK.cons Ent.rfl (aK.cons Ent.rfl (aK.cons Ent.rfl (aK.cons cC (aK.cons Ent.rfl (aK.cons Ent.rfl aK.nil)))))))))))))) ?_
 refine aV ?_
 refine cZ ?_
 refine cZ ?_
 refine bG ?_
 refine cP ?_
 refine cP ?_
 refine fC ?_
 refine bz H fun y7 h9 H=>?_
 refine Tc (aJw _ _ _ _ _ _ _ h9) ?_
 refine rX (fun v6 v7 v8 v9 v10=>?_)
 refine rc 1 fun _=>?_
 refine rc 2 fun _=>?_
 refine rc 3 fun _=>?_
 refine rc 4 fun _=>?_
 refine rc 5 fun _=>?_
 refine Z1 ?_
 refine aG ?_
 refine Z6 ?_
 refine cz H (fun c5 H=>?_) fun c5 H=>?_
 refine Z7 ?_
 refine bH ?_
 refine bT (φ:=fSl aR y7.AP) (v:=v6) [] cM (fun _ h=>nomatch h) ?_
 refine dO (φs':=[fSl aD y7.f.AF,fSl tI y7.f.AI,fSl aW y7.f.AB,fSl aB y7.f.AD,fI y7.f.AG,fSl aR y7.AP,fEq v7,fEq v8,fEq v9,fSl aD y7.p.AF,fEq v10,fSl aB y7.p.AD,fI y7.p.AG,aH y7.bad]) (i:=5) rfl rfl ?_
 refine bQ ?_
 refine bH ?_
 refine bT (φ:=fSl (tSl tI) y7.AY) (v:=v7) [] cM (fun _ h=>nomatch h) ?_
 refine dO (φs':=[fSl aD y7.f.AF,fSl tI y7.f.AI,fSl aW y7.f.AB,fSl aB y7.f.AD,fI y7.f.AG,fSl aR y7.AP,fSl (tSl tI) y7.AY,fEq v8,fEq v9,fSl aD y7.p.AF,fEq v10,fSl aB y7.p.AD,fI y7.p.AG,aH y7.bad]) (i:=6) rfl rfl ?_
 refine bQ ?_
 refine bH ?_
 refine bT (φ:=fSl tI y7.Aa) (v:=v8) [] cM (fun _ h=>nomatch h) ?_
 refine dO (φs':=[fSl aD y7.f.AF,fSl tI y7.f.AI,fSl aW y7.f.AB,fSl aB y7.f.AD,fI y7.f.AG,fSl aR y7.AP,fSl (tSl tI) y7.AY,fSl tI y7.Aa,fEq v9,fSl aD y7.p.AF,fEq v10,fSl aB y7.p.AD,fI y7.p.AG,aH y7.bad]) (i:=7) rfl rfl ?_
 refine bQ ?_
 refine bH ?_
 refine bT (φ:=fSl (tSl tI) y7.AU) (v:=v9) [] cM (fun _ h=>nomatch h) ?_
 refine dO (φs':=[fSl aD y7.f.AF,fSl tI y7.f.AI,fSl aW y7.f.AB,fSl aB y7.f.AD,fI y7.f.AG,fSl aR y7.AP,fSl (tSl tI) y7.AY,fSl tI y7.Aa,fSl (tSl tI) y7.AU,fSl aD y7.p.AF,fEq v10,fSl aB y7.p.AD,fI y7.p.AG,aH y7.bad]) (i:=8) rfl rfl ?_
 refine bQ ?_
 refine bH ?_
 refine bT (φ:=fSl aJ y7.p.AB) (v:=v10) [] cM (fun _ h=>nomatch h) ?_
 refine dO (φs':=[fSl aD y7.f.AF,fSl tI y7.f.AI,fSl aW y7.f.AB,fSl aB y7.f.AD,fI y7.f.AG,fSl aR y7.AP,fSl (tSl tI) y7.AY,fSl tI y7.Aa,fSl (tSl tI) y7.AU,fSl aD y7.p.AF,fSl aJ y7.p.AB,fSl aB y7.p.AD,fI y7.p.AG,aH y7.bad]) (i:=10) rfl rfl ?_
 refine bQ ?_
 refine bT (φ:=aL nM y7) (v:=ptr b2) [2,7,4,34,39,41,46,48,53,55,60,62,73,75,85,86,89] (fA aK.rfl) fz ?_
 refine bQ ?_
 cases H
 refine aE [] (by decide) ?_
 exact gU rfl (bO rfl) (bO rfl) rfl
 refine B7 H fun y8 h10 H=>?_
 refine Tc (aKd _ _ _ h10) ?_
 refine Z3 ?_
 refine bK (φs':=[fSl aD y7.f.AF,fSl tI y7.f.AI,fSl aW y7.f.AB,fSl aB y7.f.AD,fI y7.f.AG,fEq v6,fEq v7,fEq v8,fEq v9,fSl aD y7.p.AF,fEq v10,fSl aB y8,fI y7.p.AG,aH y7.bad]) a1F rfl rfl (has rfl) (has rfl) (aS) (sz rfl) rfl rfl ?_
 refine Z7 ?_
 refine cP ?_
 refine bT (φ:=fSl aJ y7.p.AB) (v:=v10) [] cM (fun _ h=>nomatch h) ?_
 refine dO (φs':=[fSl aD y7.f.AF,fSl tI y7.f.AI,fSl aW y7.f.AB,fSl aB y7.f.AD,fI y7.f.AG,fEq v6,fEq v7,fEq v8,fEq v9,fSl aD y7.p.AF,fSl aJ y7.p.AB,fSl aB y8,fI y7.p.AG,aH y7.bad]) (i:=10) rfl rfl ?_
 refine lN 101 (ψ:=eC [fSl aD y7.p.AF,fEq v10,fSl aB y8,fI y7.p.AG]) rfl (lA (i:=1) (φs:=[fSl aD y7.p.AF,fEq v10,fSl aB y8,fI y7.p.AG]) (φs':=[fSl aD y7.p.AF,fSl aJ y7.p.AB,fSl aB y8,fI y7.p.AG]) rfl rfl) ?_
 refine bQ ?_
 refine bz H fun y9 h11 H=>?_
 refine Tc (aIh _ _ _ h11) ?_
 refine Z5 ?_
 refine bH ?_
 refine bT (φ:=fSl aR y7.AP) (v:=v6) [] cM (fun _ h=>nomatch h) ?_
 refine dO (φs':=[fSl aD y7.f.AF,fSl tI y7.f.AI,fSl aW y7.f.AB,fSl aB y7.f.AD,fI y7.f.AG,fSl aR y7.AP,fEq v7,fEq v8,fEq v9,fSl aD y7.p.AF,fSl aJ y7.p.AB,fSl aB y8,fI y7.p.AG,aH y7.bad]) (i:=5) rfl rfl ?_
 refine bQ ?_
 refine bH ?_
 refine bT (φ:=fSl (tSl tI) y7.AY) (v:=v7) [] cM (fun _ h=>nomatch h) ?_
 refine dO (φs':=[fSl aD y7.f.AF,fSl tI y7.f.AI,fSl aW y7.f.AB,fSl aB y7.f.AD,fI y7.f.AG,fSl aR y7.AP,fSl (tSl tI) y7.AY,fEq v8,fEq v9,fSl aD y7.p.AF,fSl aJ y7.p.AB,fSl aB y8,fI y7.p.AG,aH y7.bad]) (i:=6) rfl rfl ?_
 refine bQ ?_
 refine bH ?_
 refine bT (φ:=fSl tI y7.Aa) (v:=v8) [] cM (fun _ h=>nomatch h) ?_
 refine dO (φs':=[fSl aD y7.f.AF,fSl tI y7.f.AI,fSl aW y7.f.AB,fSl aB y7.f.AD,fI y7.f.AG,fSl aR y7.AP,fSl (tSl tI) y7.AY,fSl tI y7.Aa,fEq v9,fSl aD y7.p.AF,fSl aJ y7.p.AB,fSl aB y8,fI y7.p.AG,aH y7.bad]) (i:=7) rfl rfl ?_
 refine bQ ?_
 refine bH ?_
 refine bT (φ:=fSl (tSl tI) y7.AU) (v:=v9) [] cM (fun _ h=>nomatch h) ?_
 refine dO (φs':=[fSl aD y7.f.AF,fSl tI y7.f.AI,fSl aW y7.f.AB,fSl aB y7.f.AD,fI y7.f.AG,fSl aR y7.AP,fSl (tSl tI) y7.AY,fSl tI y7.Aa,fSl (tSl tI) y7.AU,fSl aD y7.p.AF,fSl aJ y7.p.AB,fSl aB y8,fI y7.p.AG,aH y7.bad]) (i:=8) rfl rfl ?_
 refine bQ ?_
 refine bT (φ:=aL nM (⟨y7.f,y7.AP,y7.AY,y7.Aa,y7.AU,(⟨y7.p.AF,y7.p.AB,y8,y7.p.AG⟩:AJ),y7.bad⟩:Ag)) (v:=ptr b2) [2,7,4,34,39,41,46,48,53,55,60,62,73,75,85,86,90,94,97,98,99] (fA aK.rfl) fz ?_
 refine bQ ?_
 cases H
 refine aE [] (by decide) ?_
 exact gU rfl (bO rfl) (bO rfl) rfl
 exact fk
 kernel_rfl
 exact fk
 kernel_rfl
 refine Z7 ?_
 refine bT (φ:=aL nM (⟨a0,[],[],[],[],(⟨[],[],[],0⟩:AJ),false⟩:Ag)) (v:=ptr b2) [2,7,4,33] (fA (aK.cons Ent.rfl (aK.cons Ent.rfl (aK.cons Ent.rfl (aK.cons Ent.rfl (aK.cons Ent.rfl (aK.cons cC (aK.cons cC (aK.cons cC (aK.cons cC (aK.cons cC (aK.cons cC (aK.cons cC (aK.cons Ent.rfl (aK.cons Ent.rfl aK.nil))))))))))))))) fz ?_
 refine bQ ?_
 cases H
 refine aE [] (by decide) ?_
 exact gU rfl (bO rfl) (bO rfl) rfl
def qU (AA:Nat) (a0:AH):Option (AJ × Int):=
 (uG AA (⟨a0.AF,a0.AI,a0.AB,a0.AD,a0.AG⟩:AH)).bind fun y1=>
 bif y1.2 then
  some ((⟨y1.1.p.AF,y1.1.p.AB,y1.1.p.AD,y1.1.p.AG⟩:AJ),0)
 else
  some ((⟨[],[],[],0⟩:AJ),2)
theorem aKH (AA:Nat)  (a0:AH) (r:AJ × Int) (H:qU AA a0=some r):FnS Tryz.prog 12 [fSt jB a0] [] (dB [fSt dQ r.1,fI r.2]) (fun _=>[]):=by
 unfold qU at H
 refine bB Tryz.func12 rfl Tryz.ntmps12 rfl (fun β=>?_)
 refine Z1 ?_
 refine Tn (bU rfl hh bM) fun b1=>?_
 refine Tn (cB rfl aB8 rfl) fun b2=>?_
 refine B4 H fun y1 h1 H=>?_
 refine Tc (aEC _ _ _ h1) ?_
 refine Z6 ?_
 refine aG ?_
 refine Z4 ?_
 refine cz H (fun c1 H=>?_) fun c1 H=>?_
 refine Z8 ?_
 refine cO (φs':=[fSl aD y1.1.p.AF,fSl aJ y1.1.p.AB,fSl aB y1.1.p.AD,fI y1.1.p.AG]) a1F rfl rfl (has rfl) (has rfl) (aI (aS) (aI (aS) (aI (aS) (aI (aF a1F) bN)))) (sz rfl) rfl rfl rfl ?_
 refine Z3 ?_
 cases H
 refine aE [0] (by decide) ?_
 exact nX rfl (ag rfl) rfl (bO rfl) (bO rfl) Ent.rfl rfl
 refine Z2 ?_
 refine Yy (gL (ψs:=[fEq (.slice none 0 0),fEq (.slice none 0 0),fEq (.slice none 0 0),fI 0]) rfl aBA rfl bW.nil rfl) ?_
 refine cO (φs':=[fEq (.slice none 0 0),fEq (.slice none 0 0),fEq (.slice none 0 0),fI 0]) a1F rfl rfl (has rfl) (has rfl) (aI (aF a1F) (aI (aF a1F) (aI (aF a1F) (aI (aF a1F) bN)))) (sz rfl) rfl rfl rfl ?_
 refine Z3 ?_
 cases H
 refine aE [0] (by decide) ?_
 exact nX rfl (ag rfl) rfl (bO rfl) (bO rfl) (tT (aK.cons cC (aK.cons cC (aK.cons cC (aK.cons Ent.rfl aK.nil))))) rfl
def aBj (AA:Nat) (a0:AJ) (a1:Af->Option (List Int)):Option ((List Int) × Int):=
 (tN AA (⟨a0.AF,a0.AB,a0.AD,a0.AG⟩:AJ)).bind fun y1=>
 match y1 with
 | Sum.inr pv1=>(unI 245 pv1).bind fun e1=>some ([],e1)
 | Sum.inl y1=>
 (a1 y1).bind fun y2=>
 some (y2,0)
theorem aLv (AA:Nat)  (a0:AJ) (a1:Af->Option (List Int)) (r:(List Int) × Int) (H:aBj AA a0 a1=some r):FnS Tryz.prog 90 [fSt dQ a0,fFn Tryz.prog (fun (x:Af)=>[aL cH x]) (fun (r:List Int)=>fSl tI r) a1] [] (dB [fSl tI r.1,fI r.2]) (fun _=>[]):=by
 unfold aBj at H
 refine aBP Tryz.func90 rfl Tryz.ntmps90 rfl (fun β=>?_)
 refine Z1 ?_
 refine Tn (bU rfl hh bM) fun b1=>?_
 refine Z1 ?_
 refine Tn (cB rfl aCk rfl) fun b2=>?_
 refine Z2 ?_
 refine aDn a1F rfl rfl (gS.cons (has rfl) gS.nil) ?_
 refine B4 H fun y1 h1 H=>?_
 rcases y1 with y1 | pv1 <;> dsimp only at H
 refine Tc (wN _ _ _ h1).s ?_
 refine bz H fun y2 h2 H=>?_
 refine yS y1 a1F rfl rfl rfl (has rfl) (aP.cons (has rfl) aP.nil) h2 ?_
 refine Z1 ?_
 refine bK (φs':=[fI 0]) a1F rfl rfl (has rfl) (has rfl) (aF a1F) (sz rfl) rfl rfl ?_
 refine Z2 ?_
 cases H
 refine aE [0] (by decide) ?_
 exact aCb (vV (u:= .returning) (by simp) rfl (bO rfl) rfl (sc rfl) (cb rfl) (aCt b2 0) rfl rfl)
 refine Tp (wN _ _ _ h1).pan ?_
 refine Z1 ?_
 have H0:=H;clear H;obtain⟨e1,h3,H⟩:=bind_some H0;clear H0;have hv_e1:=aC3 h3;subst hv_e1
 cases H
 refine aE [0] (by decide) ?_
 exact aDZ (vV (u:= .panicking [{ v:= .iface 245 (.agg #[.int .i64 e1]),recovered:=false }]) (by simp) rfl (fF rfl cC) rfl (sc rfl) (cb rfl) (aD0 b2 0 e1) rfl rfl)
def oK (a0:Af) (w0:AJ) (w1:Af × Int->Option Int):Nat->(List Int)->Int->Option (List Int)
| 0,_,_=>none
| k+1,x4,x5=>
 if x5<(w0.AB.length:Int)then
  (w1 (a0,x5)).bind fun y1=>
  (cQ (x4++[y1])).bind fun z1=>
  (chk (x5+1)).bind fun z2=>
  oK a0 w0 w1 k z1 z2
 else
  some x4
def zC (AA:Nat) (a0:Af) (w0:AJ) (w1:Af × Int->Option Int):Option (List Int):=
 (oK a0 w0 w1 AA [] 0).bind fun x1=>
 some x1
theorem aJT (AA:Nat)  (a0:Af) (w0:AJ) (w1:Af × Int->Option Int) (r:List Int) (H:zC AA a0 w0 w1=some r):FnS Tryz.prog 91 [aL cH a0,aL dQ w0,aL (tFn Tryz.prog (fun (x:Af × Int)=>[aL cH x.1,fI x.2]) (fun (r:Int)=>fI r)) w1] [] (fSl tI r) (fun _=>[]):=by
 unfold zC at H
 refine bB Tryz.func91 rfl Tryz.ntmps91 rfl (fun β=>?_)
 revert H;refine B6z fun o1 H Hr1=>?_
 refine aO (ι:=List Int × Value) (fun i=>o1=i.1) (fun i=>[(5,fEq i.2)]) (fun i=>[aC i.2 3 tI i.1]) ?_ ?_
 refine Z7 ?_
 refine fH tI 3 ?_
 refine Th (ι:=List Int × Int × Value) (fun i=>oK a0 w0 w1 i.1 i.2.1 i.2.2.1=_) (fun i=>[(0,aL cH a0),(2,aL (tFn Tryz.prog (fun (x:Af × Int)=>[aL cH x.1,fI x.2]) (fun (r:Int)=>fI r)) w1),(5,fEq i.2.2.2),(9,fI (w0.AB.length:Int)),(10,fI i.2.2.1)]) (fun i=>[aC i.2.2.2 3 tI i.2.1]) (AA,[],0,(.slice none 0 0)) H (fun _ h=>nomatch h) ?_
 clear H;rintro k1 ⟨x4,x5,v3⟩ H;dsimp only at H ⊢;rw [oK]at H
 refine rc 0 fun _=>?_
 refine Z3 ?_
 refine aG ?_
 revert H;refine is (fun c1 H=>?_) fun c1 H=>?_
 refine Z3 ?_
 refine aG ?_
 revert H;refine dS fun y1 h1 H=>?_
 refine yS (a0,x5) a1F rfl rfl rfl (has rfl) (aP.cons (has rfl) (aP.cons (has rfl) aP.nil)) h1 ?_
 refine Tn (eQ (t:=tI) (xs:=[y1]) rfl (et rfl) (bY.cons rfl (has rfl) (cL (aF a1F)) bY.nil) rfl rfl rfl) fun b1=>?_
 generalize (Value.slice (some ⟨b1,0,none⟩) _ _)=v4
 refine rc 0 fun _=>?_
 revert H;refine bs fun z1 h2 H=>?_
 refine gH a1F rfl rfl rfl (has rfl) (has rfl) (et rfl) rfl h2 (fun v5=>?_)
 refine rc 0 fun _=>?_
 revert H;refine B5z fun z2 h3 H=>?_
 refine Z3 ?_
 exact Tm ((k1,z1,z2,v5)) ⟨H,ls⟩
 refine Z6 ?_
 exact Tm ((x4,v3)) (ij H)
 rintro⟨x1,v1⟩ hi;subst o1;replace H:=Hr1;clear Hr1;try dsimp only at H ⊢
 refine rc 0 fun _=>?_
 refine Z5 ?_
 refine bT (φ:=fSl tI x1) (v:=v1) [5,21,4] cM fz ?_
 refine bQ ?_
 cases H
 exact To
def aBL (AA:Nat) (a0:AJ) (a1:Af × Int->Option Int):Option ((List Int) × Int):=
 (aBj AA (⟨a0.AF,a0.AB,a0.AD,a0.AG⟩:AJ) (fun x=>zC AA x (⟨a0.AF,a0.AB,a0.AD,a0.AG⟩:AJ) a1)).bind fun y1=>
 some (y1.1,y1.2)
theorem aIe (AA:Nat)  (a0:AJ) (a1:Af × Int->Option Int) (r:(List Int) × Int) (H:aBL AA a0 a1=some r):FnS Tryz.prog 56 [fSt dQ a0,fFn Tryz.prog (fun (x:Af × Int)=>[aL cH x.1,fI x.2]) (fun (r:Int)=>fI r) a1] [] (dB [fSl tI r.1,fI r.2]) (fun _=>[]):=by
 unfold aBL at H
 refine bB Tryz.func56 rfl Tryz.ntmps56 rfl (fun β=>?_)
 refine Z1 ?_
 refine Tn (bU rfl hh bM) fun b1=>?_
 refine Tn (bU rfl (has rfl) (cL (aDG))) fun b2=>?_
 refine Z5 ?_
 refine bH ?_
 refine bT (φ:=aL dQ a0) (v:=ptr b1) [2] (fA aK.rfl) fz ?_
 refine bQ ?_
 refine bT (φ:=aL (tFn Tryz.prog (fun (x:Af × Int)=>[aL cH x.1,fI x.2]) (fun (r:Int)=>fI r)) a1) (v:=ptr b2) [3] (fA aK.rfl) fz ?_
 refine bQ ?_
 refine Yy (oA rfl (aP.cons hh (aP.cons hh aP.nil))) ?_
 refine bz H fun y1 h1 H=>?_
 refine oX a1F rfl rfl rfl hh (aP.cons hh (aP.cons (fY rfl (ent_fn (cb rfl) (fun x r hx=>aJT AA x a0 a1 r hx))) aP.nil)) rfl (cb rfl) (aLv AA a0 (fun x=>zC AA x a0 a1) y1 h1) rfl ?_
 refine Z6 ?_
 cases H
 exact gU rfl (bO rfl) (bO rfl) rfl
def qO (a0:Af) (a1:Int):Option (Int):=
 (idx a0.Aa a1).bind fun y1=>
 some y1
theorem aKS  (a0:Af) (a1:Int) (r:Int) (H:qO a0 a1=some r):FnS Tryz.prog 57 [aL cH a0,fI a1] [] (fI r) (fun _=>[]):=by
 unfold qO at H
 refine bB Tryz.func57 rfl Tryz.ntmps57 rfl (fun β=>?_)
 refine B9 H fun y1 h1 H=>?_
 refine Z5 ?_
 cases H
 exact To
def aAg (AA:Nat) (a0:AJ):Option ((List Int) × Int):=
 (aBL AA (⟨a0.AF,a0.AB,a0.AD,a0.AG⟩:AJ) (fun x=>qO x.1 x.2)).bind fun y1=>
 some (y1.1,y1.2)
theorem aJK (AA:Nat)  (a0:AJ) (r:(List Int) × Int) (H:aAg AA a0=some r):FnS Tryz.prog 22 [fSt dQ a0] [] (dB [fSl tI r.1,fI r.2]) (fun _=>[]):=by
 unfold aAg at H
 refine bB Tryz.func22 rfl Tryz.ntmps22 rfl (fun β=>?_)
 refine Z1 ?_
 refine Tn (bU rfl hh bM) fun b1=>?_
 refine B5 H fun y1 h1 H=>?_
 refine oX a1F rfl rfl rfl hh (aP.cons hh (aP.cons (fY rfl (aCr (cb rfl) (fun (x:Af × Int) r hx=>aKS x.1 x.2 r hx))) aP.nil)) rfl (cb rfl) (aIe AA a0 (fun x=>qO x.1 x.2) y1 h1) rfl ?_
 refine Z6 ?_
 cases H
 refine aE [] (by decide) ?_
 exact gU rfl (bO rfl) (bO rfl) rfl
def aBN (AA:Nat) (a0:AJ) (a1:Af->Option (List (List Int))):Option ((List (List Int)) × Int):=
 (tN AA (⟨a0.AF,a0.AB,a0.AD,a0.AG⟩:AJ)).bind fun y1=>
 match y1 with
 | Sum.inr pv1=>(unI 245 pv1).bind fun e1=>some ([],e1)
 | Sum.inl y1=>
 (a1 y1).bind fun y2=>
 some (y2,0)
theorem aIP (AA:Nat)  (a0:AJ) (a1:Af->Option (List (List Int))) (r:(List (List Int)) × Int) (H:aBN AA a0 a1=some r):FnS Tryz.prog 120 [fSt dQ a0,fFn Tryz.prog (fun (x:Af)=>[aL cH x]) (fun (r:List (List Int))=>fSl (tSl tI) r) a1] [] (dB [fSl (tSl tI) r.1,fI r.2]) (fun _=>[]):=by
 unfold aBN at H
 refine aBP Tryz.func120 rfl Tryz.ntmps120 rfl (fun β=>?_)
 refine Z1 ?_
 refine Tn (bU rfl hh bM) fun b1=>?_
 refine Z1 ?_
 refine Tn (cB rfl aCk rfl) fun b2=>?_
 refine Z2 ?_
 refine aDn a1F rfl rfl (gS.cons (has rfl) gS.nil) ?_
 refine B4 H fun y1 h1 H=>?_
 rcases y1 with y1 | pv1 <;> dsimp only at H
 refine Tc (wN _ _ _ h1).s ?_
 refine bz H fun y2 h2 H=>?_
 refine yS y1 a1F rfl rfl rfl (has rfl) (aP.cons (has rfl) aP.nil) h2 ?_
 refine Z1 ?_
 refine bK (φs':=[fI 0]) a1F rfl rfl (has rfl) (has rfl) (aF a1F) (sz rfl) rfl rfl ?_
 refine Z2 ?_
 cases H
 refine aE [0] (by decide) ?_
 exact aCb (vV (u:= .returning) (by simp) rfl (bO rfl) rfl (sc rfl) (cb rfl) (aCt b2 0) rfl rfl)
 refine Tp (wN _ _ _ h1).pan ?_
 refine Z1 ?_
 have H0:=H;clear H;obtain⟨e1,h3,H⟩:=bind_some H0;clear H0;have hv_e1:=aC3 h3;subst hv_e1
 cases H
 refine aE [0] (by decide) ?_
 exact aDZ (vV (u:= .panicking [{ v:= .iface 245 (.agg #[.int .i64 e1]),recovered:=false }]) (by simp) rfl (fF rfl cC) rfl (sc rfl) (cb rfl) (aD0 b2 0 e1) rfl rfl)
def qV (a0:Af) (w0:AJ) (w1:Af × Int->Option (List Int)):Nat->(List (List Int))->Int->Option (List (List Int))
| 0,_,_=>none
| k+1,x4,x5=>
 if x5<(w0.AB.length:Int)then
  (w1 (a0,x5)).bind fun y1=>
  (cQ (x4++[y1])).bind fun z1=>
  (chk (x5+1)).bind fun z2=>
  qV a0 w0 w1 k z1 z2
 else
  some x4
def zZ (AA:Nat) (a0:Af) (w0:AJ) (w1:Af × Int->Option (List Int)):Option (List (List Int)):=
 (qV a0 w0 w1 AA [] 0).bind fun x1=>
 some x1
theorem aJC (AA:Nat)  (a0:Af) (w0:AJ) (w1:Af × Int->Option (List Int)) (r:List (List Int)) (H:zZ AA a0 w0 w1=some r):FnS Tryz.prog 121 [aL cH a0,aL dQ w0,aL (tFn Tryz.prog (fun (x:Af × Int)=>[aL cH x.1,fI x.2]) (fun (r:List Int)=>fSl tI r)) w1] [] (fSl (tSl tI) r) (fun _=>[]):=by
 unfold zZ at H
 refine bB Tryz.func121 rfl Tryz.ntmps121 rfl (fun β=>?_)
 revert H;refine B6z fun o1 H Hr1=>?_
 refine aO (ι:=List (List Int) × Value) (fun i=>o1=i.1) (fun i=>[(5,fEq i.2)]) (fun i=>[aC i.2 27 (tSl tI) i.1]) ?_ ?_
 refine Z7 ?_
 refine fH (tSl tI) 27 ?_
 refine Th (ι:=List (List Int) × Int × Value) (fun i=>qV a0 w0 w1 i.1 i.2.1 i.2.2.1=_) (fun i=>[(0,aL cH a0),(2,aL (tFn Tryz.prog (fun (x:Af × Int)=>[aL cH x.1,fI x.2]) (fun (r:List Int)=>fSl tI r)) w1),(5,fEq i.2.2.2),(9,fI (w0.AB.length:Int)),(10,fI i.2.2.1)]) (fun i=>[aC i.2.2.2 27 (tSl tI) i.2.1]) (AA,[],0,(.slice none 0 0)) H (fun _ h=>nomatch h) ?_
 clear H;rintro k1 ⟨x4,x5,v3⟩ H;dsimp only at H ⊢;rw [qV]at H
 refine rc 0 fun _=>?_
 refine Z3 ?_
 refine aG ?_
 revert H;refine is (fun c1 H=>?_) fun c1 H=>?_
 refine Z3 ?_
 refine aG ?_
 revert H;refine dS fun y1 h1 H=>?_
 refine yS (a0,x5) a1F rfl rfl rfl (has rfl) (aP.cons (has rfl) (aP.cons (has rfl) aP.nil)) h1 ?_
 refine Tn (eQ (t:=(tSl tI)) (xs:=[y1]) rfl (et rfl) (bY.cons rfl (has rfl) (cL (aS)) bY.nil) rfl rfl rfl) fun b1=>?_
 generalize (Value.slice (some ⟨b1,0,none⟩) _ _)=v4
 refine rc 0 fun _=>?_
 revert H;refine bs fun z1 h2 H=>?_
 refine gH a1F rfl rfl rfl (has rfl) (has rfl) (et rfl) rfl h2 (fun v5=>?_)
 refine rc 0 fun _=>?_
 revert H;refine B5z fun z2 h3 H=>?_
 refine Z3 ?_
 exact Tm ((k1,z1,z2,v5)) ⟨H,ls⟩
 refine Z6 ?_
 exact Tm ((x4,v3)) (ij H)
 rintro⟨x1,v1⟩ hi;subst o1;replace H:=Hr1;clear Hr1;try dsimp only at H ⊢
 refine rc 0 fun _=>?_
 refine Z5 ?_
 refine bT (φ:=fSl (tSl tI) x1) (v:=v1) [5,21,4] cM fz ?_
 refine bQ ?_
 cases H
 exact To
def aBz (AA:Nat) (a0:AJ) (a1:Af × Int->Option (List Int)):Option ((List (List Int)) × Int):=
 (aBN AA (⟨a0.AF,a0.AB,a0.AD,a0.AG⟩:AJ) (fun x=>zZ AA x (⟨a0.AF,a0.AB,a0.AD,a0.AG⟩:AJ) a1)).bind fun y1=>
 some (y1.1,y1.2)
theorem aLH (AA:Nat)  (a0:AJ) (a1:Af × Int->Option (List Int)) (r:(List (List Int)) × Int) (H:aBz AA a0 a1=some r):FnS Tryz.prog 85 [fSt dQ a0,fFn Tryz.prog (fun (x:Af × Int)=>[aL cH x.1,fI x.2]) (fun (r:List Int)=>fSl tI r) a1] [] (dB [fSl (tSl tI) r.1,fI r.2]) (fun _=>[]):=by
 unfold aBz at H
 refine bB Tryz.func85 rfl Tryz.ntmps85 rfl (fun β=>?_)
 refine Z1 ?_
 refine Tn (bU rfl hh bM) fun b1=>?_
 refine Tn (bU rfl (has rfl) (cL (aDG))) fun b2=>?_
 refine Z5 ?_
 refine bH ?_
 refine bT (φ:=aL dQ a0) (v:=ptr b1) [2] (fA aK.rfl) fz ?_
 refine bQ ?_
 refine bT (φ:=aL (tFn Tryz.prog (fun (x:Af × Int)=>[aL cH x.1,fI x.2]) (fun (r:List Int)=>fSl tI r)) a1) (v:=ptr b2) [3] (fA aK.rfl) fz ?_
 refine bQ ?_
 refine Yy (oA rfl (aP.cons hh (aP.cons hh aP.nil))) ?_
 refine bz H fun y1 h1 H=>?_
 refine oX a1F rfl rfl rfl hh (aP.cons hh (aP.cons (fY rfl (ent_fn (cb rfl) (fun x r hx=>aJC AA x a0 a1 r hx))) aP.nil)) rfl (cb rfl) (aIP AA a0 (fun x=>zZ AA x a0 a1) y1 h1) rfl ?_
 refine Z6 ?_
 cases H
 exact gU rfl (bO rfl) (bO rfl) rfl
def tP {σ:Type} (rec_scope_looker_below_1_1:Int->(Int->σ->Option σ)->σ->Af->Option (σ × Bool)) (Y:Int->σ->Option σ) (w1:Af) (y3:AN):Nat->Int->σ->Option ((σ) ⊕ ((σ) ⊕ (σ × Bool)))
| 0,_,_=>none
| k+1,x5,x6=>
 if x5<(y3.AQ.length:Int)then
  (idx y3.AQ x5).bind fun y4=>
  (rec_scope_looker_below_1_1 y4.AW Y x6 w1).bind fun y5=>
  bif y5.2 then
   (chk (x5+1)).bind fun z1=>
   tP rec_scope_looker_below_1_1 Y w1 y3 k z1 y5.1
  else
   ((some (y5.1,false)).bind fun r=>some (Sum.inr r)).bind fun r=>some (Sum.inr r)
 else
  some (Sum.inl x6)
def sR {σ:Type} (rec_scope_looker_below_1_1:Int->(Int->σ->Option σ)->σ->Af->Option (σ × Bool)) (Y:Int->σ->Option σ) (w1:Af) (y6:AN):Nat->Int->σ->Option ((σ) ⊕ (σ × Bool))
| 0,_,_=>none
| k+1,x9,x10=>
 if x9<(y6.AS.length:Int)then
  (idx y6.AS x9).bind fun y7=>
  (rec_scope_looker_below_1_1 y7.AW Y x10 w1).bind fun y8=>
  bif y8.2 then
   (chk (x9+1)).bind fun z2=>
   sR rec_scope_looker_below_1_1 Y w1 y6 k z2 y8.1
  else
   (some (y8.1,false)).bind fun r=>some (Sum.inr r)
 else
  some (Sum.inl x10)
def tE {σ:Type} (rec_scope_looker_below_1_1:Int->(Int->σ->Option σ)->σ->Af->Option (σ × Bool)) (Y:Int->σ->Option σ) (w1:Af) (y2:AZ):Nat->Int->σ->Option ((σ) ⊕ (σ × Bool))
| 0,_,_=>none
| k+1,x14,x15=>
 if x14<(y2.AM.length:Int)then
  (idx y2.AM x14).bind fun y9=>
  (rec_scope_looker_below_1_1 y9 Y x15 w1).bind fun y10=>
  bif y10.2 then
   (chk (x14+1)).bind fun z3=>
   tE rec_scope_looker_below_1_1 Y w1 y2 k z3 y10.1
  else
   (some (y10.1,false)).bind fun r=>some (Sum.inr r)
 else
  some (Sum.inl x15)
def jH {σ:Type}:Nat->Int->(Int->σ->Option σ)->σ->Af->Option (σ × Bool)
| 0,_,_,_,_=>none
| AA+1,a0,Y,s0,w1=>
 (Y a0 s0).bind fun y1=>
 (idx w1.p.AB a0).bind fun y2=>
 (if y2.Op=4 then
  ((idx w1.p.AD y2.N).bind fun y3=>
  tP (jH AA) Y w1 y3 AA 0 y1).bind fun o=>match o with
  | Sum.inr r=>some r
  | Sum.inl x2=>
  (idx w1.p.AD y2.N).bind fun y6=>
  sR (jH AA) Y w1 y6 AA 0 x2
 else
  some (Sum.inl y1)).bind fun o=>match o with
 | Sum.inr r=>some r
 | Sum.inl x1=>
 (tE (jH AA) Y w1 y2 AA 0 x1).bind fun o=>match o with
 | Sum.inr r=>some r
 | Sum.inl x11=>
 some (x11,true)
theorem aLf:∀ (AA:Nat),(∀ {σ:Type} (q0:Nat) (J:σ->Tk) (q2:Nat) (a0:Int) (Y:Int->σ->Option σ) (s0:σ) (w1:Af) (r:σ × Bool) (H:jH AA a0 Y s0 w1=some r),FnS Tryz.prog 155 [fI a0,fEq (.pointer (some ⟨q0,0,none⟩)),aL (fW cH) w1,fEq (.pointer (some ⟨q2,0,none⟩))] [aA q0 234 [jJ Tryz.prog (fun (x:Int)=>[fI x]) Y J],J s0,aA q2 234 [cY 155 [fEq (.pointer (some ⟨q0,0,none⟩)),aL (fW cH) w1,fEq (.pointer (some ⟨q2,0,none⟩))]]] (aH r.2) (fun _=>[aA q0 234 [jJ Tryz.prog (fun (x:Int)=>[fI x]) Y J],J r.1,aA q2 234 [cY 155 [fEq (.pointer (some ⟨q0,0,none⟩)),aL (fW cH) w1,fEq (.pointer (some ⟨q2,0,none⟩))]]])):=by
 intro AA
 induction AA with
 | zero=>exact fun q0 J q2 a0 Y s0 w1 r H=>(by rw [jH]at H;cases H)
 | succ AA ih=>
 have ih_scope_looker_below_1_1:=@ih
 refine ?_
 intro σ q0 J q2 a0 Y s0 w1 r H
 rw [jH]at H
 refine bB Tryz.func155 rfl Tryz.ntmps155 rfl (fun β=>?_)
 refine Z3 ?_
 refine aG ?_
 refine Z3 ?_
 refine bH ?_
 refine bz H fun y1 h1 H=>?_
 refine T_callY a0 a1F rfl rfl rfl (has rfl) (aP.cons (has rfl) aP.nil) h1 ?_
 refine B12 H fun y2 h2 H=>?_
 refine Z2 ?_
 refine Tn (cB rfl jV rfl) fun b1=>?_
 refine cO (φs':=[fI y2.Op,fI y2.N,fSl aN y2.AX,fSl tI y2.AM]) a1F rfl rfl (has rfl) (has rfl) (aI (aF a1F) (aI (aF a1F) (aI (aS) (aI (aS) bN)))) (sz rfl) rfl rfl rfl ?_
 revert H;refine B1z fun o1 H Hr1=>?_
 refine aO (fun i=>o1=Sum.inl i) (fun i=>[(1,fEq (ptr q0)),(3,fEq (ptr q2)),(6,fEq (ptr b1))]) (fun i=>[aA b1 65 [fI y2.Op,fI y2.N,fSl aN y2.AX,fSl tI y2.AM],aA q0 234 [jJ Tryz.prog (fun (x:Int)=>[fI x]) Y J],aA q2 234 [cY 155 [fEq (ptr q0),aL (fW cH) w1,fEq (ptr q2)]],J i]) ?_ ?_
 revert H;refine I5z (fun c1 H=>?_) fun c1 H=>?_
 revert H;refine B1z fun o2 H Hr2=>?_
 refine aO (fun i=>o2=Sum.inl i) (fun i=>[(1,fEq (ptr q0)),(2,aL (fW cH) w1),(3,fEq (ptr q2)),(6,fEq (ptr b1))]) (fun i=>[aA b1 65 [fI y2.Op,fI y2.N,fSl aN y2.AX,fSl tI y2.AM],aA q0 234 [jJ Tryz.prog (fun (x:Int)=>[fI x]) Y J],aA q2 234 [cY 155 [fEq (ptr q0),aL (fW cH) w1,fEq (ptr q2)]],J i]) ?_ ?_
 refine aG ?_
 revert H;refine bs fun y3 h3 H=>?_
 apply bD (ods:=[_,_,_,_,_,_,_,_,_,_,_,_]) 12 0 4 bC rfl rfl rfl
 refine ND ?_
 refine M7 ?_
 intros
 refine My (cT rfl hh hh (el rfl) h3) fun _=>?_
 refine M4 ?_
 intros
 refine Z3 ?_
 refine aE [0,2,3,1] (by decide) ?_
 refine Th (ι:=Int × σ) (fun i=>tP (jH AA) Y w1 y3 i.1 i.2.1 i.2.2=_) (fun i=>[(1,fEq (ptr q0)),(2,aL (fW cH) w1),(3,fEq (ptr q2)),(6,fEq (ptr b1)),(37,fSl aY y3.AQ),(38,fI (y3.AQ.length:Int)),(39,fI i.2.1)]) (fun i=>[aA b1 65 [fI y2.Op,fI y2.N,fSl aN y2.AX,fSl tI y2.AM],aA q0 234 [jJ Tryz.prog (fun (x:Int)=>[fI x]) Y J],aA q2 234 [cY 155 [fEq (ptr q0),aL (fW cH) w1,fEq (ptr q2)]],J i.2.2]) (AA,0,y1) H (fun _ h=>nomatch h) ?_
 clear H;rintro k1 ⟨x5,x6⟩ H;dsimp only at H ⊢;rw [tP]at H
 refine Z3 ?_
 refine aG ?_
 revert H;refine is (fun c2 H=>?_) fun c2 H=>?_
 refine Z3 ?_
 refine aG ?_
 revert H;refine B2z fun y4 h4 H=>?_
 refine Z2 ?_
 refine Tn (cB rfl pM rfl) fun b2=>?_
 refine cO (φs':=[fI y4.At,fSl tI y4.Ad,fI y4.AW]) a1F rfl rfl (has rfl) (has rfl) (aI (aF a1F) (aI (aS) (aI (aF a1F) bN))) (sz rfl) rfl rfl rfl ?_
 refine Z5 ?_
 refine cZ ?_
 refine bG ?_
 refine bG ?_
 revert H;refine bs fun y5 h5 H=>?_
 refine jP a1F rfl rfl rfl (has rfl) (aP.cons (has rfl) aP.nil) rfl (cb rfl) (ih_scope_looker_below_1_1 q0 J q2 y4.AW Y x6 w1 y5 h5) rfl ?_
 refine Z2 ?_
 revert H;refine cs (fun c3 H=>?_) fun c3 H=>?_
 revert H;refine B5z fun z1 h6 H=>?_
 refine Z3 ?_
 refine aE [4,0,2,1] (by decide) ?_
 exact Tm ((k1,z1,y5.1)) ⟨H,ls⟩
 revert H;refine dS fun r1 H e1=>?_
 cases e1;cases Hr2
 revert H;refine B1z fun r2 H e2=>?_
 cases e2;cases Hr1
 cases H
 refine aE [0,1,2] (by decide) ?_
 exact To
 refine Z6 ?_
 exact Tm (x6) (ij H)
 exact fk
 kernel_rfl
 rintro x2 hi;subst o2;replace H:=Hr2;clear Hr2;try dsimp only at H ⊢
 refine aG ?_
 revert H;refine bs fun y6 h7 H=>?_
 apply bD (ods:=[_,_,_,_,_,_,_,_,_,_,_,_]) 12 0 4 bC rfl rfl rfl
 refine ND ?_
 refine M8 ?_
 intros
 refine M4 ?_
 intros
 refine Z3 ?_
 refine Th (ι:=Int × σ) (fun i=>sR (jH AA) Y w1 y6 i.1 i.2.1 i.2.2=_) (fun i=>[(1,fEq (ptr q0)),(3,fEq (ptr q2)),(6,fEq (ptr b1)),(58,fSl aU y6.AS),(59,fI (y6.AS.length:Int)),(60,fI i.2.1)]) (fun i=>[aA b1 65 [fI y2.Op,fI y2.N,fSl aN y2.AX,fSl tI y2.AM],aA q0 234 [jJ Tryz.prog (fun (x:Int)=>[fI x]) Y J],aA q2 234 [cY 155 [fEq (ptr q0),aL (fW cH) w1,fEq (ptr q2)]],J i.2.2]) (AA,0,x2) H (fun _ h=>nomatch h) ?_
 clear H;rintro k2 ⟨x9,x10⟩ H;dsimp only at H ⊢;rw [sR]at H
 refine Z3 ?_
 refine aG ?_
 revert H;refine is (fun c4 H=>?_) fun c4 H=>?_
 refine Z3 ?_
 refine aG ?_
 revert H;refine B2z fun y7 h8 H=>?_
 refine Z2 ?_
 refine Tn (cB rfl aAA rfl) fun b3=>?_
 refine cO (φs':=[fI y7.In,fI y7.AW]) a1F rfl rfl (has rfl) (has rfl) (aI (aF a1F) (aI (aF a1F) bN)) (sz rfl) rfl rfl rfl ?_
 refine Z5 ?_
 refine cZ ?_
 refine bG ?_
 refine bG ?_
 revert H;refine bs fun y8 h9 H=>?_
 refine jP a1F rfl rfl rfl (has rfl) (aP.cons (has rfl) aP.nil) rfl (cb rfl) (ih_scope_looker_below_1_1 q0 J q2 y7.AW Y x10 w1 y8 h9) rfl ?_
 refine Z2 ?_
 revert H;refine cs (fun c5 H=>?_) fun c5 H=>?_
 revert H;refine B5z fun z2 h10 H=>?_
 refine Z3 ?_
 refine aE [4,0,2,1] (by decide) ?_
 exact Tm ((k2,z2,y8.1)) ⟨H,ls⟩
 revert H;refine dS fun r3 H e3=>?_
 cases e3;cases Hr1
 cases H
 refine aE [0,1,2] (by decide) ?_
 exact To
 refine Z6 ?_
 exact Tm (x10) (ij H)
 exact fk
 kernel_rfl
 refine Z3 ?_
 refine aE [0,2,3,1] (by decide) ?_
 exact Tm (y1) (ij H)
 rintro x1 hi;subst o1;replace H:=Hr1;clear Hr1;try dsimp only at H ⊢
 revert H;refine bs fun o3 H Hr3=>?_
 refine aO (fun i=>o3=Sum.inl i) (fun i=>[(1,fEq (ptr q0)),(3,fEq (ptr q2))]) (fun i=>[aA b1 65 [fI y2.Op,fI y2.N,fSl aN y2.AX,fSl tI y2.AM],aA q0 234 [jJ Tryz.prog (fun (x:Int)=>[fI x]) Y J],aA q2 234 [cY 155 [fEq (ptr q0),aL (fW cH) w1,fEq (ptr q2)]],J i]) ?_ ?_
 refine Z7 ?_
 refine Th (ι:=Int × σ) (fun i=>tE (jH AA) Y w1 y2 i.1 i.2.1 i.2.2=_) (fun i=>[(1,fEq (ptr q0)),(3,fEq (ptr q2)),(71,fSl tI y2.AM),(72,fI (y2.AM.length:Int)),(73,fI i.2.1)]) (fun i=>[aA b1 65 [fI y2.Op,fI y2.N,fSl aN y2.AX,fSl tI y2.AM],aA q0 234 [jJ Tryz.prog (fun (x:Int)=>[fI x]) Y J],aA q2 234 [cY 155 [fEq (ptr q0),aL (fW cH) w1,fEq (ptr q2)]],J i.2.2]) (AA,0,x1) H (fun _ h=>nomatch h) ?_
 clear H;rintro k3 ⟨x14,x15⟩ H;dsimp only at H ⊢;rw [tE]at H
 refine Z3 ?_
 refine aG ?_
 revert H;refine is (fun c6 H=>?_) fun c6 H=>?_
 refine Z3 ?_
 refine aG ?_
 revert H;refine B2z fun y9 h11 H=>?_
 refine Z7 ?_
 refine dK ?_
 refine cZ ?_
 refine cZ ?_
 revert H;refine bs fun y10 h12 H=>?_
 refine jP a1F rfl rfl rfl (has rfl) (aP.cons (has rfl) aP.nil) rfl (cb rfl) (ih_scope_looker_below_1_1 q0 J q2 y9 Y x15 w1 y10 h12) rfl ?_
 refine Z2 ?_
 revert H;refine cs (fun c7 H=>?_) fun c7 H=>?_
 revert H;refine B5z fun z3 h13 H=>?_
 refine Z3 ?_
 refine aE [3,0,2,1] (by decide) ?_
 exact Tm ((k3,z3,y10.1)) ⟨H,ls⟩
 revert H;refine dS fun r4 H e4=>?_
 cases e4;cases Hr3
 cases H
 refine aE [0,1,2] (by decide) ?_
 exact To
 refine Z6 ?_
 exact Tm (x15) (ij H)
 rintro x11 hi;subst o3;replace H:=Hr3;clear Hr3;try dsimp only at H ⊢
 refine Z4 ?_
 cases H
 refine aE [1,3,2] (by decide) ?_
 exact To
def aBm {σ:Type} (AA:Nat) (Y:Int->σ->Option σ) (s0:σ) (w0:Af) (w1:Int):Option (σ):=
 (jH AA w1 Y s0 w0).bind fun y1=>
 some y1.1
theorem aI1 (AA:Nat) {σ:Type} (J:σ->Tk) (Y:Int->σ->Option σ) (s0:σ) (w0:Af) (w1:Int) (r:σ) (H:aBm AA Y s0 w0 w1=some r):FnS Tryz.prog 154 [jJ Tryz.prog (fun (x:Int)=>[fI x]) Y J,aL (fW cH) w0,aL tI w1] [J s0] (dB []) (fun _=>[J r]):=by
 unfold aBm at H
 refine bB Tryz.func154 rfl Tryz.ntmps154 rfl (fun β=>?_)
 refine Z1 ?_
 refine Tn (bU rfl (has rfl) (cL (aIH))) fun b1=>?_
 refine Z2 ?_
 refine Tn (cB rfl aKK rfl) fun b2=>?_
 refine Z2 ?_
 refine Yy (oA rfl (aP.cons hh (aP.cons hh (aP.cons hh aP.nil)))) ?_
 refine bK (φs':=[cY 155 [fEq (ptr b1),aL (fW cH) w0,fEq (ptr b2)]]) a1F rfl rfl (has rfl) (has rfl) (aGQ) (sz rfl) rfl rfl ?_
 refine Z4 ?_
 refine dK ?_
 refine dK ?_
 refine bz H fun y1 h1 H=>?_
 refine jP a1F rfl rfl rfl (has rfl) (aP.cons (has rfl) aP.nil) rfl (cb rfl) (aLf AA b1 J b2 w1 Y s0 w0 y1 h1) rfl ?_
 refine Z1 ?_
 cases H
 refine aE [1] (by decide) ?_
 exact dH (.inr rfl) rfl rfl
def aBv (a0:Af) (a1:Int):Option (Af × Int):=
 some (a0,a1)
theorem aII  (a0:Af) (a1:Int) (r:Af × Int) (H:aBv a0 a1=some r):FnS Tryz.prog 122 [aL cH a0,fI a1] [] (cY 154 [aL (fW cH) r.1,aL tI r.2]) (fun _=>[]):=by
 unfold aBv at H
 refine bB Tryz.func122 rfl Tryz.ntmps122 rfl (fun β=>?_)
 refine Z1 ?_
 refine Tn (bU rfl (has rfl) (cL (aCT))) fun b1=>?_
 refine Tn (bU rfl (has rfl) (cL (aF a1F))) fun b2=>?_
 refine Z3 ?_
 refine bH ?_
 refine bT (φ:=aL (fW cH) a0) (v:=ptr b1) [2] (fA aK.rfl) fz ?_
 refine bQ ?_
 refine bT (φ:=aL tI a1) (v:=ptr b2) [3] (fA aK.rfl) fz ?_
 refine bQ ?_
 refine Yy (oA rfl (aP.cons hh (aP.cons hh aP.nil))) ?_
 refine Z3 ?_
 cases H
 exact To
open Go.SX Go.SW
def sortRen:Go.Shelf.Ren:=⟨fun x=>match x with
 | 189=>54 | 125=>89 | 257=>88 | 128=>134 | 129=>135
 | 294=>125 | 295=>126 | 296=>127 | 297=>128 | 298=>129
 | 299=>130 | 216=>131 | 300=>132 | 301=>133 | 328=>156
 | 329=>157 | 330=>158 | 331=>159 | 332=>160 | 215=>161 | 343=>173
 | n=>n,fun x=>match x with
 | 28=>27 | 3=>3 | 46=>166 | 0=>0 | 51=>220 | 53=>222 | 4=>4 | 183=>212 | 182=>211 | 131=>217 | 5=>5 | 9=>9
 | 218=>238 | 222=>242 | 228=>270 | 229=>271
 | n=>n,fun x=>x⟩
theorem aGp:Go.Proofs.Lays.n189 Tryz.prog sortRen:=by constructor <;> first | kernel_rfl | (intro w;kernel_rfl)
def compRen:Go.Shelf.Ren:=⟨fun x=>match x with | 20=>55 | n=>n,fun x=>match x with | 0=>0 | 3=>3 | 4=>4 | 22=>27 | n=>n,fun x=>x⟩
theorem aGE:Go.Proofs.Lays2.n20 Tryz.prog compRen:=by constructor <;> first | kernel_rfl | (intro w;kernel_rfl)
theorem heap_row {w:World} {b n:Nat} {c:Array Value} {e:TypeId} {f:Array Value->Array Value} {os:Array Obj} (h:w.heap[b]? =some (.cells c e (0,0))):
 (Go.Sort.grow (Go.Sort.mapBlock (Go.Sort.ahead w n) b f) os).heap[b]? =some (.cells (f c) e (0,0))/\∀ k,k≠b->k<w.heap.size->(Go.Sort.grow (Go.Sort.mapBlock (Go.Sort.ahead w n) b f) os).heap[k]? =w.heap[k]?:=by
 have hb:b<w.heap.size:=(a0c.1 h).1
 constructor
 ·simp only [Go.Sort.grow,Go.Sort.mapBlock,Go.Sort.ahead];rw [a0b (by simpa using hb),Array.getElem?_modify,a1E rfl,h];rfl
 ·intro k hk hk2;simp only [Go.Sort.grow,Go.Sort.mapBlock,Go.Sort.ahead];rw [a0b (by simpa using hk2),Array.getElem?_modify,a1D (fun e=>hk e.symm)]
theorem st_row {w:World} {m:Mem} {b n:Nat} {c:Array Value} {e:TypeId} {f:Array Value->Array Value} {os:Array Obj} (hS:St ⟨w,m,[b]⟩ m [(b, .cells c e (0,0))] w):
 St ⟨w,m,[b]⟩ m [(b, .cells (f c) e (0,0))] (Go.Sort.grow (Go.Sort.mapBlock (Go.Sort.ahead w n) b f) os):=by
 obtain⟨h1,h2⟩:=heap_row (n:=n) (f:=f) (os:=os) (hS.own _ (.head _))
 have hm:m b=none:=hS.apart _ (.head _)
 refine⟨fun k o hk=>?_,fun x hx=>?_,fun x hx=>?_,by simp,hS.mle,fun k hk=>absurd rfl hk,fun x hx _=>?_,?_,fun k hk hf=>h2 k (fun e=>hf (by simp [e])) hk,rfl,rfl,rfl⟩
 ·have h3:=hS.mem k o hk;rw [h2 k (fun e=>by subst e;rw [hm]at hk;cases hk) (a0c.1 h3).1];exact h3
 ·cases hx with
  | head=>exact h1
  | tail _ h=>cases h
 ·cases hx with
  | head=>exact hm
  | tail _ h=>cases h
 ·cases hx with
  | head=>exact .head _
  | tail _ h=>cases h
 ·simp [Go.Sort.grow,Go.Sort.mapBlock,Go.Sort.ahead]
theorem aGj {m:Mem}:∀ {xs:List Int} {cs:List Value},aX (xs.flatMap (bS .i64).An) m cs->cs=xs.map (.int .i64)
 | [],_,h=>by
  have h:_=[]:=h;rw [h];rfl
 | x :: xs,_,h=>by
  obtain⟨v,r,rfl,h1,h2⟩:=h;have h1:v= .int .i64 x:=h1;rw [h1,aGj h2];rfl
theorem aGy {m:Mem}:∀ {xs:List Int},aX (xs.flatMap (bS .i64).An) m (xs.map (.int .i64))
 | []=>rfl
 | x :: xs=>⟨_,_,rfl,rfl,aGy⟩
theorem aFm {m:Mem} {L:Ak} {v:Value} {xs:List Int} (h:cD [aC v 3 (bS .i64) xs] m L):xs.length<=1000000000/\((v= .slice none 0 0/\xs=[]/\L=[]) \/
 ∃ b c cap,v= .slice (some ⟨b,0,none⟩) xs.length cap/\L=[(b, .cells c 3 (0,0))]/\c.size=cap/\xs.length<=cap/\c.toList.take xs.length=xs.map (.int .i64)):=by
 obtain⟨H,R,rfl,⟨cs,h1,h2,h3⟩,hR⟩:=h
 have hR:R=[]:=hR
 subst hR
 have e:=aGj h3
 subst e
 refine⟨h2,?_⟩
 rcases h1.2 with⟨rfl,h4,rfl⟩ | ⟨b,c,cap,rfl,rfl,h4,h5,h6⟩
 ·exact .inl ⟨rfl,a0s h4,rfl⟩
 ·exact .inr ⟨b,c,cap,rfl,rfl,by rw [h4];exact Nat.mul_one _,h5,by simpa using h6⟩
theorem row_of {m:Mem} {b cap:Nat} {c:Array Value} {xs:List Int} (h1:c.size=cap) (h2:xs.length<=cap) (h3:c.toList.take xs.length=xs.map (.int .i64)) (h4:xs.length<=1000000000):
 (aC (.slice (some ⟨b,0,none⟩) xs.length cap) 3 (bS .i64) xs).p m [(b, .cells c 3 (0,0))]:=
 ⟨xs.map (.int .i64),⟨by simp [show(bS .i64).sz=1 from rfl], .inr ⟨b,c,cap,rfl,rfl,by rw [h1];exact(Nat.mul_one _).symm,h2,by simpa using h3⟩⟩,h4,aGy⟩
theorem aEf {w:World} {b:Nat} {c:Array Value} {e:TypeId} {xs:List Int} (h:w.heap[b]? =some (.cells c e (0,0))) (hx:c.toList.take xs.length=xs.map (.int .i64)):Go.Sort.Holds (Value.int .i64) w b 0 xs.toArray:=by
 intro j hj
 have hj:j<xs.length:=by simpa using hj
 refine⟨?_,by simp [World.frozen?,h]⟩
 have h1:c.toList[j]? =some (.int .i64 xs[j]):=by
  have h2:(c.toList.take xs.length)[j]? =some (.int .i64 xs[j]):=by rw [hx];simp [hj]
  rwa [a0D,a1E hj]at h2
 simp only [World.cell?,h,a1n,Option.isSome_none,Bool.false_eq_true,if_false]
 rw [<- a0d,h1]
 congr 2
 simp [hj]
theorem aGk {c:Array Value} {ys:List Int} {k:Nat} (hk:k<=ys.length) (hc:ys.length<=c.size):(Go.Sort.putCells (Value.int .i64) 0 ys.toArray c).toList.take k=(ys.take k).map (.int .i64):=by
 apply a0t
 intro j
 rw [a0D]
 split
 ·rename_i hj;simp only [Go.Sort.putCells,a0d,Array.getElem?_mapIdx];have h1:j<c.size:=by omega
  have h2:j<ys.length:=by omega
  simp [h1,h2,hj]
 ·rename_i hj;rw [List.getElem?_eq_none];simp;omega
theorem aE7 {c:Array Value} {ys:Array Int}:(Go.Sort.putCells (Value.int .i64) 0 ys c).size=c.size:=by simp [Go.Sort.putCells]
def gE (xs:List Int):List Int:=xs.mergeSort fun x y=>decide (x<=y)
def aCO (a0:List Int):Option (List Int):=some (gE a0)
theorem aJy (p0:Value) (a0 r:List Int) (H:aCO a0=some r):FnS Tryz.prog 54 [fEq p0] [aC p0 3 (bS .i64) a0] (dB []) (fun _=>[aC p0 3 (bS .i64) r]):=by
 have H:gE a0=r:=a1u H
 subst H
 intro m L vs hv hL w hS
 obtain⟨v,_,rfl,hv1,hv2⟩:=hv
 have hv1:v=p0:=hv1
 have hv2:_=[]:=hv2
 subst hv1;subst hv2
 obtain⟨hB,⟨rfl,rfl,rfl⟩ | ⟨b,c,cap,rfl,rfl,h1,h2,h3⟩⟩:=aFm hL
 ·refine(Any.slices_Sort_int_none aGp none 0 w).mono ?_;rintro e w' ⟨rfl,rfl⟩
  have e0:gE []=[]:=by simp [gE]
  exact⟨m,[],hS,_,rfl,⟨[],rfl,rfl⟩,by rw [e0];exact hL⟩
 ·have hw:=hS.own _ (.head _);have hl:(gE a0).length=a0.length:=by simp [gE]
  refine(Any.slices_Sort_int aGp b 0 cap a0 w (aEf hw h3) (a0c.1 hw).1 (by omega)).mono ?_
  rintro e w' ⟨rfl,n,os,rfl⟩
  refine⟨m,_,st_row hS,_,rfl,⟨[],rfl,rfl⟩,_,[],(a0p _).symm,?_,rfl⟩;rw [<- hl];exact row_of (by rw [aE7,h1]) (by omega) (by
   have:=aGk (c:=c) (ys:=gE a0) (k:=(gE a0).length) (a1k _) (by omega)
   rw [List.take_length]at this;exact this) (by omega)
def aDu (a0:List Int):Option (List Int):=some (Go.Lib.compact a0)
theorem aKZ (xs:List Int):(Go.Lib.compact xs).length<=xs.length:=by
 unfold Go.Lib.compact Go.Lib.compactUpTo
 rw [a0I]
 exact a1l (a0H _ _) (by simp)
theorem aIy (p0:Value) (a0 r:List Int) (H:aDu a0=some r):FnS Tryz.prog 55 [fEq p0] [aC p0 3 (bS .i64) a0] (fSl (bS .i64) r) (fun _=>[]):=by
 have H:Go.Lib.compact a0=r:=a1u H
 subst H
 intro m L vs hv hL w hS
 obtain⟨v,_,rfl,hv1,hv2⟩:=hv
 have hv1:v=p0:=hv1
 have hv2:_=[]:=hv2
 subst hv1;subst hv2
 obtain⟨hB,⟨rfl,rfl,rfl⟩ | ⟨b,c,cap,rfl,rfl,h1,h2,h3⟩⟩:=aFm hL
 ·refine(Any.slices_Compact_int_empty aGE none 0 w).mono ?_;rintro e w' ⟨rfl,rfl⟩
  exact⟨m,[],hS,_,rfl,cC m _ rfl,rfl⟩
 ·have hw:=hS.own _ (.head _);have hl:=aKZ a0;refine(Any.slices_Compact_int aGE b 0 cap a0 w (aEf hw h3) (by omega) h2).mono ?_
  rintro e w' ⟨rfl,n,rfl⟩
  rw [<- Go.Sort.grow_empty (Go.Sort.putRow _ _ _ _ _)];have hS':=st_row (n:=n) (f:=Go.Sort.putCells (Value.int .i64) 0 (Go.Lib.compact a0++List.replicate (a0.length - (Go.Lib.compact a0).length) 0).toArray) (os:=#[]) hS;have hr:(aC (.slice (some ⟨b,0,none⟩) (Go.Lib.compact a0).length cap) 3 (bS .i64) (Go.Lib.compact a0)).p m [(b, .cells (Go.Sort.putCells (Value.int .i64) 0 (Go.Lib.compact a0++List.replicate (a0.length - (Go.Lib.compact a0).length) 0).toArray c) 3 (0,0))]:=
   row_of (by rw [aE7,h1]) (by omega) (by
    rw [aGk (by simp) (by simp;omega)];simp) (by omega)
  obtain⟨m',h4,h5,h6⟩:=uO (H:=[_]) (R:=[]) hS';exact⟨m',[],h5,_,rfl,cM m _ hr m' h4 h6,rfl⟩
open Go.SX Go.SW Go.Dt
def oB (rec_scope_asks:(aM Int Bool)->AV->Option (aM Int Bool)) (a1:AV):Nat->Int->(aM Int Bool)->Option (aM Int Bool)
| 0,_,_=>none
| k+1,x4,x5=>
 if x4<(a1.AM.length:Int)then
  (idx a1.AM x4).bind fun y1=>
  (rec_scope_asks x5 (⟨y1.Op,y1.N,y1.AM⟩:AV)).bind fun y2=>
  (chk (x4+1)).bind fun z1=>
  oB rec_scope_asks a1 k z1 y2
 else
  some x5
def lF:Nat->(aM Int Bool)->AV->Option (aM Int Bool)
| 0,_,_=>none
| AA+1,a0,a1=>
 (if a1.Op=2 then
  some (aM.upd a0 a1.N true)
 else
  some a0).bind fun x1=>
 oB (lF AA) a1 AA 0 x1
theorem aLF:∀ (AA:Nat),(∀ (p0:Nat) (a0:aM Int Bool) (a1:AV) (r:aM Int Bool) (H:lF AA a0 a1=some r),FnS Tryz.prog 124 [fEq (.map (some p0)),fSt aN a1] [dY dG (fun y=>aH y) p0 a0] (dB []) (fun _=>[dY dG (fun y=>aH y) p0 r])):=by
 intro AA
 induction AA with
 | zero=>exact fun p0 a0 a1 r H=>(by rw [lF]at H;cases H)
 | succ AA ih=>
 have ih_scope_asks:=@ih
 refine ?_
 intro p0 a0 a1 r H
 rw [lF]at H
 refine bB Tryz.func124 rfl Tryz.ntmps124 rfl (fun β=>?_)
 refine Z1 ?_
 refine Tn (bU rfl hh bM) fun b1=>?_
 revert H;refine B1z fun o1 H Hr1=>?_
 refine aO (fun i=>o1=i) (fun i=>[(0,fEq (.map (some p0))),(3,fEq (ptr b1))]) (fun i=>[aA b1 71 [fI a1.Op,fI a1.N,dD a1.AM],dY dG (fun y=>aH y) p0 i]) ?_ ?_
 revert H;refine I5z (fun c1 H=>?_) fun c1 H=>?_
 refine Z5 ?_
 refine bH ?_
 refine gR (k:=a1.N) (y:=true) a1F (.inl rfl) rfl (has rfl) (has rfl) rfl (has rfl) rfl wQ ?_
 refine Z1 ?_
 refine aE [1,0] (by decide) ?_
 exact Tm (aM.upd a0 a1.N true) (ij H)
 refine Z3 ?_
 exact Tm (a0) (ij H)
 rintro x1 hi;subst o1;replace H:=Hr1;clear Hr1;try dsimp only at H ⊢
 refine Z2 ?_
 refine Yo 0 rfl (eU rfl hh (sc rfl) rfl (fB eO)) ?_
 refine Z4 ?_
 refine Th (ι:=Int × aM Int Bool) (fun i=>oB (lF AA) a1 i.1 i.2.1 i.2.2=_) (fun i=>[(0,fEq (.map (some p0))),(13,fSl aN a1.AM),(14,fI (a1.AM.length:Int)),(15,fI i.2.1)]) (fun i=>[aA b1 71 [fI a1.Op,fI a1.N,dD a1.AM],dY dG (fun y=>aH y) p0 i.2.2]) (AA,0,x1) H (fun _ h=>nomatch h) ?_
 clear H;rintro k1 ⟨x4,x5⟩ H;dsimp only at H ⊢;rw [oB]at H
 refine Z3 ?_
 refine aG ?_
 refine iz H (fun c2 H=>?_) fun c2 H=>?_
 refine Z3 ?_
 refine aG ?_
 refine B2 H fun y1 h1 H=>?_
 refine Z2 ?_
 refine Tn (cB rfl jX rfl) fun b2=>?_
 refine cO (φs':=[fI y1.Op,fI y1.N,dD y1.AM]) a1F rfl rfl (has rfl) (has rfl) (aI (aF a1F) (aI (aF a1F) (aI (nH) bN))) (sz rfl) rfl rfl rfl ?_
 refine Z4 ?_
 refine dK ?_
 refine bz H fun y2 h2 H=>?_
 refine Tc (ih_scope_asks _ _ _ _ h2) ?_
 refine B4 H fun z1 h3 H=>?_
 refine Z3 ?_
 refine aE [2,0] (by decide) ?_
 exact Tm ((k1,z1,y2)) ⟨H,ls⟩
 refine Z5 ?_
 cases H
 refine aE [1] (by decide) ?_
 exact dH (.inr rfl) rfl rfl
def oY (AA:Nat) (y3:AZ):Nat->Int->(aM Int Bool)->Option (aM Int Bool)
| 0,_,_=>none
| k+1,x10,x11=>
 if x10<(y3.AX.length:Int)then
  (idx y3.AX x10).bind fun y7=>
  (lF AA x11 (⟨y7.Op,y7.N,y7.AM⟩:AV)).bind fun y8=>
  (chk (x10+1)).bind fun z1=>
  oY AA y3 k z1 y8
 else
  some x11
def pQ (AA:Nat) (a0:Af) (x1:Int) (x3:aM Int Bool):Option (aM Int Bool):=
 (idx a0.p.AB x1).bind fun y3=>
 ((iJ y3.Op).bind fun y4=>
 (eA 207 (.agg #[]) y4).bind fun y5=>
 match y5 with
 | (u1,x6)=>
 (eA 208 (.agg #[]) y4).bind fun y6=>
 match y6 with
 | (u2,x7)=>
 bif x6 then
  some (aM.upd x3 y3.N true)
 else
  bif x7 then
   some (aM.upd x3 y3.N true)
  else
   some x3).bind fun x5=>
 oY AA y3 AA 0 x5
def rM (y2:aM Int Bool) (y9:Int):Nat->(List Int)->Int->Option (List Int)
| 0,_,_=>none
| k+1,x15,x16=>
 if x16<y9 then
  (bif ((y2.get x16).getD false)then
   (cQ (x15++[x16])).bind fun z2=>
   some z2
  else
   some x15).bind fun x17=>
  (chk (x16+1)).bind fun z3=>
  rM y2 y9 k x17 z3
 else
  some x15
def uU (AA:Nat) (a0:Af) (a1:Int):Option (List Int):=
 (aBv a0 a1).bind fun y1=>
 (aBm AA (fun (x:Int) (t:aM Int Bool)=>pQ AA a0 x t) (aM.none:aM Int Bool) y1.1 y1.2).bind fun y2=>
 ((idx a0.Aa a1).bind fun y9=>
 rM y2 y9 AA [] 0).bind fun x12=>
 some x12
theorem aJX (AA:Nat)  (a0:Af) (a1:Int) (r:List Int) (H:uU AA a0 a1=some r):FnS Tryz.prog 87 [aL cH a0,fI a1] [] (fSl tI r) (fun _=>[]):=by
 unfold uU at H
 refine aBP Tryz.func87 rfl Tryz.ntmps87 rfl (fun β=>?_)
 refine Z1 ?_
 refine Tn (bU rfl (has rfl) (cL (aCT))) fun b1=>?_
 refine Z3 ?_
 refine Tn (aBp (fun y=>aH y) dG rfl) fun b2=>?_
 refine Tn (cB rfl aJo rfl) fun b3=>?_
 refine bK (φs':=[fEq (.map (some b2))]) a1F rfl rfl (has rfl) (has rfl) (aF a1F) (sz rfl) rfl rfl ?_
 refine Z1 ?_
 refine aG ?_
 refine B3 H fun y1 h1 H=>?_
 refine Tc (aII _ _ _ h1) ?_
 refine Z2 ?_
 refine aE [0,2,1] (by decide) ?_
 refine T_sub [(0,aL cH a0),(1,fI a1),(2,fEq (ptr b1)),(4,fEq (.slice none 0 0)),(12,fEq (.map (some b2))),(5,fEq (ptr b3)),(13,aL cH a0),(14,fI a1),(15,cY 154 [aL (fW cH) y1.1,aL tI y1.2])] (Sc (Sc (Sc (Sc (Sc (Sc (Sc (Sc (Sc fM.nil))))))))) ?_
 refine bz H fun y2 h2 H=>?_
 refine aIl (s:=(aM.none:aM Int Bool)) (s':=y2) (fun (x:Int)=>[fI x]) (fun (x:Int) (t:aM Int Bool)=>pQ AA a0 x t) (fun (t:aM Int Bool)=>[aA b3 201 [fEq (.map (some b2))],aA b1 129 [aL cH a0],dY dG (fun y=>aH y) b2 t]) (has rfl) (cb rfl) rfl (fun _=>rfl) rfl (fun J=>aI1 AA J (fun (x:Int) (t:aM Int Bool)=>pQ AA a0 x t) (aM.none:aM Int Bool) y1.1 y1.2 y2 h2) (fun β l rec x1 t t' hs hp hY=>?_) (fun rb=>?_)
 generalize t=x3 at *
 have H:pQ AA a0 x1 x3=some t':=hY;clear hY;unfold pQ at H;try dsimp only at H
 show T β _ _ (aBB [16] ((fun (x:Int)=>[fI x]) x1) [(0,aL cH a0),(1,fI a1),(2,fEq (ptr b1)),(4,fEq (.slice none 0 0)),(12,fEq (.map (some b2))),(5,fEq (ptr b3)),(13,aL cH a0),(14,fI a1),(15,cY 154 [aL (fW cH) y1.1,aL tI y1.2])]) (tObj l (.loop rec) :: [aA b3 201 [fEq (.map (some b2))],aA b1 129 [aL cH a0],dY dG (fun y=>aH y) b2 x3]) _
 refine Z3 ?_
 refine T_begin hs ?_
 refine B8 H fun y3 h3 H=>?_
 refine Z2 ?_
 refine Tn (cB rfl jV rfl) fun b4=>?_
 refine cO (φs':=[fI y3.Op,fI y3.N,fSl aN y3.AX,fSl tI y3.AM]) a1F rfl rfl (has rfl) (has rfl) (aI (aF a1F) (aI (aF a1F) (aI (aS) (aI (aS) bN)))) (sz rfl) rfl rfl rfl ?_
 revert H;refine B1z fun o1 H Hr1=>?_
 refine aO (fun i=>o1=i) (fun i=>[(0,aL cH a0),(1,fI a1),(2,fEq (ptr b1)),(4,fEq (.slice none 0 0)),(12,fEq (.map (some b2))),(5,fEq (ptr b3)),(13,aL cH a0),(14,fI a1),(15,cY 154 [aL (fW cH) y1.1,aL tI y1.2]),(7,fEq (ptr b4))]) (fun i=>[aA b4 65 [fI y3.Op,fI y3.N,fSl aN y3.AX,fSl tI y3.AM],aA b3 201 [fEq (.map (some b2))],aA b1 129 [aL cH a0],dY dG (fun y=>aH y) b2 i,tObj l (busy rec)]) ?_ ?_
 revert H;refine B3z fun y4 h4 H=>?_
 refine Tc (aG0 _ _ h4) ?_
 revert H;refine B3z fun y5 h5 H=>?_
 obtain⟨u1,x6⟩:=y5;dsimp only at H
 refine Yy (sW rfl (fY rfl mB) aCq aEN h5) ?_
 revert H;refine B2z fun y6 h6 H=>?_
 obtain⟨u2,x7⟩:=y6;dsimp only at H
 refine Yy (sW rfl (fY rfl mB) aDm aFd h6) ?_
 refine Z2 ?_
 revert H;refine cs (fun c1 H=>?_) fun c1 H=>?_
 refine Z7 ?_
 refine bG ?_
 refine gR (k:=y3.N) (y:=true) a1F (.inl rfl) rfl (has rfl) (has rfl) rfl (has rfl) rfl wQ ?_
 refine Z3 ?_
 refine aE [1,3,4,0,2] (by decide) ?_
 exact Tm (aM.upd x3 y3.N true) (ij H)
 refine Z2 ?_
 revert H;refine cs (fun c2 H=>?_) fun c2 H=>?_
 refine Z5 ?_
 refine bG ?_
 refine gR (k:=y3.N) (y:=true) a1F (.inl rfl) rfl (has rfl) (has rfl) rfl (has rfl) rfl wQ ?_
 refine Z3 ?_
 refine aE [1,3,4,0,2] (by decide) ?_
 exact Tm (aM.upd x3 y3.N true) (ij H)
 refine Z4 ?_
 refine aE [0,2,3,4,1] (by decide) ?_
 exact Tm (x3) (ij H)
 rintro x5 hi;subst o1;replace H:=Hr1;clear Hr1;try dsimp only at H ⊢
 refine Z7 ?_
 refine Th (ι:=Int × aM Int Bool) (fun i=>oY AA y3 i.1 i.2.1 i.2.2=_) (fun i=>[(0,aL cH a0),(1,fI a1),(2,fEq (ptr b1)),(4,fEq (.slice none 0 0)),(12,fEq (.map (some b2))),(5,fEq (ptr b3)),(13,aL cH a0),(14,fI a1),(15,cY 154 [aL (fW cH) y1.1,aL tI y1.2]),(39,fSl aN y3.AX),(40,fI (y3.AX.length:Int)),(41,fI i.2.1)]) (fun i=>[aA b4 65 [fI y3.Op,fI y3.N,fSl aN y3.AX,fSl tI y3.AM],aA b3 201 [fEq (.map (some b2))],aA b1 129 [aL cH a0],dY dG (fun y=>aH y) b2 i.2.2,tObj l (busy rec)]) (AA,0,x5) H (fun _ h=>nomatch h) ?_
 clear H;rintro k1 ⟨x10,x11⟩ H;dsimp only at H ⊢;rw [oY]at H
 refine Z3 ?_
 refine aG ?_
 refine iz H (fun c3 H=>?_) fun c3 H=>?_
 refine Z3 ?_
 refine aG ?_
 refine B2 H fun y7 h7 H=>?_
 refine Z2 ?_
 refine Tn (cB rfl jX rfl) fun b5=>?_
 refine cO (φs':=[fI y7.Op,fI y7.N,dD y7.AM]) a1F rfl rfl (has rfl) (has rfl) (aI (aF a1F) (aI (aF a1F) (aI (nH) bN))) (sz rfl) rfl rfl rfl ?_
 refine Z4 ?_
 refine bG ?_
 refine bz H fun y8 h8 H=>?_
 refine Tc (aLF _ _ _ _ _ h8) ?_
 refine B4 H fun z1 h9 H=>?_
 refine Z3 ?_
 refine aE [2,3,4,0,5] (by decide) ?_
 exact Tm ((k1,z1,y8)) ⟨H,ls⟩
 refine Z6 ?_
 refine aE [1,2,3,4] (by decide) ?_
 cases H
 refine aE [3,0,1,2] (by decide) ?_
 exact aKV hs hp rfl
 generalize rb=rb1
 show T β _ _ [(0,aL cH a0),(1,fI a1),(2,fEq (ptr b1)),(4,fEq (.slice none 0 0)),(12,fEq (.map (some b2))),(5,fEq (ptr b3)),(13,aL cH a0),(14,fI a1),(15,cY 154 [aL (fW cH) y1.1,aL tI y1.2])] ([oV rb1]++[aA b3 201 [fEq (.map (some b2))],aA b1 129 [aL cH a0],dY dG (fun y=>aH y) b2 y2]) _
 dsimp only [List.append,_root_.List.cons_append,_root_.List.nil_append]
 revert H;refine B5z fun o2 H Hr2=>?_
 refine aO (ι:=List Int × Value) (fun i=>o2=i.1) (fun i=>[(10,fEq i.2)]) (fun i=>[aA b3 201 [fEq (.map (some b2))],aA b1 129 [aL cH a0],dY dG (fun y=>aH y) b2 y2,aC i.2 3 tI i.1,oV rb1]) ?_ ?_
 revert H;refine B6z fun y9 h10 H=>?_
 refine Z5 ?_
 refine fH tI 3 ?_
 refine aE [2,3,4,0,1] (by decide) ?_
 refine Th (ι:=List Int × Int × Value) (fun i=>rM y2 y9 i.1 i.2.1 i.2.2.1=_) (fun i=>[(5,fEq (ptr b3)),(10,fEq i.2.2.2),(55,fI y9),(56,fI i.2.2.1)]) (fun i=>[aA b3 201 [fEq (.map (some b2))],aA b1 129 [aL cH a0],dY dG (fun y=>aH y) b2 y2,aC i.2.2.2 3 tI i.2.1,oV rb1]) (AA,[],0,(.slice none 0 0)) H (fun _ h=>nomatch h) ?_
 clear H;rintro k2 ⟨x15,x16,v3⟩ H;dsimp only at H ⊢;rw [rM]at H
 refine rc 3 fun _=>?_
 refine Z3 ?_
 refine aG ?_
 revert H;refine is (fun c4 H=>?_) fun c4 H=>?_
 revert H;refine B3z fun o3 H Hr3=>?_
 refine aO (ι:=List Int × Value) (fun i=>o3=i.1) (fun i=>[(5,fEq (ptr b3)),(55,fI y9),(56,fI x16),(10,fEq i.2)]) (fun i=>[aA b3 201 [fEq (.map (some b2))],aA b1 129 [aL cH a0],dY dG (fun y=>aH y) b2 y2,aC i.2 3 tI i.1,oV rb1]) ?_ ?_
 refine Z8 ?_
 refine Yo 2 rfl (aJp (zα:=false) (k:=x16) rfl hh hh rfl wQ Ent.rfl) ?_
 refine Z1 ?_
 revert H;refine cs (fun c5 H=>?_) fun c5 H=>?_
 refine Z4 ?_
 refine Tn (eQ (t:=tI) (xs:=[x16]) rfl (et rfl) (bY.cons rfl (has rfl) (cL (aF a1F)) bY.nil) rfl rfl rfl) fun b6=>?_
 generalize (Value.slice (some ⟨b6,0,none⟩) _ _)=v5
 refine rc 0 fun _=>?_
 revert H;refine bs fun z2 h11 H=>?_
 refine bG ?_
 refine bH ?_
 refine gH a1F rfl rfl rfl (has rfl) (has rfl) (et rfl) rfl h11 (fun v6=>?_)
 refine rc 0 fun _=>?_
 refine Z4 ?_
 refine aE [1,2,3,0,4] (by decide) ?_
 exact Tm ((z2,v6)) (ij H)
 refine Z4 ?_
 exact Tm ((x15,v3)) (ij H)
 rintro⟨x17,v4⟩ hi;subst o3;replace H:=Hr3;clear Hr3;try dsimp only at H ⊢
 refine rc 3 fun _=>?_
 revert H;refine B1z fun z3 h12 H=>?_
 refine Z3 ?_
 exact Tm ((k2,x17,z3,v4)) ⟨H,ls⟩
 refine Z6 ?_
 exact Tm ((x15,v3)) (ij H)
 rintro⟨x12,v1⟩ hi;subst o2;replace H:=Hr2;clear Hr2;try dsimp only at H ⊢
 refine rc 3 fun _=>?_
 refine Z5 ?_
 refine cZ ?_
 refine bT (φ:=fSl tI x12) (v:=v1) [10,67,4] cM fz ?_
 refine bQ ?_
 cases H
 refine aE [3] (by decide) ?_
 exact T_outM1 [rb1] rfl (bO rfl) rfl rfl
def uE (AA:Nat) (a0:Af) (a1:Int):Option (List Int):=
 (uU AA a0 a1).bind fun y1=>
 some y1
theorem aLK (AA:Nat)  (a0:Af) (a1:Int) (r:List Int) (H:uE AA a0 a1=some r):FnS Tryz.prog 86 [aL cH a0,fI a1] [] (fSl tI r) (fun _=>[]):=by
 unfold uE at H
 refine bB Tryz.func86 rfl Tryz.ntmps86 rfl (fun β=>?_)
 refine B6 H fun y1 h1 H=>?_
 refine Tc (aJX _ _ _ _ h1) ?_
 refine Z3 ?_
 cases H
 exact To
def aAs (AA:Nat) (a0:AJ):Option ((List (List Int)) × Int):=
 (aBz AA (⟨a0.AF,a0.AB,a0.AD,a0.AG⟩:AJ) (fun x=>uE AA x.1 x.2)).bind fun y1=>
 some (y1.1,y1.2)
theorem aLh (AA:Nat)  (a0:AJ) (r:(List (List Int)) × Int) (H:aAs AA a0=some r):FnS Tryz.prog 52 [fSt dQ a0] [] (dB [fSl (tSl tI) r.1,fI r.2]) (fun _=>[]):=by
 unfold aAs at H
 refine bB Tryz.func52 rfl Tryz.ntmps52 rfl (fun β=>?_)
 refine Z1 ?_
 refine Tn (bU rfl hh bM) fun b1=>?_
 refine B5 H fun y1 h1 H=>?_
 refine oX a1F rfl rfl rfl hh (aP.cons hh (aP.cons (fY rfl (aCr (cb rfl) (fun (x:Af × Int) r hx=>aLK AA x.1 x.2 r hx))) aP.nil)) rfl (cb rfl) (aLH AA a0 (fun x=>uE AA x.1 x.2) y1 h1) rfl ?_
 refine Z6 ?_
 cases H
 refine aE [] (by decide) ?_
 exact gU rfl (bO rfl) (bO rfl) rfl
def sJ (w1:List Int) (w2:Int) (y1:List Int):Nat->Int->(List Int)->Option (List Int)
| 0,_,_=>none
| k+1,x3,x4=>
 if x3<(y1.length:Int)then
  ((idx y1 x3).bind fun y2=>
  (idx w1 w2).bind fun y3=>
  if y2<y3 then
   (cQ (x4++[y2])).bind fun z1=>
   some z1
  else
   some x4).bind fun x5=>
  (chk (x3+1)).bind fun z2=>
  sJ w1 w2 y1 k z2 x5
 else
  some x4
def wE (AA:Nat) (a0:Int) (w0:List (List Int)) (w1:List Int) (w2:Int) (w3:List Int):Option (List Int):=
 (idx w0 a0).bind fun y1=>
 sJ w1 w2 y1 AA 0 w3
theorem aED (AA:Nat) (q3:Nat) (a0:Int) (w0:List (List Int)) (w1:List Int) (w2:Int) (w3:List Int) (r:List Int) (H:wE AA a0 w0 w1 w2 w3=some r):FnS Tryz.prog 53 [fI a0,aL (tSl (tSl tI)) w0,aL (tSl tI) w1,aL tI w2,fEq (.pointer (some ⟨q3,0,none⟩))] [aBd q3 w3] (dB []) (fun _=>[aBd q3 r]):=by
 unfold wE at H
 refine bB Tryz.func53 rfl Tryz.ntmps53 rfl (fun β=>?_)
 refine aDQ (fun v1=>?_)
 refine rc 1 fun _=>?_
 refine B3 H fun y1 h1 H=>?_
 refine Z6 ?_
 refine Th (ι:=Int × List Int × Value) (fun i=>sJ w1 w2 y1 i.1 i.2.1 i.2.2.1=_) (fun i=>[(2,aL (tSl tI) w1),(3,aL tI w2),(4,fEq (ptr q3)),(11,fSl tI y1),(12,fI (y1.length:Int)),(13,fI i.2.1)]) (fun i=>[aA q3 27 [fEq i.2.2.2],aC i.2.2.2 3 tI i.2.2.1]) (AA,0,w3,v1) H (fun _ h=>nomatch h) ?_
 clear H;rintro k1 ⟨x3,x4,v3⟩ H;dsimp only at H ⊢;rw [sJ]at H
 refine rc 1 fun _=>?_
 refine Z3 ?_
 refine aG ?_
 refine iz H (fun c1 H=>?_) fun c1 H=>?_
 revert H;refine B3z fun o1 H Hr1=>?_
 refine aO (ι:=List Int × Value) (fun i=>o1=i.1) (fun i=>[(2,aL (tSl tI) w1),(3,aL tI w2),(4,fEq (ptr q3)),(11,fSl tI y1),(12,fI (y1.length:Int)),(13,fI x3)]) (fun i=>[aA q3 27 [fEq i.2],aC i.2 3 tI i.1]) ?_ ?_
 revert H;refine B2z fun y2 h2 H=>?_
 revert H;refine B8z fun y3 h3 H=>?_
 revert H;refine I4z (fun c2 H=>?_) fun c2 H=>?_
 refine Z4 ?_
 refine Tn (eQ (t:=tI) (xs:=[y2]) rfl (et rfl) (bY.cons rfl (has rfl) (cL (aF a1F)) bY.nil) rfl rfl rfl) fun b1=>?_
 generalize (Value.slice (some ⟨b1,0,none⟩) _ _)=v5
 refine rc 0 fun _=>?_
 revert H;refine bs fun z1 h4 H=>?_
 refine dK ?_
 refine bH ?_
 refine gH a1F rfl rfl rfl (has rfl) (has rfl) (et rfl) rfl h4 (fun v6=>?_)
 refine rc 0 fun hc_v6=>?_
 refine bH ?_
 refine bK (φs':=[fEq v6]) a1F rfl rfl (has rfl) (has rfl) (aF hc_v6) (sz rfl) rfl rfl ?_
 refine Z3 ?_
 exact Tm ((z1,v6)) (ij H)
 refine Z4 ?_
 exact Tm ((x4,v3)) (ij H)
 rintro⟨x5,v4⟩ hi;subst o1;replace H:=Hr1;clear Hr1;try dsimp only at H ⊢
 refine rc 1 fun _=>?_
 refine B1 H fun z2 h5 H=>?_
 refine Z3 ?_
 exact Tm ((k1,z2,x5,v4)) ⟨H,ls⟩
 refine Z5 ?_
 refine aDw (x:=x4) ?_
 cases H
 exact dH (.inr rfl) rfl rfl
def tC (AA:Nat) (y1:(List (List Int)) × Int) (y2:(List Int) × Int) (x4:Int) (y5:AN):Nat->Int->(List Int)->Option (List Int)
| 0,_,_=>none
| k+1,x10,x11=>
 if x10<(y5.AQ.length:Int)then
  (idx y5.AQ x10).bind fun y6=>
  (wE AA y6.AW y1.1 y2.1 x4 x11).bind fun y7=>
  (chk (x10+1)).bind fun z1=>
  tC AA y1 y2 x4 y5 k z1 y7
 else
  some x11
def rO (AA:Nat) (y1:(List (List Int)) × Int) (y2:(List Int) × Int) (x4:Int) (y8:AN):Nat->Int->(List Int)->Option (List Int)
| 0,_,_=>none
| k+1,x15,x16=>
 if x15<(y8.AS.length:Int)then
  (idx y8.AS x15).bind fun y9=>
  (wE AA y9.AW y1.1 y2.1 x4 x16).bind fun y10=>
  (chk (x15+1)).bind fun z2=>
  rO AA y1 y2 x4 y8 k z2 y10
 else
  some x16
def tL (AA:Nat) (a0:AJ) (y1:(List (List Int)) × Int) (y2:(List Int) × Int):Nat->Int->(aM Int (List Int))->Option (aM Int (List Int))
| 0,_,_=>none
| k+1,x4,x5=>
 if x4<(a0.AB.length:Int)then
  ((idx a0.AB x4).bind fun y3=>
  if y3.Op≠4 then
   (idx y1.1 x4).bind fun y4=>
   some (aM.upd x5 x4 y4)
  else
   ((idx a0.AD y3.N).bind fun y5=>
   tC AA y1 y2 x4 y5 AA 0 []).bind fun x7=>
   ((idx a0.AD y3.N).bind fun y8=>
   rO AA y1 y2 x4 y8 AA 0 x7).bind fun x12=>
   (aCO x12).bind fun y11=>
   (aDu y11).bind fun y12=>
   some (aM.upd x5 x4 y12)).bind fun x6=>
  (chk (x4+1)).bind fun z3=>
  tL AA a0 y1 y2 k z3 x6
 else
  some x5
def xU (AA:Nat) (a0:AJ):Option ((aM Int (List Int)) × Int):=
 (aAs AA (⟨a0.AF,a0.AB,a0.AD,a0.AG⟩:AJ)).bind fun y1=>
 if y1.2≠0 then
  some (aM.none,y1.2)
 else
  (aAg AA (⟨a0.AF,a0.AB,a0.AD,a0.AG⟩:AJ)).bind fun y2=>
  (tL AA a0 y1 y2 AA 0 (aM.none:aM Int (List Int))).bind fun x1=>
  (idx y1.1 a0.AG).bind fun y13=>
  some (aM.upd x1 (-1) y13,0)
theorem aLC (AA:Nat)  (a0:AJ) (r:(aM Int (List Int)) × Int) (H:xU AA a0=some r):FnS Tryz.prog 21 [fSt dQ a0] [] (dB [kK dG (fun y=>fSl tI y) r.1,fI r.2]) (fun _=>[]):=by
 unfold xU at H
 refine bB Tryz.func21 rfl Tryz.ntmps21 rfl (fun β=>?_)
 refine Z1 ?_
 refine Tn (bU rfl hh bM) fun b1=>?_
 refine B5 H fun y1 h1 H=>?_
 refine Tc (aLh _ _ _ h1) ?_
 refine Z3 ?_
 refine Tn (cB rfl ty_ze_45 rfl) fun b2=>?_
 refine bK (φs':=[fSl (tSl tI) y1.1]) a1F rfl rfl (has rfl) (has rfl) (aS) (sz rfl) rfl rfl ?_
 refine Z2 ?_
 refine aG ?_
 refine I4 H (fun c1 H=>?_) fun c1 H=>?_
 refine Z7 ?_
 cases H
 refine aE [] (by decide) ?_
 exact gU rfl (fF rfl aJQ) (bO rfl) rfl
 refine B5 H fun y2 h2 H=>?_
 refine Tc (aJK _ _ _ h2) ?_
 refine Z3 ?_
 refine Tn (cB rfl wW rfl) fun b3=>?_
 refine bK (φs':=[fSl tI y2.1]) a1F rfl rfl (has rfl) (has rfl) (aS) (sz rfl) rfl rfl ?_
 refine Z3 ?_
 refine Tn (aBp (fun y=>fSl tI y) dG rfl) fun b4=>?_
 revert H;refine B2z fun o1 H Hr1=>?_
 refine aO (fun i=>o1=i) (fun i=>[(1,fEq (ptr b1)),(4,aL (tSl (tSl tI)) y1.1),(8,fEq (.map (some b4)))]) (fun i=>[aA b1 26 [fSl aD a0.AF,fSl aJ a0.AB,fSl aB a0.AD,fI a0.AG],dY dG (fun y=>fSl tI y) b4 i]) ?_ ?_
 refine Z7 ?_
 refine dK ?_
 refine bT (φ:=aL (tSl (tSl tI)) y1.1) (v:=ptr b2) [4] (fA aK.rfl) fz ?_
 refine bQ ?_
 refine bH ?_
 refine bT (φ:=aL (tSl tI) y2.1) (v:=ptr b3) [6] (fA aK.rfl) fz ?_
 refine bQ ?_
 refine aE [1,0] (by decide) ?_
 refine Th (ι:=Int × aM Int (List Int)) (fun i=>tL AA a0 y1 y2 i.1 i.2.1 i.2.2=_) (fun i=>[(1,fEq (ptr b1)),(4,aL (tSl (tSl tI)) y1.1),(6,aL (tSl tI) y2.1),(8,fEq (.map (some b4))),(32,fSl aJ a0.AB),(33,fI (a0.AB.length:Int)),(34,fI i.2.1)]) (fun i=>[aA b1 26 [fSl aD a0.AF,fSl aJ a0.AB,fSl aB a0.AD,fI a0.AG],dY dG (fun y=>fSl tI y) b4 i.2.2]) (AA,0,(aM.none:aM Int (List Int))) H (fun _ h=>nomatch h) ?_
 clear H;rintro k1 ⟨x4,x5⟩ H;dsimp only at H ⊢;rw [tL]at H
 refine Z3 ?_
 refine aG ?_
 revert H;refine is (fun c2 H=>?_) fun c2 H=>?_
 revert H;refine B3z fun o2 H Hr2=>?_
 refine aO (fun i=>o2=i) (fun i=>[(1,fEq (ptr b1)),(4,aL (tSl (tSl tI)) y1.1),(6,aL (tSl tI) y2.1),(8,fEq (.map (some b4))),(32,fSl aJ a0.AB),(33,fI (a0.AB.length:Int)),(34,fI x4)]) (fun i=>[aA b1 26 [fSl aD a0.AF,fSl aJ a0.AB,fSl aB a0.AD,fI a0.AG],dY dG (fun y=>fSl tI y) b4 i]) ?_ ?_
 revert H;refine B3z fun y3 h3 H=>?_
 refine Z2 ?_
 refine Tn (cB rfl pE rfl) fun b5=>?_
 refine Tn (cB rfl jV rfl) fun b6=>?_
 refine bH ?_
 refine bK (φs':=[fI x4]) a1F rfl rfl (has rfl) (has rfl) (aF a1F) (sz rfl) rfl rfl ?_
 refine bH ?_
 refine cO (φs':=[fI y3.Op,fI y3.N,fSl aN y3.AX,fSl tI y3.AM]) a1F rfl rfl (has rfl) (has rfl) (aI (aF a1F) (aI (aF a1F) (aI (aS) (aI (aS) bN)))) (sz rfl) rfl rfl rfl ?_
 refine Z1 ?_
 refine aG ?_
 revert H;refine I5z (fun c3 H=>?_) fun c3 H=>?_
 refine Z1 ?_
 refine aG ?_
 revert H;refine bs fun y4 h4 H=>?_
 apply bD (ods:=[_,_,_,_,_,_]) 6 0 4 bC rfl rfl rfl
 refine ND ?_
 refine M6 ?_
 intros
 refine Z1 ?_
 refine cZ ?_
 refine gR (k:=x4) (y:=y4) a1F (.inl rfl) rfl (has rfl) (has rfl) rfl (has rfl) rfl aB2 ?_
 refine Z5 ?_
 refine aE [3,0] (by decide) ?_
 exact Tm (aM.upd x5 x4 y4) (ij H)
 exact fk
 kernel_rfl
 refine Z4 ?_
 refine Tn (cB rfl wW rfl) fun b7=>?_
 refine Z2 ?_
 refine dK ?_
 refine bT (φ:=aL tI x4) (v:=ptr b5) [9] (fA aK.rfl) fz ?_
 refine bQ ?_
 refine Yy (oA rfl (aP.cons hh (aP.cons hh (aP.cons hh (aP.cons hh aP.nil))))) ?_
 revert H;refine B2z fun o3 H Hr3=>?_
 refine aO (ι:=List Int × Value) (fun i=>o3=i.1) (fun i=>[(1,fEq (ptr b1)),(4,aL (tSl (tSl tI)) y1.1),(6,aL (tSl tI) y2.1),(8,fEq (.map (some b4))),(32,fSl aJ a0.AB),(33,fI (a0.AB.length:Int)),(34,fI x4),(9,aL tI x4),(10,fEq (ptr b6)),(11,fEq (ptr b7)),(12,cY 53 [aL (tSl (tSl tI)) y1.1,aL (tSl tI) y2.1,aL tI x4,fEq (ptr b7)])]) (fun i=>[aA b7 27 [fEq i.2],aA b6 65 [fI y3.Op,fI y3.N,fSl aN y3.AX,fSl tI y3.AM],aA b1 26 [fSl aD a0.AF,fSl aJ a0.AB,fSl aB a0.AD,fI a0.AG],dY dG (fun y=>fSl tI y) b4 x5,aC i.2 3 tI i.1]) ?_ ?_
 revert H;refine B5z fun y5 h5 H=>?_
 refine Yy (cT rfl hh hh (el rfl) h5) ?_
 refine Z6 ?_
 refine fH tI 3 ?_
 refine aE [1,2,3,4,0] (by decide) ?_
 refine Th (ι:=Int × List Int × Value) (fun i=>tC AA y1 y2 x4 y5 i.1 i.2.1 i.2.2.1=_) (fun i=>[(1,fEq (ptr b1)),(4,aL (tSl (tSl tI)) y1.1),(6,aL (tSl tI) y2.1),(8,fEq (.map (some b4))),(32,fSl aJ a0.AB),(33,fI (a0.AB.length:Int)),(34,fI x4),(9,aL tI x4),(10,fEq (ptr b6)),(11,fEq (ptr b7)),(12,cY 53 [aL (tSl (tSl tI)) y1.1,aL (tSl tI) y2.1,aL tI x4,fEq (ptr b7)]),(55,fSl aY y5.AQ),(56,fI (y5.AQ.length:Int)),(57,fI i.2.1)]) (fun i=>[aA b7 27 [fEq i.2.2.2],aA b6 65 [fI y3.Op,fI y3.N,fSl aN y3.AX,fSl tI y3.AM],aA b1 26 [fSl aD a0.AF,fSl aJ a0.AB,fSl aB a0.AD,fI a0.AG],dY dG (fun y=>fSl tI y) b4 x5,aC i.2.2.2 3 tI i.2.2.1]) (AA,0,[],(.slice none 0 0)) H (fun _ h=>nomatch h) ?_
 clear H;rintro k2 ⟨x10,x11,v3⟩ H;dsimp only at H ⊢;rw [tC]at H
 refine rc 4 fun _=>?_
 refine Z3 ?_
 refine aG ?_
 revert H;refine is (fun c4 H=>?_) fun c4 H=>?_
 refine Z3 ?_
 refine aG ?_
 revert H;refine B2z fun y6 h6 H=>?_
 refine Z2 ?_
 refine Tn (cB rfl pM rfl) fun b8=>?_
 refine cO (φs':=[fI y6.At,fSl tI y6.Ad,fI y6.AW]) a1F rfl rfl (has rfl) (has rfl) (aI (aF a1F) (aI (aS) (aI (aF a1F) bN))) (sz rfl) rfl rfl rfl ?_
 refine Z5 ?_
 refine cP ?_
 refine dK ?_
 refine aDw (x:=x11) ?_
 revert H;refine bs fun y7 h7 H=>?_
 refine jP a1F rfl rfl rfl (has rfl) (aP.cons (has rfl) aP.nil) rfl (cb rfl) (aED AA b7 y6.AW y1.1 y2.1 x4 x11 y7 h7) rfl ?_
 refine aDQ (fun v4=>?_)
 refine rc 1 fun _=>?_
 revert H;refine B4z fun z1 h8 H=>?_
 refine Z3 ?_
 refine aE [0,3,4,5,1] (by decide) ?_
 exact Tm ((k2,z1,y7,v4)) ⟨H,ls⟩
 refine Z6 ?_
 exact Tm ((x11,v3)) (ij H)
 rintro⟨x7,v1⟩ hi;subst o3;replace H:=Hr3;clear Hr3;try dsimp only at H ⊢
 refine rc 4 fun _=>?_
 revert H;refine bs fun o4 H Hr4=>?_
 refine aO (ι:=List Int × Value) (fun i=>o4=i.1) (fun i=>[(1,fEq (ptr b1)),(4,aL (tSl (tSl tI)) y1.1),(6,aL (tSl tI) y2.1),(8,fEq (.map (some b4))),(32,fSl aJ a0.AB),(33,fI (a0.AB.length:Int)),(34,fI x4),(9,aL tI x4),(11,fEq (ptr b7))]) (fun i=>[aA b7 27 [fEq i.2],aA b6 65 [fI y3.Op,fI y3.N,fSl aN y3.AX,fSl tI y3.AM],aA b1 26 [fSl aD a0.AF,fSl aJ a0.AB,fSl aB a0.AD,fI a0.AG],dY dG (fun y=>fSl tI y) b4 x5,aC i.2 3 tI i.1]) ?_ ?_
 revert H;refine B5z fun y8 h9 H=>?_
 refine Z7 ?_
 refine Th (ι:=Int × List Int × Value) (fun i=>rO AA y1 y2 x4 y8 i.1 i.2.1 i.2.2.1=_) (fun i=>[(1,fEq (ptr b1)),(4,aL (tSl (tSl tI)) y1.1),(6,aL (tSl tI) y2.1),(8,fEq (.map (some b4))),(32,fSl aJ a0.AB),(33,fI (a0.AB.length:Int)),(34,fI x4),(9,aL tI x4),(11,fEq (ptr b7)),(12,cY 53 [aL (tSl (tSl tI)) y1.1,aL (tSl tI) y2.1,aL tI x4,fEq (ptr b7)]),(72,fSl aU y8.AS),(73,fI (y8.AS.length:Int)),(74,fI i.2.1)]) (fun i=>[aA b7 27 [fEq i.2.2.2],aA b6 65 [fI y3.Op,fI y3.N,fSl aN y3.AX,fSl tI y3.AM],aA b1 26 [fSl aD a0.AF,fSl aJ a0.AB,fSl aB a0.AD,fI a0.AG],dY dG (fun y=>fSl tI y) b4 x5,aC i.2.2.2 3 tI i.2.2.1]) (AA,0,x7,v1) H (fun _ h=>nomatch h) ?_
 clear H;rintro k3 ⟨x15,x16,v7⟩ H;dsimp only at H ⊢;rw [rO]at H
 refine rc 4 fun _=>?_
 refine Z3 ?_
 refine aG ?_
 revert H;refine is (fun c5 H=>?_) fun c5 H=>?_
 refine Z3 ?_
 refine aG ?_
 revert H;refine B2z fun y9 h10 H=>?_
 refine Z2 ?_
 refine Tn (cB rfl aAA rfl) fun b9=>?_
 refine cO (φs':=[fI y9.In,fI y9.AW]) a1F rfl rfl (has rfl) (has rfl) (aI (aF a1F) (aI (aF a1F) bN)) (sz rfl) rfl rfl rfl ?_
 refine Z5 ?_
 refine cP ?_
 refine dK ?_
 refine aDw (x:=x16) ?_
 revert H;refine bs fun y10 h11 H=>?_
 refine jP a1F rfl rfl rfl (has rfl) (aP.cons (has rfl) aP.nil) rfl (cb rfl) (aED AA b7 y9.AW y1.1 y2.1 x4 x16 y10 h11) rfl ?_
 refine aDQ (fun v8=>?_)
 refine rc 1 fun _=>?_
 revert H;refine B4z fun z2 h12 H=>?_
 refine Z3 ?_
 refine aE [0,3,4,5,1] (by decide) ?_
 exact Tm ((k3,z2,y10,v8)) ⟨H,ls⟩
 refine Z6 ?_
 exact Tm ((x16,v7)) (ij H)
 rintro⟨x12,v5⟩ hi;subst o4;replace H:=Hr4;clear Hr4;try dsimp only at H ⊢
 refine rc 4 fun _=>?_
 refine Z2 ?_
 refine bG ?_
 revert H;refine bs fun y11 h13 H=>?_
 refine Tc (aJy _ _ _ h13) ?_
 revert H;refine B1z fun y12 h14 H=>?_
 apply bD (ods:=[_,_,_,_]) 4 0 5 bC rfl rfl rfl
 refine ND ?_
 refine M3 ?_
 intros
 refine N_callT (od:=odC [0] true (fSl tI y12) [gG]) (Φ:=fSl tI y12) (p:=0) rfl (fun _=>rfl) a1F rfl rfl rfl (has rfl) (aP.cons (has rfl) aP.nil) rfl (cb rfl) (aIy v5 y11 y12 h14) (fun _=>?_)
 refine Z1 ?_
 refine bG ?_
 refine gR (k:=x4) (y:=y12) a1F (.inl rfl) rfl (has rfl) (has rfl) rfl (has rfl) rfl aB2 ?_
 refine Z3 ?_
 refine aE [4,0] (by decide) ?_
 exact Tm (aM.upd x5 x4 y12) (ij H)
 exact fk
 kernel_rfl
 rintro x6 hi;subst o2;replace H:=Hr2;clear Hr2;try dsimp only at H ⊢
 revert H;refine B1z fun z3 h15 H=>?_
 refine Z3 ?_
 exact Tm ((k1,z3,x6)) ⟨H,ls⟩
 refine Z6 ?_
 exact Tm (x5) (ij H)
 rintro x1 hi;subst o1;replace H:=Hr1;clear Hr1;try dsimp only at H ⊢
 refine B5 H fun y13 h16 H=>?_
 refine Z2 ?_
 refine bH ?_
 refine gR (k:=(-1)) (y:=y13) a1F (.inl rfl) rfl (has rfl) (has rfl) rfl (has rfl) rfl aB2 ?_
 refine Z7 ?_
 refine bT (φ:=kK dG (fun y=>fSl tI y) (aM.upd x1 (-1) y13)) (v:= .map (some b4)) [8,90,96,2] aG4 fz ?_
 refine bQ ?_
 cases H
 refine aE [] (by decide) ?_
 exact gU rfl (bO rfl) (bO rfl) rfl
def sO (a0:List Int) (a1:Int):Nat->Int->Option ((Unit) ⊕ (Int))
| 0,_=>none
| k+1,x2=>
 if x2<(a0.length:Int)then
  (idx a0 x2).bind fun y1=>
  if a1=y1 then
   (some x2).bind fun r=>some (Sum.inr r)
  else
   (chk (x2+1)).bind fun z1=>
   sO a0 a1 k z1
 else
  some (Sum.inl ())
def zM (AA:Nat) (a0:List Int) (a1:Int):Option (Int):=
 (sO a0 a1 AA 0).bind fun o=>match o with
 | Sum.inr r=>some r
 | Sum.inl _=>
 some (-1)
theorem aK7 (AA:Nat)  (a0:List Int) (a1:Int) (r:Int) (H:zM AA a0 a1=some r):FnS Tryz.prog 29 [fSl tI a0,fI a1] [] (fI r) (fun _=>[]):=by
 unfold zM at H
 refine bB Tryz.func29 rfl Tryz.ntmps29 rfl (fun β=>?_)
 revert H;refine B3z fun o1 H Hr1=>?_
 refine aO (ι:=Unit) (fun i=>o1=Sum.inl ()) (fun i=>[]) (fun i=>[]) ?_ ?_
 refine Z6 ?_
 refine Th (ι:=Int) (fun i=>sO a0 a1 i.1 i.2=_) (fun i=>[(1,fI a1),(7,fSl tI a0),(8,fI (a0.length:Int)),(9,fI i.2)]) (fun i=>[]) (AA,0) H (fun _ h=>nomatch h) ?_
 clear H;rintro k1 x2 H;dsimp only at H ⊢;rw [sO]at H
 refine Z3 ?_
 refine aG ?_
 revert H;refine is (fun c1 H=>?_) fun c1 H=>?_
 refine Z3 ?_
 refine aG ?_
 revert H;refine B3z fun y1 h1 H=>?_
 revert H;refine I10z (fun c2 H=>?_) fun c2 H=>?_
 revert H;refine B11z fun r1 H e1=>?_
 cases e1;cases Hr1
 cases H
 exact To
 revert H;refine B5z fun z1 h2 H=>?_
 refine Z3 ?_
 exact Tm ((k1,z1)) ⟨H,ls⟩
 refine Z6 ?_
 exact Tm (()) (ij H)
 rintro i hi;subst o1;replace H:=Hr1;clear Hr1;try dsimp only at H ⊢
 refine Z4 ?_
 cases H
 exact To
open Go.SX Go.SW Go.Dt
def rP (AA:Nat) (a0:Int) (a1:List Int) (w0:aM Int (List Int)):Nat->Int->Int->Option (Int)
| 0,_,_=>none
| k+1,x3,x4=>
 if x3<(a1.length:Int)then
  ((idx a1 x3).bind fun y1=>
  (zM AA ((w0.get a0).getD []) y1).bind fun y2=>
  if y2<0 then
   (chk (x4+1)).bind fun z1=>
   some z1
  else
   some x4).bind fun x5=>
  (chk (x3+1)).bind fun z2=>
  rP AA a0 a1 w0 k z2 x5
 else
  some x4
def rH (AA:Nat) (a0:Int) (a1:List Int) (w0:aM Int (List Int)) (w1:Int):Option (Int):=
 rP AA a0 a1 w0 AA 0 w1
theorem aFI (AA:Nat) (q1:Nat) (a0:Int) (a1:List Int) (w0:aM Int (List Int)) (w1:Int) (r:Int) (H:rH AA a0 a1 w0 w1=some r):FnS Tryz.prog 47 [fI a0,fSl tI a1,aL (vS dG (fun y=>fSl tI y)) w0,fEq (.pointer (some ⟨q1,0,none⟩))] [aA q1 3 [fI w1]] (dB []) (fun _=>[aA q1 3 [fI r]]):=by
 unfold rH at H
 refine bB Tryz.func47 rfl Tryz.ntmps47 rfl (fun β=>?_)
 refine Z6 ?_
 refine Th (ι:=Int × Int) (fun i=>rP AA a0 a1 w0 i.1 i.2.1 i.2.2=_) (fun i=>[(0,fI a0),(2,aL (vS dG (fun y=>fSl tI y)) w0),(3,fEq (ptr q1)),(8,fSl tI a1),(9,fI (a1.length:Int)),(10,fI i.2.1)]) (fun i=>[aA q1 3 [fI i.2.2]]) (AA,0,w1) H (fun _ h=>nomatch h) ?_
 clear H;rintro k1 ⟨x3,x4⟩ H;dsimp only at H ⊢;rw [rP]at H
 refine Z3 ?_
 refine aG ?_
 refine iz H (fun c1 H=>?_) fun c1 H=>?_
 revert H;refine B3z fun o1 H Hr1=>?_
 refine aO (fun i=>o1=i) (fun i=>[(0,fI a0),(2,aL (vS dG (fun y=>fSl tI y)) w0),(3,fEq (ptr q1)),(8,fSl tI a1),(9,fI (a1.length:Int)),(10,fI x3)]) (fun i=>[aA q1 3 [fI i]]) ?_ ?_
 revert H;refine B2z fun y1 h1 H=>?_
 refine Z7 ?_
 refine Yy (aGs (zα:=[]) (k:=a0) rfl hh hh rfl aB2 cC) ?_
 revert H;refine B1z fun y2 h2 H=>?_
 refine Tc (aK7 _ _ _ _ h2) ?_
 revert H;refine I2z (fun c2 H=>?_) fun c2 H=>?_
 revert H;refine B3z fun z1 h3 H=>?_
 refine Z1 ?_
 refine bK (φs':=[fI z1]) a1F rfl rfl (has rfl) (has rfl) (aF a1F) (sz rfl) rfl rfl ?_
 refine Z3 ?_
 exact Tm (z1) (ij H)
 refine Z4 ?_
 exact Tm (x4) (ij H)
 rintro x5 hi;subst o1;replace H:=Hr1;clear Hr1;try dsimp only at H ⊢
 refine B1 H fun z2 h4 H=>?_
 refine Z3 ?_
 exact Tm ((k1,z2,x5)) ⟨H,ls⟩
 refine Z5 ?_
 cases H
 exact dH (.inr rfl) rfl rfl
def rI (AA:Nat) (a0:AH) (y2:Ai) (y3:(aM Int (List Int)) × Int):Nat->Int->Int->Option (Int)
| 0,_,_=>none
| k+1,x4,x5=>
 if x4<(a0.AB.length:Int)then
  ((idx a0.AB x4).bind fun y5=>
  (qT y5.Op).bind fun y6=>
  bif y6 then
   (idx y2.AU x4).bind fun y7=>
   (rH AA x4 y7 y3.1 x5).bind fun y8=>
   some y8
  else
   some x5).bind fun x6=>
  (chk (x4+1)).bind fun z1=>
  rI AA a0 y2 y3 k z1 x6
 else
  some x5
def sU (AA:Nat) (a0:AH):Option (Int × Int):=
 (vI AA (⟨a0.AF,a0.AI,a0.AB,a0.AD,a0.AG⟩:AH)).bind fun y1=>
 bif y1.isNone then
  some (0,2)
 else
  (y1).bind fun y2=>
  (xU AA y2.AO).bind fun y3=>
  if y3.2≠0 then
   some (0,y3.2)
  else
   (rH AA (-1) a0.AI y3.1 0).bind fun y4=>
   (rI AA a0 y2 y3 AA 0 y4).bind fun x1=>
   some (x1,0)
theorem aK3 (AA:Nat)  (a0:AH) (r:Int × Int) (H:sU AA a0=some r):FnS Tryz.prog 13 [fSt jB a0] [] (dB [fI r.1,fI r.2]) (fun _=>[]):=by
 unfold sU at H
 refine bB Tryz.func13 rfl Tryz.ntmps13 rfl (fun β=>?_)
 refine Z1 ?_
 refine Tn (bU rfl hh bM) fun b1=>?_
 refine B5 H fun y1 h1 H=>?_
 refine Tc (aHy _ _ _ h1) ?_
 refine Z2 ?_
 refine aG ?_
 refine Z2 ?_
 refine Yy (aGD rfl hh aHt) ?_
 refine Z1 ?_
 refine cz H (fun c1 H=>?_) fun c1 H=>?_
 refine Z6 ?_
 cases H
 refine aE [] (by decide) ?_
 exact gU rfl (bO rfl) (bO rfl) rfl
 refine B5 H fun y2 h2 H=>?_
 refine mA 12 rfl (oW h2) ?_
 refine mA 4 rfl (oW h2) ?_
 refine mA 13 rfl (oW h2) ?_
 refine mA 16 rfl (oW h2) ?_
 refine B3 H fun y3 h3 H=>?_
 refine Tc (aLC _ _ _ h3) ?_
 refine Z3 ?_
 refine Tn (cB rfl ty_ze_55 rfl) fun b2=>?_
 refine bK (φs':=[kK dG (fun y=>fSl tI y) y3.1]) a1F rfl rfl (has rfl) (has rfl) (aGO) (sz rfl) rfl rfl ?_
 refine Z2 ?_
 refine aG ?_
 refine I4 H (fun c2 H=>?_) fun c2 H=>?_
 refine Z7 ?_
 cases H
 refine aE [] (by decide) ?_
 exact gU rfl (bO rfl) (bO rfl) rfl
 refine Z4 ?_
 refine Tn (cB rfl pE rfl) fun b3=>?_
 refine bK (φs':=[fI 0]) a1F rfl rfl (has rfl) (has rfl) (aF a1F) (sz rfl) rfl rfl ?_
 refine Z2 ?_
 refine bH ?_
 refine bT (φ:=aL (vS dG (fun y=>fSl tI y)) y3.1) (v:=ptr b2) [5] (fA aK.rfl) fz ?_
 refine bQ ?_
 refine Yy (oA rfl (aP.cons hh (aP.cons hh aP.nil))) ?_
 refine B6 H fun y4 h4 H=>?_
 refine jP a1F rfl rfl rfl (has rfl) (aP.cons (has rfl) (aP.cons (has rfl) aP.nil)) rfl (cb rfl) (aFI AA b3 (-1) a0.AI y3.1 0 y4 h4) rfl ?_
 revert H;refine B1z fun o1 H Hr1=>?_
 refine aO (fun i=>o1=i) (fun i=>[(7,fEq (ptr b3))]) (fun i=>[aA b3 3 [fI i],aA b1 30 [fSl aD a0.AF,fSl tI a0.AI,fSl aW a0.AB,fSl aB a0.AD,fI a0.AG]]) ?_ ?_
 refine Z7 ?_
 refine Th (ι:=Int × Int) (fun i=>rI AA a0 y2 y3 i.1 i.2.1 i.2.2=_) (fun i=>[(4,aL aA8 y2),(7,fEq (ptr b3)),(8,cY 47 [aL (vS dG (fun y=>fSl tI y)) y3.1,fEq (ptr b3)]),(32,fSl aW a0.AB),(33,fI (a0.AB.length:Int)),(34,fI i.2.1)]) (fun i=>[aA b3 3 [fI i.2.2],aA b1 30 [fSl aD a0.AF,fSl tI a0.AI,fSl aW a0.AB,fSl aB a0.AD,fI a0.AG]]) (AA,0,y4) H (fun _ h=>nomatch h) ?_
 clear H;rintro k1 ⟨x4,x5⟩ H;dsimp only at H ⊢;rw [rI]at H
 refine Z3 ?_
 refine aG ?_
 revert H;refine is (fun c3 H=>?_) fun c3 H=>?_
 revert H;refine B3z fun o2 H Hr2=>?_
 refine aO (fun i=>o2=i) (fun i=>[(4,aL aA8 y2),(7,fEq (ptr b3)),(8,cY 47 [aL (vS dG (fun y=>fSl tI y)) y3.1,fEq (ptr b3)]),(32,fSl aW a0.AB),(33,fI (a0.AB.length:Int)),(34,fI x4)]) (fun i=>[aA b3 3 [fI i],aA b1 30 [fSl aD a0.AF,fSl tI a0.AI,fSl aW a0.AB,fSl aB a0.AD,fI a0.AG]]) ?_ ?_
 revert H;refine B3z fun y5 h5 H=>?_
 refine Z2 ?_
 refine Tn (cB rfl aBF rfl) fun b4=>?_
 refine Z1 ?_
 refine cO (φs':=[fI y5.Op,fI y5.N,fSl aN y5.AX,fSl tI y5.AM,fSl tI y5.AI]) a1F rfl rfl (has rfl) (has rfl) (aI (aF a1F) (aI (aF a1F) (aI (aS) (aI (aS) (aI (aS) bN))))) (sz rfl) rfl rfl rfl ?_
 revert H;refine B4z fun y6 h6 H=>?_
 refine Tc (aG5 _ _ h6) ?_
 refine Z1 ?_
 revert H;refine cs (fun c4 H=>?_) fun c4 H=>?_
 revert H;refine B9z fun y7 h7 H=>?_
 refine Z2 ?_
 refine bH ?_
 revert H;refine bs fun y8 h8 H=>?_
 refine jP a1F rfl rfl rfl (has rfl) (aP.cons (has rfl) (aP.cons (has rfl) aP.nil)) rfl (cb rfl) (aFI AA b3 x4 y7 y3.1 x5 y8 h8) rfl ?_
 refine Z3 ?_
 refine aE [0,2] (by decide) ?_
 exact Tm (y8) (ij H)
 refine Z4 ?_
 refine aE [1,2] (by decide) ?_
 exact Tm (x5) (ij H)
 rintro x6 hi;subst o2;replace H:=Hr2;clear Hr2;try dsimp only at H ⊢
 revert H;refine B1z fun z1 h9 H=>?_
 refine Z3 ?_
 exact Tm ((k1,z1,x6)) ⟨H,ls⟩
 refine Z6 ?_
 exact Tm (x5) (ij H)
 rintro x1 hi;subst o1;replace H:=Hr1;clear Hr1;try dsimp only at H ⊢
 refine Z6 ?_
 cases H
 refine aE [] (by decide) ?_
 exact gU rfl (bO rfl) (bO rfl) rfl
def vB (AA:Nat) (a0:AJ):Option (List Int):=
 (uY AA (⟨a0.AF,a0.AB,a0.AD,a0.AG⟩:AJ)).bind fun y1=>
 some y1.Aa
theorem aGC (AA:Nat)  (a0:AJ) (r:List Int) (H:vB AA a0=some r):FnS Tryz.prog 60 [fSt dQ a0] [] (fSl tI r) (fun _=>[]):=by
 unfold vB at H
 refine bB Tryz.func60 rfl Tryz.ntmps60 rfl (fun β=>?_)
 refine Z1 ?_
 refine Tn (bU rfl hh bM) fun b1=>?_
 refine B4 H fun y1 h1 H=>?_
 refine Tc (aGt _ _ _ h1) ?_
 refine Z6 ?_
 cases H
 refine aE [] (by decide) ?_
 exact To
def tM (a0:List Int) (a1:Int):Nat->Int->Option (Int)
| 0,_=>none
| k+1,x3=>
 if x3<(a0.length:Int)then
  (idx a0 x3).bind fun y1=>
  if y1<a1 then
   (chk (x3+1)).bind fun z1=>
   tM a0 a1 k z1
  else
   some x3
 else
  some x3
def iO (AA:Nat) (a0:List Int) (a1:Int):Option (List Int):=
 (tM a0 a1 AA 0).bind fun x1=>
 (if x1<(a0.length:Int)then
  (idx a0 x1).bind fun y2=>
  if y2=a1 then
   (some a0).bind fun r=>some (Sum.inr r)
  else
   some (Sum.inl ())
 else
  some (Sum.inl ())).bind fun o=>match o with
 | Sum.inr r=>some r
 | Sum.inl _=>
 (slc a0 x1 (a0.length:Int)).bind fun y3=>
 (cQ ([a1]++y3)).bind fun z2=>
 (slc a0 0 x1).bind fun y4=>
 (cQ (([]:List Int)++y4)).bind fun z3=>
 (cQ (z3++z2)).bind fun z4=>
 some z4
theorem zI (AA:Nat)  (a0:List Int) (a1:Int) (r:List Int) (H:iO AA a0 a1=some r):FnS Tryz.prog 62 [fSl tI a0,fI a1] [] (fSl tI r) (fun _=>[]):=by
 unfold iO at H
 refine bB Tryz.func62 rfl Tryz.ntmps62 rfl (fun β=>?_)
 revert H;refine B6z fun o1 H Hr1=>?_
 refine aO (fun i=>o1=i) (fun i=>[(0,fSl tI a0),(1,fI a1),(5,fI i)]) (fun i=>[]) ?_ ?_
 refine Z1 ?_
 refine Th (ι:=Int) (fun i=>tM a0 a1 i.1 i.2=_) (fun i=>[(0,fSl tI a0),(1,fI a1),(5,fI i.2)]) (fun i=>[]) (AA,0) H (fun _ h=>nomatch h) ?_
 clear H;rintro k1 x3 H;dsimp only at H ⊢;rw [tM]at H
 refine aG ?_
 revert H;refine I6z (fun c1 H=>?_) fun c1 H=>?_
 revert H;refine B2z fun y1 h1 H=>?_
 revert H;refine I6z (fun c2 H=>?_) fun c2 H=>?_
 revert H;refine B6z fun z1 h2 H=>?_
 refine Z5 ?_
 exact Tm ((k1,z1)) ⟨H,ls⟩
 refine Z6 ?_
 exact Tm (x3) (ij H)
 refine Z12 ?_
 refine Z2 ?_
 exact Tm (x3) (ij H)
 rintro x1 hi;subst o1;replace H:=Hr1;clear Hr1;try dsimp only at H ⊢
 revert H;refine bs fun o2 H Hr2=>?_
 refine aO (ι:=Unit) (fun i=>o2=Sum.inl ()) (fun i=>[(0,fSl tI a0),(1,fI a1),(5,fI x1)]) (fun i=>[]) ?_ ?_
 revert H;refine I6z (fun c3 H=>?_) fun c3 H=>?_
 revert H;refine B2z fun y2 h3 H=>?_
 revert H;refine I6z (fun c4 H=>?_) fun c4 H=>?_
 revert H;refine B6z fun r1 H e1=>?_
 cases e1;cases Hr2
 cases H
 exact To
 refine Z3 ?_
 exact Tm (()) (ij H)
 refine Z11 ?_
 exact Tm (()) (ij H)
 rintro i hi;subst o2;replace H:=Hr2;clear Hr2;try dsimp only at H ⊢
 refine Z2 ?_
 refine Tn (eQ (t:=tI) (xs:=[a1]) rfl (et rfl) (bY.cons rfl (has rfl) (cL (aF a1F)) bY.nil) rfl rfl rfl) fun b1=>?_
 generalize (Value.slice (some ⟨b1,0,none⟩) _ _)=v1
 refine rc 0 fun _=>?_
 refine B2 H fun y3 h4 H=>?_
 refine Yy (aCE (t:=tI) rfl hh (aCF hh) aDq (el rfl) h4) ?_
 refine bz H fun z2 h5 H=>?_
 refine iX (ys:=y3) a1F rfl rfl rfl (has rfl) (has rfl) (et rfl) rfl h5 (fun v2=>?_)
 refine rc 0 fun _=>?_
 refine Z3 ?_
 refine Tn (eQ (t:=tI) (xs:=([]:List Int)) rfl (et rfl) bY.nil rfl rfl rfl) fun b2=>?_
 generalize (Value.slice (some ⟨b2,0,none⟩) _ _)=v3
 refine rc 0 fun _=>?_
 refine B2 H fun y4 h6 H=>?_
 refine Yy (aCE (t:=tI) rfl hh aDq (aCF hh) (el rfl) h6) ?_
 refine bz H fun z3 h7 H=>?_
 refine iX (ys:=y4) a1F rfl rfl rfl (has rfl) (has rfl) (et rfl) rfl h7 (fun v4=>?_)
 refine rc 0 fun _=>?_
 refine B1 H fun z4 h8 H=>?_
 refine bH ?_
 refine gH a1F rfl rfl rfl (has rfl) (has rfl) (et rfl) rfl h8 (fun v5=>?_)
 refine rc 0 fun _=>?_
 refine Z3 ?_
 refine bT (φ:=fSl tI z4) (v:=v5) [46,4] cM fz ?_
 refine bQ ?_
 cases H
 exact To
def sD (y2:AN):Nat->(List Int)->Int->Option (List Int)
| 0,_,_=>none
| k+1,x5,x6=>
 if x6<(y2.AQ.length:Int)then
  (idx y2.AQ x6).bind fun y3=>
  (cQ (x5++[y3.AW])).bind fun z1=>
  (chk (x6+1)).bind fun z2=>
  sD y2 k z1 z2
 else
  some x5
def tH (y2:AN):Nat->(List Int)->Int->Option (List Int)
| 0,_,_=>none
| k+1,x9,x10=>
 if x10<(y2.AS.length:Int)then
  (idx y2.AS x10).bind fun y4=>
  (cQ (x9++[y4.AW])).bind fun z3=>
  (chk (x10+1)).bind fun z4=>
  tH y2 k z3 z4
 else
  some x9
def xI (AA:Nat) (a0:AJ) (a1:Int):Option (List Int):=
 (idx a0.AB a1).bind fun y1=>
 (if y1.Op=4 then
  (idx a0.AD y1.N).bind fun y2=>
  (sD y2 AA [] 0).bind fun x2=>
  tH y2 AA x2 0
 else
  some []).bind fun x1=>
 (cQ (x1++y1.AM)).bind fun z5=>
 some z5
theorem aLg (AA:Nat)  (a0:AJ) (a1:Int) (r:List Int) (H:xI AA a0 a1=some r):FnS Tryz.prog 138 [fSt dQ a0,fI a1] [] (fSl tI r) (fun _=>[]):=by
 unfold xI at H
 refine bB Tryz.func138 rfl Tryz.ntmps138 rfl (fun β=>?_)
 refine Z1 ?_
 refine Tn (bU rfl hh bM) fun b1=>?_
 refine B9 H fun y1 h1 H=>?_
 refine Z2 ?_
 refine Tn (cB rfl jV rfl) fun b2=>?_
 refine cO (φs':=[fI y1.Op,fI y1.N,fSl aN y1.AX,fSl tI y1.AM]) a1F rfl rfl (has rfl) (has rfl) (aI (aF a1F) (aI (aF a1F) (aI (aS) (aI (aS) bN)))) (sz rfl) rfl rfl rfl ?_
 revert H;refine B1z fun o1 H Hr1=>?_
 refine aO (ι:=List Int × Value) (fun i=>o1=i.1) (fun i=>[(5,fEq i.2),(6,fEq (ptr b2))]) (fun i=>[aA b2 65 [fI y1.Op,fI y1.N,fSl aN y1.AX,fSl tI y1.AM],aA b1 26 [fSl aD a0.AF,fSl aJ a0.AB,fSl aB a0.AD,fI a0.AG],aC i.2 3 tI i.1]) ?_ ?_
 revert H;refine I5z (fun c1 H=>?_) fun c1 H=>?_
 revert H;refine B6z fun y2 h2 H=>?_
 refine Z2 ?_
 refine Tn (cB rfl oP rfl) fun b3=>?_
 refine cO (φs':=[fSl aZ y2.AT,fSl aU y2.AS,fSl aY y2.AQ]) a1F rfl rfl (has rfl) (has rfl) (aI (aS) (aI (aS) (aI (aS) bN))) (sz rfl) rfl rfl rfl ?_
 revert H;refine B1z fun o2 H Hr2=>?_
 refine aO (ι:=List Int × Value) (fun i=>o2=i.1) (fun i=>[(5,fEq i.2),(6,fEq (ptr b2)),(7,fEq (ptr b3))]) (fun i=>[aA b3 77 [fSl aZ y2.AT,fSl aU y2.AS,fSl aY y2.AQ],aA b2 65 [fI y1.Op,fI y1.N,fSl aN y1.AX,fSl tI y1.AM],aA b1 26 [fSl aD a0.AF,fSl aJ a0.AB,fSl aB a0.AD,fI a0.AG],aC i.2 3 tI i.1]) ?_ ?_
 refine Z4 ?_
 refine fH tI 3 ?_
 refine aE [1,2,3,0] (by decide) ?_
 refine Th (ι:=List Int × Int × Value) (fun i=>sD y2 i.1 i.2.1 i.2.2.1=_) (fun i=>[(5,fEq i.2.2.2),(6,fEq (ptr b2)),(7,fEq (ptr b3)),(8,fI i.2.2.1)]) (fun i=>[aA b3 77 [fSl aZ y2.AT,fSl aU y2.AS,fSl aY y2.AQ],aA b2 65 [fI y1.Op,fI y1.N,fSl aN y1.AX,fSl tI y1.AM],aA b1 26 [fSl aD a0.AF,fSl aJ a0.AB,fSl aB a0.AD,fI a0.AG],aC i.2.2.2 3 tI i.2.1]) (AA,[],0,(.slice none 0 0)) H (fun _ h=>nomatch h) ?_
 clear H;rintro k1 ⟨x5,x6,v4⟩ H;dsimp only at H ⊢;rw [sD]at H
 refine rc 3 fun _=>?_
 refine aG ?_
 revert H;refine I7z (fun c2 H=>?_) fun c2 H=>?_
 refine Z3 ?_
 refine aG ?_
 revert H;refine B6z fun y3 h3 H=>?_
 refine Z3 ?_
 refine Tn (eQ (t:=tI) (xs:=[y3.AW]) rfl (et rfl) (bY.cons rfl (has rfl) (cL (aF a1F)) bY.nil) rfl rfl rfl) fun b4=>?_
 generalize (Value.slice (some ⟨b4,0,none⟩) _ _)=v5
 refine rc 0 fun _=>?_
 revert H;refine bs fun z1 h4 H=>?_
 refine bG ?_
 refine bH ?_
 refine gH a1F rfl rfl rfl (has rfl) (has rfl) (et rfl) rfl h4 (fun v6=>?_)
 refine rc 0 fun _=>?_
 revert H;refine B6z fun z2 h5 H=>?_
 refine Z3 ?_
 refine aE [1,2,3,0] (by decide) ?_
 exact Tm ((k1,z1,z2,v6)) ⟨H,ls⟩
 refine Z6 ?_
 exact Tm ((x5,v4)) (ij H)
 rintro⟨x2,v2⟩ hi;subst o2;replace H:=Hr2;clear Hr2;try dsimp only at H ⊢
 refine rc 3 fun _=>?_
 refine Z4 ?_
 refine Th (ι:=List Int × Int × Value) (fun i=>tH y2 i.1 i.2.1 i.2.2.1=_) (fun i=>[(5,fEq i.2.2.2),(6,fEq (ptr b2)),(7,fEq (ptr b3)),(9,fI i.2.2.1)]) (fun i=>[aA b3 77 [fSl aZ y2.AT,fSl aU y2.AS,fSl aY y2.AQ],aA b2 65 [fI y1.Op,fI y1.N,fSl aN y1.AX,fSl tI y1.AM],aA b1 26 [fSl aD a0.AF,fSl aJ a0.AB,fSl aB a0.AD,fI a0.AG],aC i.2.2.2 3 tI i.2.1]) (AA,x2,0,v2) H (fun _ h=>nomatch h) ?_
 clear H;rintro k2 ⟨x9,x10,v8⟩ H;dsimp only at H ⊢;rw [tH]at H
 refine rc 3 fun _=>?_
 refine aG ?_
 revert H;refine I7z (fun c3 H=>?_) fun c3 H=>?_
 refine Z3 ?_
 refine aG ?_
 revert H;refine B6z fun y4 h6 H=>?_
 refine Z3 ?_
 refine Tn (eQ (t:=tI) (xs:=[y4.AW]) rfl (et rfl) (bY.cons rfl (has rfl) (cL (aF a1F)) bY.nil) rfl rfl rfl) fun b5=>?_
 generalize (Value.slice (some ⟨b5,0,none⟩) _ _)=v9
 refine rc 0 fun _=>?_
 revert H;refine bs fun z3 h7 H=>?_
 refine bG ?_
 refine bH ?_
 refine gH a1F rfl rfl rfl (has rfl) (has rfl) (et rfl) rfl h7 (fun v10=>?_)
 refine rc 0 fun _=>?_
 revert H;refine B6z fun z4 h8 H=>?_
 refine Z3 ?_
 refine aE [1,2,3,0] (by decide) ?_
 exact Tm ((k2,z3,z4,v10)) ⟨H,ls⟩
 refine Z6 ?_
 refine aE [1,2,3] (by decide) ?_
 exact Tm ((x9,v8)) (ij H)
 refine Z3 ?_
 refine fH tI 3 ?_
 refine aE [1,2,0] (by decide) ?_
 exact Tm (([],(.slice none 0 0))) (ij H)
 rintro⟨x1,v1⟩ hi;subst o1;replace H:=Hr1;clear Hr1;try dsimp only at H ⊢
 refine rc 2 fun _=>?_
 refine B4 H fun z5 h9 H=>?_
 refine dK ?_
 refine iX (ys:=y1.AM) a1F rfl rfl rfl (has rfl) (has rfl) (et rfl) rfl h9 (fun v11=>?_)
 refine rc 0 fun _=>?_
 refine Z3 ?_
 refine bT (φ:=fSl tI z5) (v:=v11) [59,4] cM fz ?_
 refine bQ ?_
 cases H
 refine aE [] (by decide) ?_
 exact To
def qP (rec_r03_below:AJ->(List Int)->Int->Option (List Int)) (a0:AJ) (y2:List Int):Nat->(List Int)->Int->Option (List Int)
| 0,_,_=>none
| k+1,x4,x5=>
 if x5<(y2.length:Int)then
  (idx y2 x5).bind fun y3=>
  (rec_r03_below (⟨a0.AF,a0.AB,a0.AD,a0.AG⟩:AJ) x4 y3).bind fun y4=>
  (chk (x5+1)).bind fun z1=>
  qP rec_r03_below a0 y2 k y4 z1
 else
  some x4
def lY:Nat->AJ->(List Int)->Int->Option (List Int)
| 0,_,_,_=>none
| AA+1,a0,a1,a2=>
 (iO AA a1 a2).bind fun y1=>
 (xI AA (⟨a0.AF,a0.AB,a0.AD,a0.AG⟩:AJ) a2).bind fun y2=>
 (qP (lY AA) a0 y2 AA y1 0).bind fun x1=>
 some x1
theorem aLy:∀ (AA:Nat),(∀  (a0:AJ) (a1:List Int) (a2:Int) (r:List Int) (H:lY AA a0 a1 a2=some r),FnS Tryz.prog 92 [fSt dQ a0,fSl tI a1,fI a2] [] (fSl tI r) (fun _=>[])):=by
 intro AA
 induction AA with
 | zero=>exact fun a0 a1 a2 r H=>(by rw [lY]at H;cases H)
 | succ AA ih=>
 have ih_r03_below:=@ih
 refine ?_
 intro a0 a1 a2 r H
 rw [lY]at H
 refine bB Tryz.func92 rfl Tryz.ntmps92 rfl (fun β=>?_)
 refine Z1 ?_
 refine Tn (bU rfl hh bM) fun b1=>?_
 refine B5 H fun y1 h1 H=>?_
 refine Tc (zI _ _ _ _ h1) ?_
 refine B5 H fun y2 h2 H=>?_
 refine Tc (aLg _ _ _ _ h2) ?_
 revert H;refine B2z fun o1 H Hr1=>?_
 refine aO (fun i=>o1=i) (fun i=>[(1,fSl tI i)]) (fun i=>[aA b1 26 [fSl aD a0.AF,fSl aJ a0.AB,fSl aB a0.AD,fI a0.AG]]) ?_ ?_
 refine Z4 ?_
 refine Th (ι:=List Int × Int) (fun i=>qP (lY AA) a0 y2 i.1 i.2.1 i.2.2=_) (fun i=>[(1,fSl tI i.2.1),(3,fEq (ptr b1)),(7,fSl tI y2),(8,fI i.2.2)]) (fun i=>[aA b1 26 [fSl aD a0.AF,fSl aJ a0.AB,fSl aB a0.AD,fI a0.AG]]) (AA,y1,0) H (fun _ h=>nomatch h) ?_
 clear H;rintro k1 ⟨x4,x5⟩ H;dsimp only at H ⊢;rw [qP]at H
 refine aG ?_
 revert H;refine I6z (fun c1 H=>?_) fun c1 H=>?_
 refine Z3 ?_
 refine aG ?_
 revert H;refine B1z fun y3 h3 H=>?_
 revert H;refine bs fun y4 h4 H=>?_
 apply bD (ods:=[_,_,_,_,_,_,_,_]) 8 0 1 bC rfl rfl rfl
 refine ND ?_
 refine M6 ?_
 intros
 refine Nc (ih_r03_below _ _ _ _ h4) fun _=>?_
 refine M1 ?_
 intros
 revert H;refine B6z fun z1 h5 H=>?_
 refine Z3 ?_
 exact Tm ((k1,y4,z1)) ⟨H,ls⟩
 exact fk
 kernel_rfl
 refine Z6 ?_
 exact Tm (x4) (ij H)
 rintro x1 hi;subst o1;replace H:=Hr1;clear Hr1;try dsimp only at H ⊢
 refine Z5 ?_
 cases H
 refine aE [] (by decide) ?_
 exact To
def aA4 (AA:Nat) (a0:AJ) (a1:Int):Option (List Int):=
 (lY AA (⟨a0.AF,a0.AB,a0.AD,a0.AG⟩:AJ) [] a1).bind fun y1=>
 some y1
theorem aJI (AA:Nat)  (a0:AJ) (a1:Int) (r:List Int) (H:aA4 AA a0 a1=some r):FnS Tryz.prog 61 [fSt dQ a0,fI a1] [] (fSl tI r) (fun _=>[]):=by
 unfold aA4 at H
 refine bB Tryz.func61 rfl Tryz.ntmps61 rfl (fun β=>?_)
 refine Z1 ?_
 refine Tn (bU rfl hh bM) fun b1=>?_
 refine B5 H fun y1 h1 H=>?_
 refine oX a1F rfl rfl rfl hh (aP.cons hh (aP.cons (fY rfl cC) (aP.cons hh aP.nil))) rfl (cb rfl) (aLy AA a0 [] a1 y1 h1) rfl ?_
 refine Z3 ?_
 cases H
 refine aE [] (by decide) ?_
 exact To
def nR (rec_r03_needExp:(List Int)->AV->Int->Option (List Int)) (a1:AV) (a2:Int):Nat->(List Int)->Int->Option (List Int)
| 0,_,_=>none
| k+1,x5,x6=>
 if x6<(a1.AM.length:Int)then
  (idx a1.AM x6).bind fun y2=>
  (rec_r03_needExp x5 y2 a2).bind fun y3=>
  (chk (x6+1)).bind fun z1=>
  nR rec_r03_needExp a1 a2 k y3 z1
 else
  some x5
def kY:Nat->(List Int)->AV->Int->Option (List Int)
| 0,_,_,_=>none
| AA+1,a0,a1,a2=>
 (if a1.Op=2 then
  if a1.N<a2 then
   (iO AA a0 a1.N).bind fun y1=>
   some y1
  else
   some a0
 else
  some a0).bind fun x1=>
 (nR (kY AA) a1 a2 AA x1 0).bind fun x2=>
 some x2
theorem aKf:∀ (AA:Nat),(∀  (a0:List Int) (a1:AV) (a2:Int) (r:List Int) (H:kY AA a0 a1 a2=some r),FnS Tryz.prog 63 [fSl tI a0,fSt aN a1,fI a2] [] (fSl tI r) (fun _=>[])):=by
 intro AA
 induction AA with
 | zero=>exact fun a0 a1 a2 r H=>(by rw [kY]at H;cases H)
 | succ AA ih=>
 have ih_r03_needExp:=@ih
 refine ?_
 intro a0 a1 a2 r H
 rw [kY]at H
 refine bB Tryz.func63 rfl Tryz.ntmps63 rfl (fun β=>?_)
 refine Z1 ?_
 refine Tn (bU rfl hh bM) fun b1=>?_
 revert H;refine B2z fun o1 H Hr1=>?_
 refine aO (fun i=>o1=i) (fun i=>[(0,fSl tI i),(2,fI a2),(4,fEq (ptr b1))]) (fun i=>[aA b1 71 [fI a1.Op,fI a1.N,dD a1.AM]]) ?_ ?_
 revert H;refine I5z (fun c1 H=>?_) fun c1 H=>?_
 revert H;refine I6z (fun c2 H=>?_) fun c2 H=>?_
 revert H;refine B5z fun y1 h1 H=>?_
 refine Tc (zI _ _ _ _ h1) ?_
 refine Z2 ?_
 exact Tm (y1) (ij H)
 refine Z3 ?_
 exact Tm (a0) (ij H)
 refine Z9 ?_
 exact Tm (a0) (ij H)
 rintro x1 hi;subst o1;replace H:=Hr1;clear Hr1;try dsimp only at H ⊢
 revert H;refine bs fun o2 H Hr2=>?_
 refine aO (fun i=>o2=i) (fun i=>[(0,fSl tI i)]) (fun i=>[aA b1 71 [fI a1.Op,fI a1.N,dD a1.AM]]) ?_ ?_
 refine Z4 ?_
 refine Th (ι:=List Int × Int) (fun i=>nR (kY AA) a1 a2 i.1 i.2.1 i.2.2=_) (fun i=>[(0,fSl tI i.2.1),(2,fI a2),(4,fEq (ptr b1)),(7,fI i.2.2)]) (fun i=>[aA b1 71 [fI a1.Op,fI a1.N,dD a1.AM]]) (AA,x1,0) H (fun _ h=>nomatch h) ?_
 clear H;rintro k1 ⟨x5,x6⟩ H;dsimp only at H ⊢;rw [nR]at H
 refine aG ?_
 refine Z3 ?_
 refine Yo 0 rfl (eU rfl hh (sc rfl) rfl (fB eO)) ?_
 revert H;refine I3z (fun c3 H=>?_) fun c3 H=>?_
 refine Z3 ?_
 refine aG ?_
 refine Z4 ?_
 refine Yo 0 rfl (eU rfl hh (sc rfl) rfl (fB eO)) ?_
 revert H;refine B1z fun y2 h2 H=>?_
 revert H;refine B3z fun y3 h3 H=>?_
 refine Tc (ih_r03_needExp _ _ _ _ h3) ?_
 revert H;refine B6z fun z1 h4 H=>?_
 refine Z3 ?_
 exact Tm ((k1,y3,z1)) ⟨H,ls⟩
 refine Z6 ?_
 exact Tm (x5) (ij H)
 rintro x2 hi;subst o2;replace H:=Hr2;clear Hr2;try dsimp only at H ⊢
 refine Z5 ?_
 cases H
 refine aE [] (by decide) ?_
 exact To
open Go.SX Go.SW Go.Dt
def lD (AA:Nat) (y2:Int) (y5:AZ):Nat->(List Int)->Int->Option (List Int)
| 0,_,_=>none
| k+1,x10,x11=>
 if x11<(y5.AX.length:Int)then
  (idx y5.AX x11).bind fun y9=>
  (kY AA x10 y9 y2).bind fun y10=>
  (chk (x11+1)).bind fun z1=>
  lD AA y2 y5 k y10 z1
 else
  some x10
def mW (AA:Nat) (a0:AJ) (y2:Int) (y3:List Int):Nat->(List Int)->Int->Option (List Int)
| 0,_,_=>none
| k+1,x4,x5=>
 if x5<(y3.length:Int)then
  ((idx y3 x5).bind fun y4=>
  (idx a0.AB y4).bind fun y5=>
  (if y5.Op=2 then
   if y5.N<y2 then
    (iO AA x4 y5.N).bind fun y6=>
    some y6
   else
    some x4
  else
   if y5.Op=6 then
    if y5.N<y2 then
     (iO AA x4 y5.N).bind fun y7=>
     some y7
    else
     some x4
   else
    if y5.Op=8 then
     if y5.N<y2 then
      (iO AA x4 y5.N).bind fun y8=>
      some y8
     else
      some x4
    else
     some x4).bind fun x7=>
  lD AA y2 y5 AA x7 0).bind fun x6=>
  (chk (x5+1)).bind fun z2=>
  mW AA a0 y2 y3 k x6 z2
 else
  some x4
def iV (AA:Nat) (a0:AJ) (a1:Int):Option (List Int):=
 (vB AA (⟨a0.AF,a0.AB,a0.AD,a0.AG⟩:AJ)).bind fun y1=>
 (idx y1 a1).bind fun y2=>
 (aA4 AA (⟨a0.AF,a0.AB,a0.AD,a0.AG⟩:AJ) a1).bind fun y3=>
 (mW AA a0 y2 y3 AA [] 0).bind fun x1=>
 some x1
theorem aB5 (AA:Nat)  (a0:AJ) (a1:Int) (r:List Int) (H:iV AA a0 a1=some r):FnS Tryz.prog 34 [fSt dQ a0,fI a1] [] (fSl tI r) (fun _=>[]):=by
 unfold iV at H
 refine bB Tryz.func34 rfl Tryz.ntmps34 rfl (fun β=>?_)
 refine Z1 ?_
 refine Tn (bU rfl hh bM) fun b1=>?_
 refine B4 H fun y1 h1 H=>?_
 refine Tc (aGC _ _ _ h1) ?_
 refine B1 H fun y2 h2 H=>?_
 refine B10 H fun y3 h3 H=>?_
 refine Tc (aJI _ _ _ _ h3) ?_
 revert H;refine B2z fun o1 H Hr1=>?_
 refine aO (fun i=>o1=i) (fun i=>[(6,fSl tI i)]) (fun i=>[aA b1 26 [fSl aD a0.AF,fSl aJ a0.AB,fSl aB a0.AD,fI a0.AG]]) ?_ ?_
 refine Z4 ?_
 refine T_loop (ι:=Nat × List Int × Int) (fun i=>mW AA a0 y2 y3 i.1 i.2.1 i.2.2=_) (fun i=>i.1) (fun i=>[(2,fEq (ptr b1)),(5,fI y2),(6,fSl tI i.2.1),(7,fSl tI y3),(8,fI i.2.2)]) (fun i=>[aA b1 26 [fSl aD a0.AF,fSl aJ a0.AB,fSl aB a0.AD,fI a0.AG]]) (AA,[],0) H (Sc (Sc (fM.cons (fF rfl cC) (Sc (Sc fM.nil))))) rfl ?_
 clear H;rintro⟨k1,x4,x5⟩ H
 replace H:mW AA a0 y2 y3 k1 x4 x5=_:=H
 try dsimp only
 obtain _ | k1:=k1
 rw [mW]at H;cases H
 rw [mW]at H
 refine aG ?_
 revert H;refine I6z (fun c1 H=>?_) fun c1 H=>?_
 revert H;refine B3z fun o2 H Hr2=>?_
 refine aO (fun i=>o2=i) (fun i=>[(2,fEq (ptr b1)),(5,fI y2),(6,fSl tI i),(7,fSl tI y3),(8,fI x5)]) (fun i=>[aA b1 26 [fSl aD a0.AF,fSl aJ a0.AB,fSl aB a0.AD,fI a0.AG]]) ?_ ?_
 refine Z1 ?_
 refine aG ?_
 revert H;refine bs fun y4 h4 H=>?_
 revert H;refine bs fun y5 h5 H=>?_
 apply bD (ods:=[_,_,_,_,_,_,_,_,_,_]) 10 1 2 bC rfl rfl rfl
 refine ND ?_
 refine M8 ?_
 intros
 refine Mn 1 (fun b2=>ptr b2) (fun b2=>aA b2 65 [fI 0,fI 0,fEq (.slice none 0 0),fEq (.slice none 0 0)]) rfl (cB rfl jV rfl) (fun b2 u1=>?_)
 refine mS (od:=od1 8 [1] true (fun b2 _=>dP) (fun b2 _=>[aA b2 65 [fI y5.Op,fI y5.N,fSl aN y5.AX,fSl tI y5.AM]])) (p:=1) (φs':=[fI y5.Op,fI y5.N,fSl aN y5.AX,fSl tI y5.AM]) rfl (fun _=>rfl) (fun _=>rfl) a1F rfl rfl rfl (has rfl) (has rfl) (aI (aF a1F) (aI (aF a1F) (aI (aS) (aI (aS) bN)))) (sz rfl) rfl rfl rfl (fun _=>?_)
 revert H;refine B2z fun o3 H Hr3=>?_
 refine aO (fun i=>o3=i) (fun i=>[(2,fEq (ptr b1)),(5,fI y2),(6,fSl tI i),(7,fSl tI y3),(8,fI x5),(9,fEq (ptr b2))]) (fun i=>[aA b1 26 [fSl aD a0.AF,fSl aJ a0.AB,fSl aB a0.AD,fI a0.AG],aA b2 65 [fI y5.Op,fI y5.N,fSl aN y5.AX,fSl tI y5.AM]]) ?_ ?_
 revert H;refine I5z (fun c2 H=>?_) fun c2 H=>?_
 refine Z12 ?_
 revert H;refine I4z (fun c3 H=>?_) fun c3 H=>?_
 revert H;refine B5z fun y6 h6 H=>?_
 refine Tc (zI _ _ _ _ h6) ?_
 refine Z2 ?_
 exact Tm (y6) (ij H)
 refine Z3 ?_
 exact Tm (x4) (ij H)
 revert H;refine I5z (fun c4 H=>?_) fun c4 H=>?_
 revert H;refine I11z (fun c5 H=>?_) fun c5 H=>?_
 revert H;refine B5z fun y7 h7 H=>?_
 refine Tc (zI _ _ _ _ h7) ?_
 refine Z2 ?_
 exact Tm (y7) (ij H)
 refine Z3 ?_
 exact Tm (x4) (ij H)
 revert H;refine I5z (fun c6 H=>?_) fun c6 H=>?_
 revert H;refine I6z (fun c7 H=>?_) fun c7 H=>?_
 revert H;refine B5z fun y8 h8 H=>?_
 refine Tc (zI _ _ _ _ h8) ?_
 refine Z2 ?_
 exact Tm (y8) (ij H)
 refine Z3 ?_
 exact Tm (x4) (ij H)
 refine Z9 ?_
 exact Tm (x4) (ij H)
 rintro x7 hi;subst o3;replace H:=Hr3;clear Hr3;try dsimp only at H ⊢
 refine Z4 ?_
 refine Th (ι:=List Int × Int) (fun i=>lD AA y2 y5 i.1 i.2.1 i.2.2=_) (fun i=>[(2,fEq (ptr b1)),(5,fI y2),(6,fSl tI i.2.1),(7,fSl tI y3),(8,fI x5),(9,fEq (ptr b2)),(10,fI i.2.2)]) (fun i=>[aA b1 26 [fSl aD a0.AF,fSl aJ a0.AB,fSl aB a0.AD,fI a0.AG],aA b2 65 [fI y5.Op,fI y5.N,fSl aN y5.AX,fSl tI y5.AM]]) (AA,x7,0) H (fun _ h=>nomatch h) ?_
 clear H;rintro k2 ⟨x10,x11⟩ H;dsimp only at H ⊢;rw [lD]at H
 refine aG ?_
 revert H;refine I7z (fun c8 H=>?_) fun c8 H=>?_
 refine Z3 ?_
 refine aG ?_
 revert H;refine B6z fun y9 h9 H=>?_
 revert H;refine B3z fun y10 h10 H=>?_
 refine Tc (aKf _ _ _ _ _ h10) ?_
 revert H;refine B6z fun z1 h11 H=>?_
 refine Z3 ?_
 exact Tm ((k2,y10,z1)) ⟨H,ls⟩
 refine Z7 ?_
 refine aE [0] (by decide) ?_
 exact Tm (x10) (ij H)
 exact fk
 kernel_rfl
 rintro x6 hi;subst o2;replace H:=Hr2;clear Hr2;try dsimp only at H ⊢
 revert H;refine B2z fun z2 h12 H=>?_
 refine Z3 ?_
 exact Tm ((k1,x6,z2)) ⟨H,ls⟩
 refine Z6 ?_
 exact Tm (x4) (ij H)
 rintro x1 hi;subst o1;replace H:=Hr1;clear Hr1;try dsimp only at H ⊢
 refine Z5 ?_
 cases H
 refine aE [] (by decide) ?_
 exact To
def tD (AA:Nat) (a0:AJ) (y6:AN):Nat->(List Int)->Int->Option (List Int)
| 0,_,_=>none
| k+1,x4,x5=>
 if x5<(y6.AQ.length:Int)then
  (idx y6.AQ x5).bind fun y7=>
  (iV AA (⟨a0.AF,a0.AB,a0.AD,a0.AG⟩:AJ) y7.AW).bind fun y8=>
  (cQ (x4++y8)).bind fun z1=>
  (chk (x5+1)).bind fun z2=>
  tD AA a0 y6 k z1 z2
 else
  some x4
def tR (AA:Nat) (a0:AJ) (y6:AN):Nat->(List Int)->Int->Option (List Int)
| 0,_,_=>none
| k+1,x9,x10=>
 if x10<(y6.AS.length:Int)then
  (idx y6.AS x10).bind fun y9=>
  (iV AA (⟨a0.AF,a0.AB,a0.AD,a0.AG⟩:AJ) y9.AW).bind fun y10=>
  (cQ (x9++y10)).bind fun z3=>
  (chk (x10+1)).bind fun z4=>
  tR AA a0 y6 k z3 z4
 else
  some x9
def pW (y4:Int) (x6:List Int):Nat->(List Bool)->Int->Option (List Bool)
| 0,_,_=>none
| k+1,x14,x15=>
 if x15<(x6.length:Int)then
  ((idx x6 x15).bind fun y11=>
  if y11<y4 then
   (idx x6 x15).bind fun y12=>
   (idx x14 y12).bind fun y13=>
   some (x14.set y12.toNat true)
  else
   some x14).bind fun x16=>
  (chk (x15+1)).bind fun z5=>
  pW y4 x6 k x16 z5
 else
  some x14
def tK (y4:Int) (x11:List Bool):Nat->(List Int)->Int->Option (List Int)
| 0,_,_=>none
| k+1,x20,x21=>
 if x21<y4 then
  ((idx x11 x21).bind fun y14=>
  bif y14 then
   (cQ (x20++[x21])).bind fun z6=>
   some z6
  else
   some x20).bind fun x22=>
  (chk (x21+1)).bind fun z7=>
  tK y4 x11 k x22 z7
 else
  some x20
def gK (AA:Nat) (a0:AJ) (a1:Int):Option (List Int):=
 (idx a0.AB a1).bind fun y1=>
 if y1.Op≠4 then
  (iV AA (⟨a0.AF,a0.AB,a0.AD,a0.AG⟩:AJ) a1).bind fun y2=>
  some y2
 else
  (vB AA (⟨a0.AF,a0.AB,a0.AD,a0.AG⟩:AJ)).bind fun y3=>
  (idx y3 a1).bind fun y4=>
  (mk false y4).bind fun y5=>
  (idx a0.AD y1.N).bind fun y6=>
  (tD AA a0 y6 AA [] 0).bind fun x1=>
  (tR AA a0 y6 AA x1 0).bind fun x6=>
  (pW y4 x6 AA y5 0).bind fun x11=>
  (tK y4 x11 AA [] 0).bind fun x17=>
  some x17
theorem aB3 (AA:Nat)  (a0:AJ) (a1:Int) (r:List Int) (H:gK AA a0 a1=some r):FnS Tryz.prog 48 [fSt dQ a0,fI a1] [] (fSl tI r) (fun _=>[]):=by
 unfold gK at H
 refine bB Tryz.func48 rfl Tryz.ntmps48 rfl (fun β=>?_)
 refine Z1 ?_
 refine Tn (bU rfl hh bM) fun b1=>?_
 refine B6 H fun y1 h1 H=>?_
 refine Z2 ?_
 refine Tn (cB rfl jV rfl) fun b2=>?_
 refine cO (φs':=[fI y1.Op,fI y1.N,fSl aN y1.AX,fSl tI y1.AM]) a1F rfl rfl (has rfl) (has rfl) (aI (aF a1F) (aI (aF a1F) (aI (aS) (aI (aS) bN)))) (sz rfl) rfl rfl rfl ?_
 refine Z1 ?_
 refine aG ?_
 refine I5 H (fun c1 H=>?_) fun c1 H=>?_
 refine B4 H fun y2 h2 H=>?_
 refine Tc (aB5 _ _ _ _ h2) ?_
 refine Z3 ?_
 cases H
 refine aE [] (by decide) ?_
 exact To
 refine B5 H fun y3 h3 H=>?_
 refine Tc (aGC _ _ _ h3) ?_
 refine B1 H fun y4 h4 H=>?_
 refine B6 H fun y5 h5 H=>?_
 refine Tn (kH (t:=aR) (z:=false) rfl hh (et rfl) rfl wF rfl h5) fun b3=>?_
 generalize (Value.slice (some ⟨b3,0,none⟩) _ _)=v1
 refine rc 0 fun _=>?_
 refine B7 H fun y6 h6 H=>?_
 refine Z2 ?_
 refine Tn (cB rfl oP rfl) fun b4=>?_
 refine cO (φs':=[fSl aZ y6.AT,fSl aU y6.AS,fSl aY y6.AQ]) a1F rfl rfl (has rfl) (has rfl) (aI (aS) (aI (aS) (aI (aS) bN))) (sz rfl) rfl rfl rfl ?_
 revert H;refine B4z fun o1 H Hr1=>?_
 refine aO (ι:=List Int × Value) (fun i=>o1=i.1) (fun i=>[(2,fEq (ptr b1)),(6,fI y4),(7,fEq v1),(8,fEq (ptr b4)),(9,fEq i.2)]) (fun i=>[aA b4 77 [fSl aZ y6.AT,fSl aU y6.AS,fSl aY y6.AQ],aA b2 65 [fI y1.Op,fI y1.N,fSl aN y1.AX,fSl tI y1.AM],aA b1 26 [fSl aD a0.AF,fSl aJ a0.AB,fSl aB a0.AD,fI a0.AG],aC v1 4 aR y5,aC i.2 3 tI i.1]) ?_ ?_
 refine Z4 ?_
 refine fH tI 3 ?_
 refine aE [1,3,4,2,0] (by decide) ?_
 refine Th (ι:=List Int × Int × Value) (fun i=>tD AA a0 y6 i.1 i.2.1 i.2.2.1=_) (fun i=>[(2,fEq (ptr b1)),(6,fI y4),(7,fEq v1),(8,fEq (ptr b4)),(9,fEq i.2.2.2),(10,fI i.2.2.1)]) (fun i=>[aA b4 77 [fSl aZ y6.AT,fSl aU y6.AS,fSl aY y6.AQ],aA b2 65 [fI y1.Op,fI y1.N,fSl aN y1.AX,fSl tI y1.AM],aA b1 26 [fSl aD a0.AF,fSl aJ a0.AB,fSl aB a0.AD,fI a0.AG],aC v1 4 aR y5,aC i.2.2.2 3 tI i.2.1]) (AA,[],0,(.slice none 0 0)) H (fun _ h=>nomatch h) ?_
 clear H;rintro k1 ⟨x4,x5,v4⟩ H;dsimp only at H ⊢;rw [tD]at H
 refine rc 4 fun _=>?_
 refine aG ?_
 revert H;refine I7z (fun c2 H=>?_) fun c2 H=>?_
 refine Z3 ?_
 refine aG ?_
 revert H;refine B1z fun y7 h7 H=>?_
 revert H;refine bs fun y8 h8 H=>?_
 apply bD (ods:=[_,_,_,_,_,_,_,_,_]) 9 0 5 bC rfl rfl rfl
 refine ND ?_
 refine M8 ?_
 intros
 refine Nc (aB5 _ _ _ _ h8) fun _=>?_
 revert H;refine B1z fun z1 h9 H=>?_
 refine bG ?_
 refine iX (ys:=y8) a1F rfl rfl rfl (has rfl) (has rfl) (et rfl) rfl h9 (fun v5=>?_)
 refine rc 0 fun _=>?_
 revert H;refine B6z fun z2 h10 H=>?_
 refine Z3 ?_
 refine aE [1,2,3,4,0] (by decide) ?_
 exact Tm ((k1,z1,z2,v5)) ⟨H,ls⟩
 exact fk
 kernel_rfl
 refine Z6 ?_
 exact Tm ((x4,v4)) (ij H)
 rintro⟨x1,v2⟩ hi;subst o1;replace H:=Hr1;clear Hr1;try dsimp only at H ⊢
 refine rc 4 fun _=>?_
 revert H;refine bs fun o2 H Hr2=>?_
 refine aO (ι:=List Int × Value) (fun i=>o2=i.1) (fun i=>[(6,fI y4),(7,fEq v1),(9,fEq i.2)]) (fun i=>[aA b4 77 [fSl aZ y6.AT,fSl aU y6.AS,fSl aY y6.AQ],aA b2 65 [fI y1.Op,fI y1.N,fSl aN y1.AX,fSl tI y1.AM],aA b1 26 [fSl aD a0.AF,fSl aJ a0.AB,fSl aB a0.AD,fI a0.AG],aC v1 4 aR y5,aC i.2 3 tI i.1]) ?_ ?_
 refine Z4 ?_
 refine Th (ι:=List Int × Int × Value) (fun i=>tR AA a0 y6 i.1 i.2.1 i.2.2.1=_) (fun i=>[(2,fEq (ptr b1)),(6,fI y4),(7,fEq v1),(8,fEq (ptr b4)),(9,fEq i.2.2.2),(11,fI i.2.2.1)]) (fun i=>[aA b4 77 [fSl aZ y6.AT,fSl aU y6.AS,fSl aY y6.AQ],aA b2 65 [fI y1.Op,fI y1.N,fSl aN y1.AX,fSl tI y1.AM],aA b1 26 [fSl aD a0.AF,fSl aJ a0.AB,fSl aB a0.AD,fI a0.AG],aC v1 4 aR y5,aC i.2.2.2 3 tI i.2.1]) (AA,x1,0,v2) H (fun _ h=>nomatch h) ?_
 clear H;rintro k2 ⟨x9,x10,v8⟩ H;dsimp only at H ⊢;rw [tR]at H
 refine rc 4 fun _=>?_
 refine aG ?_
 revert H;refine I7z (fun c3 H=>?_) fun c3 H=>?_
 refine Z3 ?_
 refine aG ?_
 revert H;refine B1z fun y9 h11 H=>?_
 revert H;refine bs fun y10 h12 H=>?_
 apply bD (ods:=[_,_,_,_,_,_,_,_,_]) 9 0 5 bC rfl rfl rfl
 refine ND ?_
 refine M8 ?_
 intros
 refine Nc (aB5 _ _ _ _ h12) fun _=>?_
 revert H;refine B1z fun z3 h13 H=>?_
 refine bG ?_
 refine iX (ys:=y10) a1F rfl rfl rfl (has rfl) (has rfl) (et rfl) rfl h13 (fun v9=>?_)
 refine rc 0 fun _=>?_
 revert H;refine B6z fun z4 h14 H=>?_
 refine Z3 ?_
 refine aE [1,2,3,4,0] (by decide) ?_
 exact Tm ((k2,z3,z4,v9)) ⟨H,ls⟩
 exact fk
 kernel_rfl
 refine Z6 ?_
 exact Tm ((x9,v8)) (ij H)
 rintro⟨x6,v6⟩ hi;subst o2;replace H:=Hr2;clear Hr2;try dsimp only at H ⊢
 refine rc 4 fun _=>?_
 revert H;refine bs fun o3 H Hr3=>?_
 refine aO (fun i=>o3=i) (fun i=>[(6,fI y4),(7,fEq v1)]) (fun i=>[aA b4 77 [fSl aZ y6.AT,fSl aU y6.AS,fSl aY y6.AQ],aA b2 65 [fI y1.Op,fI y1.N,fSl aN y1.AX,fSl tI y1.AM],aA b1 26 [fSl aD a0.AF,fSl aJ a0.AB,fSl aB a0.AD,fI a0.AG],aC v1 4 aR i]) ?_ ?_
 refine Z4 ?_
 refine Th (ι:=List Bool × Int) (fun i=>pW y4 x6 i.1 i.2.1 i.2.2=_) (fun i=>[(6,fI y4),(7,fEq v1),(9,fEq v6),(12,fI i.2.2)]) (fun i=>[aA b4 77 [fSl aZ y6.AT,fSl aU y6.AS,fSl aY y6.AQ],aA b2 65 [fI y1.Op,fI y1.N,fSl aN y1.AX,fSl tI y1.AM],aA b1 26 [fSl aD a0.AF,fSl aJ a0.AB,fSl aB a0.AD,fI a0.AG],aC v1 4 aR i.2.1,aC v6 3 tI x6]) (AA,y5,0) H (fun _ h=>nomatch h) ?_
 clear H;rintro k3 ⟨x14,x15⟩ H;dsimp only at H ⊢;rw [pW]at H
 refine aG ?_
 revert H;refine I6z (fun c4 H=>?_) fun c4 H=>?_
 revert H;refine B3z fun o4 H Hr4=>?_
 refine aO (fun i=>o4=i) (fun i=>[(6,fI y4),(7,fEq v1),(9,fEq v6),(12,fI x15)]) (fun i=>[aA b4 77 [fSl aZ y6.AT,fSl aU y6.AS,fSl aY y6.AQ],aA b2 65 [fI y1.Op,fI y1.N,fSl aN y1.AX,fSl tI y1.AM],aA b1 26 [fSl aD a0.AF,fSl aJ a0.AB,fSl aB a0.AD,fI a0.AG],aC v1 4 aR i,aC v6 3 tI x6]) ?_ ?_
 revert H;refine B4z fun y11 h15 H=>?_
 refine Yo 4 rfl (jO rfl hh hh (el rfl) h15) ?_
 refine Yo 4 rfl (iA rfl rfl hh (sc rfl) (dN h15) rfl) ?_
 revert H;refine I3z (fun c5 H=>?_) fun c5 H=>?_
 revert H;refine B5z fun y12 h16 H=>?_
 refine Z1 ?_
 refine Yo 4 rfl (iA rfl rfl hh (sc rfl) (dN h16) rfl) ?_
 revert H;refine bs fun y13 h17 H=>?_
 refine Z1 ?_
 refine cZ ?_
 refine wO (z':=true) a1F rfl rfl rfl (has rfl) (has rfl) (aF a1F) (sz rfl) (dN h17) rfl rfl ?_
 refine Z3 ?_
 refine aE [1,2,3,0,4] (by decide) ?_
 exact Tm (x14.set y12.toNat true) (ij H)
 refine Z4 ?_
 exact Tm (x14) (ij H)
 rintro x16 hi;subst o4;replace H:=Hr4;clear Hr4;try dsimp only at H ⊢
 revert H;refine B2z fun z5 h18 H=>?_
 refine Z3 ?_
 exact Tm ((k3,x16,z5)) ⟨H,ls⟩
 refine Z6 ?_
 refine aE [0,1,2,3] (by decide) ?_
 exact Tm (x14) (ij H)
 rintro x11 hi;subst o3;replace H:=Hr3;clear Hr3;try dsimp only at H ⊢
 revert H;refine B3z fun o5 H Hr5=>?_
 refine aO (ι:=List Int × Value) (fun i=>o5=i.1) (fun i=>[(13,fEq i.2)]) (fun i=>[aA b4 77 [fSl aZ y6.AT,fSl aU y6.AS,fSl aY y6.AQ],aA b2 65 [fI y1.Op,fI y1.N,fSl aN y1.AX,fSl tI y1.AM],aA b1 26 [fSl aD a0.AF,fSl aJ a0.AB,fSl aB a0.AD,fI a0.AG],aC i.2 3 tI i.1]) ?_ ?_
 refine Z4 ?_
 refine fH tI 3 ?_
 refine aE [1,2,3,4,0] (by decide) ?_
 refine Th (ι:=List Int × Int × Value) (fun i=>tK y4 x11 i.1 i.2.1 i.2.2.1=_) (fun i=>[(6,fI y4),(7,fEq v1),(13,fEq i.2.2.2),(14,fI i.2.2.1)]) (fun i=>[aA b4 77 [fSl aZ y6.AT,fSl aU y6.AS,fSl aY y6.AQ],aA b2 65 [fI y1.Op,fI y1.N,fSl aN y1.AX,fSl tI y1.AM],aA b1 26 [fSl aD a0.AF,fSl aJ a0.AB,fSl aB a0.AD,fI a0.AG],aC v1 4 aR x11,aC i.2.2.2 3 tI i.2.1]) (AA,[],0,(.slice none 0 0)) H (fun _ h=>nomatch h) ?_
 clear H;rintro k4 ⟨x20,x21,v12⟩ H;dsimp only at H ⊢;rw [tK]at H
 refine rc 4 fun _=>?_
 refine aG ?_
 revert H;refine I5z (fun c6 H=>?_) fun c6 H=>?_
 revert H;refine B3z fun o6 H Hr6=>?_
 refine aO (ι:=List Int × Value) (fun i=>o6=i.1) (fun i=>[(6,fI y4),(7,fEq v1),(14,fI x21),(13,fEq i.2)]) (fun i=>[aA b4 77 [fSl aZ y6.AT,fSl aU y6.AS,fSl aY y6.AQ],aA b2 65 [fI y1.Op,fI y1.N,fSl aN y1.AX,fSl tI y1.AM],aA b1 26 [fSl aD a0.AF,fSl aJ a0.AB,fSl aB a0.AD,fI a0.AG],aC v1 4 aR x11,aC i.2 3 tI i.1]) ?_ ?_
 revert H;refine B4z fun y14 h19 H=>?_
 refine Z1 ?_
 refine Yo 3 rfl (iA rfl rfl hh (sc rfl) (dN h19) rfl) ?_
 refine Z1 ?_
 revert H;refine cs (fun c7 H=>?_) fun c7 H=>?_
 refine Z4 ?_
 refine Tn (eQ (t:=tI) (xs:=[x21]) rfl (et rfl) (bY.cons rfl (has rfl) (cL (aF a1F)) bY.nil) rfl rfl rfl) fun b5=>?_
 generalize (Value.slice (some ⟨b5,0,none⟩) _ _)=v14
 refine rc 0 fun _=>?_
 revert H;refine bs fun z6 h20 H=>?_
 refine cP ?_
 refine bH ?_
 refine gH a1F rfl rfl rfl (has rfl) (has rfl) (et rfl) rfl h20 (fun v15=>?_)
 refine rc 0 fun _=>?_
 refine Z4 ?_
 refine aE [1,2,3,4,0] (by decide) ?_
 exact Tm ((z6,v15)) (ij H)
 refine Z4 ?_
 exact Tm ((x20,v12)) (ij H)
 rintro⟨x22,v13⟩ hi;subst o6;replace H:=Hr6;clear Hr6;try dsimp only at H ⊢
 refine rc 4 fun _=>?_
 revert H;refine B2z fun z7 h21 H=>?_
 refine Z3 ?_
 exact Tm ((k4,x22,z7,v13)) ⟨H,ls⟩
 refine Z6 ?_
 refine aE [0,1,2,4] (by decide) ?_
 exact Tm ((x20,v12)) (ij H)
 rintro⟨x17,v10⟩ hi;subst o5;replace H:=Hr5;clear Hr5;try dsimp only at H ⊢
 refine rc 3 fun _=>?_
 refine Z5 ?_
 refine cZ ?_
 refine bT (φ:=fSl tI x17) (v:=v10) [13,104,4] cM fz ?_
 refine bQ ?_
 cases H
 refine aE [] (by decide) ?_
 exact To
def qY (AA:Nat) (a0:AH) (y1:Ag × Bool):Nat->Int->Int->Option (Int)
| 0,_,_=>none
| k+1,x4,x5=>
 if x5<(a0.AB.length:Int)then
  ((idx a0.AB x5).bind fun y3=>
  if y3.Op=4 then
   (idx y1.1.AU x5).bind fun y4=>
   (chk (x4+(y4.length:Int))).bind fun z2=>
   (gK AA y1.1.p x5).bind fun y5=>
   (chk (z2 - (y5.length:Int))).bind fun z3=>
   some z3
  else
   if y3.Op=6 then
    (idx y1.1.AU x5).bind fun y6=>
    (chk (x4+(y6.length:Int))).bind fun z4=>
    (gK AA y1.1.p x5).bind fun y7=>
    (chk (z4 - (y7.length:Int))).bind fun z5=>
    some z5
   else
    if y3.Op=7 then
     (idx y1.1.AU x5).bind fun y8=>
     (chk (x4+(y8.length:Int))).bind fun z6=>
     (gK AA y1.1.p x5).bind fun y9=>
     (chk (z6 - (y9.length:Int))).bind fun z7=>
     some z7
    else
     if y3.Op=8 then
      (idx y1.1.AU x5).bind fun y10=>
      (chk (x4+(y10.length:Int))).bind fun z8=>
      (gK AA y1.1.p x5).bind fun y11=>
      (chk (z8 - (y11.length:Int))).bind fun z9=>
      some z9
     else
      some x4).bind fun x6=>
  (chk (x5+1)).bind fun z10=>
  qY AA a0 y1 k x6 z10
 else
  some x4
def tW (AA:Nat) (a0:AH):Option (Int × Int):=
 (uG AA (⟨a0.AF,a0.AI,a0.AB,a0.AD,a0.AG⟩:AH)).bind fun y1=>
 bif y1.2 then
  (iV AA y1.1.p y1.1.p.AG).bind fun y2=>
  (chk ((a0.AI.length:Int) - (y2.length:Int))).bind fun z1=>
  (qY AA a0 y1 AA z1 0).bind fun x1=>
  some (x1,0)
 else
  some (0,2)
theorem aJW (AA:Nat)  (a0:AH) (r:Int × Int) (H:tW AA a0=some r):FnS Tryz.prog 14 [fSt jB a0] [] (dB [fI r.1,fI r.2]) (fun _=>[]):=by
 unfold tW at H
 refine bB Tryz.func14 rfl Tryz.ntmps14 rfl (fun β=>?_)
 refine Z1 ?_
 refine Tn (bU rfl hh bM) fun b1=>?_
 refine B5 H fun y1 h1 H=>?_
 refine Tc (aEC _ _ _ h1) ?_
 refine Z6 ?_
 refine aG ?_
 refine Z4 ?_
 refine cz H (fun c1 H=>?_) fun c1 H=>?_
 refine Z3 ?_
 refine aG ?_
 refine bz H fun y2 h2 H=>?_
 refine bz H fun z1 h3 H=>?_
 apply bD (ods:=[_,_,_,_,_,_,_,_,_,_,_,_,_,_,_,_]) 16 0 1 bC rfl rfl rfl
 refine ND ?_
 refine M8 ?_
 intros
 refine M4 ?_
 intros
 refine Nc (aB5 _ _ _ _ h2) fun _=>?_
 refine M3 ?_
 intros
 revert H;refine B2z fun o1 H Hr1=>?_
 refine aO (fun i=>o1=i) (fun i=>[(6,fI i)]) (fun i=>[aA b1 30 [fSl aD a0.AF,fSl tI a0.AI,fSl aW a0.AB,fSl aB a0.AD,fI a0.AG]]) ?_ ?_
 refine Z4 ?_
 refine Th (ι:=Int × Int) (fun i=>qY AA a0 y1 i.1 i.2.1 i.2.2=_) (fun i=>[(1,fEq (ptr b1)),(4,aL nM y1.1),(6,fI i.2.1),(7,fI i.2.2)]) (fun i=>[aA b1 30 [fSl aD a0.AF,fSl tI a0.AI,fSl aW a0.AB,fSl aB a0.AD,fI a0.AG]]) (AA,z1,0) H (fun _ h=>nomatch h) ?_
 clear H;rintro k1 ⟨x4,x5⟩ H;dsimp only at H ⊢;rw [qY]at H
 refine aG ?_
 revert H;refine I7z (fun c2 H=>?_) fun c2 H=>?_
 revert H;refine B3z fun o2 H Hr2=>?_
 refine aO (fun i=>o2=i) (fun i=>[(1,fEq (ptr b1)),(4,aL nM y1.1),(6,fI i),(7,fI x5)]) (fun i=>[aA b1 30 [fSl aD a0.AF,fSl tI a0.AI,fSl aW a0.AB,fSl aB a0.AD,fI a0.AG]]) ?_ ?_
 revert H;refine B5z fun y3 h4 H=>?_
 revert H;refine I9z (fun c3 H=>?_) fun c3 H=>?_
 refine Z12 ?_
 revert H;refine B1z fun y4 h5 H=>?_
 revert H;refine bs fun z2 h6 H=>?_
 revert H;refine bs fun y5 h7 H=>?_
 revert H;refine bs fun z3 h8 H=>?_
 apply bD (ods:=[_,_,_,_,_,_,_,_,_,_,_,_,_,_,_,_,_,_,_]) 19 0 1 bC rfl rfl rfl
 refine ND ?_
 refine M6 ?_
 intros
 refine My (cT rfl hh hh (el rfl) h5) fun _=>?_
 refine M8 ?_
 intros
 refine Nc (aB3 _ _ _ _ h7) fun _=>?_
 refine M3 ?_
 intros
 refine Z4 ?_
 exact Tm (z3) (ij H)
 exact fk
 kernel_rfl
 revert H;refine I4z (fun c4 H=>?_) fun c4 H=>?_
 revert H;refine B9z fun y6 h9 H=>?_
 revert H;refine bs fun z4 h10 H=>?_
 revert H;refine bs fun y7 h11 H=>?_
 revert H;refine bs fun z5 h12 H=>?_
 apply bD (ods:=[_,_,_,_,_,_,_,_,_,_,_,_,_,_,_,_,_,_,_]) 19 0 1 bC rfl rfl rfl
 refine ND ?_
 refine M6 ?_
 intros
 refine My (cT rfl hh hh (el rfl) h9) fun _=>?_
 refine M8 ?_
 intros
 refine Nc (aB3 _ _ _ _ h11) fun _=>?_
 refine M3 ?_
 intros
 refine Z4 ?_
 exact Tm (z5) (ij H)
 exact fk
 kernel_rfl
 revert H;refine I4z (fun c5 H=>?_) fun c5 H=>?_
 revert H;refine B5z fun y8 h13 H=>?_
 revert H;refine bs fun z6 h14 H=>?_
 revert H;refine bs fun y9 h15 H=>?_
 revert H;refine bs fun z7 h16 H=>?_
 apply bD (ods:=[_,_,_,_,_,_,_,_,_,_,_,_,_,_,_,_,_,_,_]) 19 0 1 bC rfl rfl rfl
 refine ND ?_
 refine M6 ?_
 intros
 refine My (cT rfl hh hh (el rfl) h13) fun _=>?_
 refine M8 ?_
 intros
 refine Nc (aB3 _ _ _ _ h15) fun _=>?_
 refine M3 ?_
 intros
 refine Z4 ?_
 exact Tm (z7) (ij H)
 exact fk
 kernel_rfl
 revert H;refine I4z (fun c6 H=>?_) fun c6 H=>?_
 revert H;refine B1z fun y10 h17 H=>?_
 revert H;refine bs fun z8 h18 H=>?_
 revert H;refine bs fun y11 h19 H=>?_
 revert H;refine bs fun z9 h20 H=>?_
 apply bD (ods:=[_,_,_,_,_,_,_,_,_,_,_,_,_,_,_,_,_,_,_]) 19 0 1 bC rfl rfl rfl
 refine ND ?_
 refine M8 ?_
 intros
 refine M7 ?_
 intros
 refine Nc (aB3 _ _ _ _ h19) fun _=>?_
 refine M3 ?_
 intros
 refine Z4 ?_
 exact Tm (z9) (ij H)
 exact fk
 kernel_rfl
 refine Z4 ?_
 exact Tm (x4) (ij H)
 rintro x6 hi;subst o2;replace H:=Hr2;clear Hr2;try dsimp only at H ⊢
 revert H;refine B2z fun z10 h21 H=>?_
 refine Z3 ?_
 exact Tm ((k1,x6,z10)) ⟨H,ls⟩
 refine Z6 ?_
 exact Tm (x4) (ij H)
 rintro x1 hi;subst o1;replace H:=Hr1;clear Hr1;try dsimp only at H ⊢
 refine Z6 ?_
 cases H
 refine aE [] (by decide) ?_
 exact gU rfl (bO rfl) (bO rfl) rfl
 exact fk
 kernel_rfl
 refine Z6 ?_
 cases H
 refine aE [] (by decide) ?_
 exact gU rfl (bO rfl) (bO rfl) rfl
def tJ (a0:List Int) (a1:List Int):Nat->Int->Option ((Unit) ⊕ (Bool))
| 0,_=>none
| k+1,x2=>
 if x2<(a0.length:Int)then
  (idx a0 x2).bind fun y1=>
  (idx a1 x2).bind fun y2=>
  if y1≠y2 then
   (some false).bind fun r=>some (Sum.inr r)
  else
   (chk (x2+1)).bind fun z1=>
   tJ a0 a1 k z1
 else
  some (Sum.inl ())
def xC (AA:Nat) (a0:List Int) (a1:List Int):Option (Bool):=
 if (a0.length:Int)≠(a1.length:Int)then
  some false
 else
  (tJ a0 a1 AA 0).bind fun o=>match o with
  | Sum.inr r=>some r
  | Sum.inl _=>
  some true
theorem aF1 (AA:Nat)  (a0:List Int) (a1:List Int) (r:Bool) (H:xC AA a0 a1=some r):FnS Tryz.prog 37 [fSl tI a0,fSl tI a1] [] (aH r) (fun _=>[]):=by
 unfold xC at H
 refine bB Tryz.func37 rfl Tryz.ntmps37 rfl (fun β=>?_)
 refine Z3 ?_
 refine aG ?_
 refine I7 H (fun c1 H=>?_) fun c1 H=>?_
 refine Z5 ?_
 cases H
 exact To
 revert H;refine B3z fun o1 H Hr1=>?_
 refine aO (ι:=Unit) (fun i=>o1=Sum.inl ()) (fun i=>[]) (fun i=>[]) ?_ ?_
 refine Z4 ?_
 refine Th (ι:=Int) (fun i=>tJ a0 a1 i.1 i.2=_) (fun i=>[(0,fSl tI a0),(1,fSl tI a1),(5,fI i.2)]) (fun i=>[]) (AA,0) H (fun _ h=>nomatch h) ?_
 clear H;rintro k1 x2 H;dsimp only at H ⊢;rw [tJ]at H
 refine aG ?_
 revert H;refine I6z (fun c2 H=>?_) fun c2 H=>?_
 refine Z3 ?_
 refine aG ?_
 refine Z1 ?_
 refine aG ?_
 revert H;refine bs fun y1 h1 H=>?_
 revert H;refine bs fun y2 h2 H=>?_
 apply bD (ods:=[_,_,_,_,_,_,_,_,_]) 9 0 0 bC rfl rfl rfl
 refine ND ?_
 refine M8 ?_
 intros
 refine M1 ?_
 intros
 revert H;refine I2z (fun c3 H=>?_) fun c3 H=>?_
 revert H;refine dS fun r1 H e1=>?_
 cases e1;cases Hr1
 cases H
 exact To
 revert H;refine B6z fun z1 h3 H=>?_
 refine Z3 ?_
 exact Tm ((k1,z1)) ⟨H,ls⟩
 exact fk
 kernel_rfl
 refine Z6 ?_
 exact Tm (()) (ij H)
 rintro i hi;subst o1;replace H:=Hr1;clear Hr1;try dsimp only at H ⊢
 refine Z4 ?_
 cases H
 exact To
open Go.SX Go.SW Go.Dt
def rB (a0:AN) (a1:AN):Nat->Int->Option ((Unit) ⊕ (Bool))
| 0,_=>none
| k+1,x2=>
 if x2<(a0.AT.length:Int)then
  (idx a0.AT x2).bind fun y1=>
  (idx a1.AT x2).bind fun y2=>
  bif decide (y1.At=y2.At) && decide (y1.Ar=y2.Ar)then
   (chk (x2+1)).bind fun z1=>
   rB a0 a1 k z1
  else
   (some false).bind fun r=>some (Sum.inr r)
 else
  some (Sum.inl ())
def rJ (a0:AN) (a1:AN):Nat->Int->Option ((Unit) ⊕ (Bool))
| 0,_=>none
| k+1,x4=>
 if x4<(a0.AS.length:Int)then
  (idx a0.AS x4).bind fun y3=>
  (idx a1.AS x4).bind fun y4=>
  bif decide (y3.In=y4.In) && decide (y3.AW=y4.AW)then
   (chk (x4+1)).bind fun z2=>
   rJ a0 a1 k z2
  else
   (some false).bind fun r=>some (Sum.inr r)
 else
  some (Sum.inl ())
def rW (AA:Nat) (a0:AN) (a1:AN):Nat->Int->Option ((Unit) ⊕ (Bool))
| 0,_=>none
| k+1,x6=>
 if x6<(a0.AQ.length:Int)then
  (idx a0.AQ x6).bind fun y5=>
  (idx a1.AQ x6).bind fun y6=>
  if y5.At≠y6.At then
   (some false).bind fun r=>some (Sum.inr r)
  else
   (idx a0.AQ x6).bind fun y7=>
   (idx a1.AQ x6).bind fun y8=>
   if y7.AW≠y8.AW then
    (some false).bind fun r=>some (Sum.inr r)
   else
    (idx a0.AQ x6).bind fun y9=>
    (idx a1.AQ x6).bind fun y10=>
    (xC AA y9.Ad y10.Ad).bind fun y11=>
    bif y11 then
     (chk (x6+1)).bind fun z3=>
     rW AA a0 a1 k z3
    else
     (some false).bind fun r=>some (Sum.inr r)
 else
  some (Sum.inl ())
def aAh (AA:Nat) (a0:AN) (a1:AN):Option (Bool):=
 if (a0.AT.length:Int)≠(a1.AT.length:Int)then
  some false
 else
  if (a0.AS.length:Int)≠(a1.AS.length:Int)then
   some false
  else
   if (a0.AQ.length:Int)≠(a1.AQ.length:Int)then
    some false
   else
    (rB a0 a1 AA 0).bind fun o=>match o with
    | Sum.inr r=>some r
    | Sum.inl _=>
    (rJ a0 a1 AA 0).bind fun o=>match o with
    | Sum.inr r=>some r
    | Sum.inl _=>
    (rW AA a0 a1 AA 0).bind fun o=>match o with
    | Sum.inr r=>some r
    | Sum.inl _=>
    some true
theorem aLN (AA:Nat)  (a0:AN) (a1:AN) (r:Bool) (H:aAh AA a0 a1=some r):FnS Tryz.prog 38 [fSt aB a0,fSt aB a1] [] (aH r) (fun _=>[]):=by
 unfold aAh at H
 refine bB Tryz.func38 rfl Tryz.ntmps38 rfl (fun β=>?_)
 refine Z1 ?_
 refine Tn (bU rfl hh bM) fun b1=>?_
 refine Tn (bU rfl hh bM) fun b2=>?_
 refine Z2 ?_
 refine aG ?_
 refine I9 H (fun c1 H=>?_) fun c1 H=>?_
 refine Z12 ?_
 refine Z11 ?_
 cases H
 refine aE [] (by decide) ?_
 exact To
 refine I9 H (fun c2 H=>?_) fun c2 H=>?_
 refine Z12 ?_
 refine Z2 ?_
 cases H
 refine aE [] (by decide) ?_
 exact To
 refine I9 H (fun c3 H=>?_) fun c3 H=>?_
 refine Z5 ?_
 cases H
 refine aE [] (by decide) ?_
 exact To
 revert H;refine B3z fun o1 H Hr1=>?_
 refine aO (ι:=Unit) (fun i=>o1=Sum.inl ()) (fun i=>[(2,fEq (ptr b1)),(3,fEq (ptr b2))]) (fun i=>[aA b2 77 [fSl aZ a1.AT,fSl aU a1.AS,fSl aY a1.AQ],aA b1 77 [fSl aZ a0.AT,fSl aU a0.AS,fSl aY a0.AQ]]) ?_ ?_
 refine Z4 ?_
 refine Th (ι:=Int) (fun i=>rB a0 a1 i.1 i.2=_) (fun i=>[(2,fEq (ptr b1)),(3,fEq (ptr b2)),(5,fI i.2)]) (fun i=>[aA b2 77 [fSl aZ a1.AT,fSl aU a1.AS,fSl aY a1.AQ],aA b1 77 [fSl aZ a0.AT,fSl aU a0.AS,fSl aY a0.AQ]]) (AA,0) H (fun _ h=>nomatch h) ?_
 clear H;rintro k1 x2 H;dsimp only at H ⊢;rw [rB]at H
 refine aG ?_
 revert H;refine I7z (fun c4 H=>?_) fun c4 H=>?_
 refine Z3 ?_
 refine aG ?_
 refine Z1 ?_
 refine aG ?_
 revert H;refine bs fun y1 h1 H=>?_
 revert H;refine bs fun y2 h2 H=>?_
 apply bD (ods:=[_,_,_,_,_,_,_,_,_,_,_]) 11 0 2 bC rfl rfl rfl
 refine ND ?_
 refine M8 ?_
 intros
 refine M2 ?_
 intros
 refine My (aFB rfl hh hh rfl rfl aJ4) fun _=>?_
 refine Z2 ?_
 revert H;refine cs (fun c5 H=>?_) fun c5 H=>?_
 revert H;refine B6z fun z1 h3 H=>?_
 refine Z3 ?_
 exact Tm ((k1,z1)) ⟨H,ls⟩
 revert H;refine dS fun r1 H e1=>?_
 cases e1;cases Hr1
 cases H
 refine aE [] (by decide) ?_
 exact To
 exact fk
 kernel_rfl
 refine Z6 ?_
 exact Tm (()) (ij H)
 rintro i hi;subst o1;replace H:=Hr1;clear Hr1;try dsimp only at H ⊢
 revert H;refine bs fun o2 H Hr2=>?_
 refine aO (ι:=Unit) (fun i=>o2=Sum.inl ()) (fun i=>[(2,fEq (ptr b1)),(3,fEq (ptr b2))]) (fun i=>[aA b2 77 [fSl aZ a1.AT,fSl aU a1.AS,fSl aY a1.AQ],aA b1 77 [fSl aZ a0.AT,fSl aU a0.AS,fSl aY a0.AQ]]) ?_ ?_
 refine Z4 ?_
 refine Th (ι:=Int) (fun i=>rJ a0 a1 i.1 i.2=_) (fun i=>[(2,fEq (ptr b1)),(3,fEq (ptr b2)),(6,fI i.2)]) (fun i=>[aA b2 77 [fSl aZ a1.AT,fSl aU a1.AS,fSl aY a1.AQ],aA b1 77 [fSl aZ a0.AT,fSl aU a0.AS,fSl aY a0.AQ]]) (AA,0) H (fun _ h=>nomatch h) ?_
 clear H;rintro k2 x4 H;dsimp only at H ⊢;rw [rJ]at H
 refine aG ?_
 revert H;refine I7z (fun c6 H=>?_) fun c6 H=>?_
 refine Z3 ?_
 refine aG ?_
 refine Z1 ?_
 refine aG ?_
 revert H;refine bs fun y3 h4 H=>?_
 revert H;refine bs fun y4 h5 H=>?_
 apply bD (ods:=[_,_,_,_,_,_,_,_,_,_,_]) 11 0 2 bC rfl rfl rfl
 refine ND ?_
 refine M8 ?_
 intros
 refine M2 ?_
 intros
 refine My (aFB rfl hh hh rfl rfl aH3) fun _=>?_
 refine Z2 ?_
 revert H;refine cs (fun c7 H=>?_) fun c7 H=>?_
 revert H;refine B6z fun z2 h6 H=>?_
 refine Z3 ?_
 exact Tm ((k2,z2)) ⟨H,ls⟩
 revert H;refine dS fun r2 H e2=>?_
 cases e2;cases Hr2
 cases H
 refine aE [] (by decide) ?_
 exact To
 exact fk
 kernel_rfl
 refine Z6 ?_
 exact Tm (()) (ij H)
 rintro i hi;subst o2;replace H:=Hr2;clear Hr2;try dsimp only at H ⊢
 revert H;refine bs fun o3 H Hr3=>?_
 refine aO (ι:=Unit) (fun i=>o3=Sum.inl ()) (fun i=>[]) (fun i=>[aA b2 77 [fSl aZ a1.AT,fSl aU a1.AS,fSl aY a1.AQ],aA b1 77 [fSl aZ a0.AT,fSl aU a0.AS,fSl aY a0.AQ]]) ?_ ?_
 refine Z4 ?_
 refine Th (ι:=Int) (fun i=>rW AA a0 a1 i.1 i.2=_) (fun i=>[(2,fEq (ptr b1)),(3,fEq (ptr b2)),(7,fI i.2)]) (fun i=>[aA b2 77 [fSl aZ a1.AT,fSl aU a1.AS,fSl aY a1.AQ],aA b1 77 [fSl aZ a0.AT,fSl aU a0.AS,fSl aY a0.AQ]]) (AA,0) H (fun _ h=>nomatch h) ?_
 clear H;rintro k3 x6 H;dsimp only at H ⊢;rw [rW]at H
 refine aG ?_
 revert H;refine I7z (fun c8 H=>?_) fun c8 H=>?_
 refine Z3 ?_
 refine aG ?_
 refine Z1 ?_
 refine aG ?_
 revert H;refine bs fun y5 h7 H=>?_
 revert H;refine bs fun y6 h8 H=>?_
 revert H;refine is (fun c9 H=>?_) fun c9 H=>?_
 apply bD (ods:=[_,_,_,_,_,_,_,_,_,_,_,_,_,_,_,_,_,_,_,_,_,_,_,_,_,_,_,_,_,_,_,_,_,_,_,_,_,_,_,_,_,_,_,_]) 44 0 2 bC rfl rfl rfl
 refine ND ?_
 refine M3 ?_
 intros
 refine My (cT rfl hh hh (el rfl) h7) fun _=>?_
 refine M5 ?_
 intros
 refine My (cT rfl hh hh (el rfl) h8) fun _=>?_
 refine M8 ?_
 intros
 refine M8 ?_
 intros
 refine M8 ?_
 intros
 refine M8 ?_
 intros
 refine M2 ?_
 intros
 revert H;refine B12z fun r3 H e3=>?_
 cases e3;cases Hr3
 cases H
 refine aE [] (by decide) ?_
 exact To
 exact fk
 kernel_rfl
 revert H;refine bs fun y7 h9 H=>?_
 revert H;refine bs fun y8 h10 H=>?_
 revert H;refine is (fun c10 H=>?_) fun c10 H=>?_
 apply bD (ods:=[_,_,_,_,_,_,_,_,_,_,_,_,_,_,_,_,_,_,_,_,_,_,_,_,_,_,_,_,_,_,_,_,_,_,_,_,_,_,_,_,_,_,_,_]) 44 0 2 bC rfl rfl rfl
 refine ND ?_
 refine M3 ?_
 intros
 refine My (cT rfl hh hh (el rfl) h7) fun _=>?_
 refine M5 ?_
 intros
 refine My (cT rfl hh hh (el rfl) h8) fun _=>?_
 refine M7 ?_
 intros
 refine Mg c9 (cT rfl hh hh (el rfl) h9) fun _=>?_
 refine M5 ?_
 intros
 refine Mg c9 (cT rfl hh hh (el rfl) h10) fun _=>?_
 refine M8 ?_
 intros
 refine M8 ?_
 intros
 refine M4 ?_
 intros
 revert H;refine B12z fun r4 H e4=>?_
 cases e4;cases Hr3
 cases H
 refine aE [] (by decide) ?_
 exact To
 exact fk
 kernel_rfl
 revert H;refine bs fun y9 h11 H=>?_
 revert H;refine bs fun y10 h12 H=>?_
 revert H;refine bs fun y11 h13 H=>?_
 apply bD (ods:=[_,_,_,_,_,_,_,_,_,_,_,_,_,_,_,_,_,_,_,_,_,_,_,_,_,_,_,_,_,_,_,_,_,_,_,_,_,_,_,_,_,_,_,_]) 44 0 2 bC rfl rfl rfl
 refine ND ?_
 refine M3 ?_
 intros
 refine My (cT rfl hh hh (el rfl) h7) fun _=>?_
 refine M5 ?_
 intros
 refine My (cT rfl hh hh (el rfl) h8) fun _=>?_
 refine M7 ?_
 intros
 refine Mg c9 (cT rfl hh hh (el rfl) h9) fun _=>?_
 refine M5 ?_
 intros
 refine Mg c9 (cT rfl hh hh (el rfl) h10) fun _=>?_
 refine M8 ?_
 intros
 refine M8 ?_
 intros
 refine M1 ?_
 intros
 refine Nc (aF1 _ _ _ _ h13) fun _=>?_
 refine M2 ?_
 intros
 refine Z2 ?_
 revert H;refine cs (fun c11 H=>?_) fun c11 H=>?_
 revert H;refine B6z fun z3 h14 H=>?_
 refine Z3 ?_
 exact Tm ((k3,z3)) ⟨H,ls⟩
 revert H;refine dS fun r5 H e5=>?_
 cases e5;cases Hr3
 cases H
 refine aE [] (by decide) ?_
 exact To
 exact fk
 kernel_rfl
 refine Z6 ?_
 exact Tm (()) (ij H)
 rintro i hi;subst o3;replace H:=Hr3;clear Hr3;try dsimp only at H ⊢
 refine Z4 ?_
 cases H
 refine aE [] (by decide) ?_
 exact To
def rK (a0:List ByteArray) (a1:List ByteArray):Nat->Int->Option ((Unit) ⊕ (Bool))
| 0,_=>none
| k+1,x2=>
 if x2<(a0.length:Int)then
  (idx a0 x2).bind fun y1=>
  (idx a1 x2).bind fun y2=>
  if y1≠y2 then
   (some false).bind fun r=>some (Sum.inr r)
  else
   (chk (x2+1)).bind fun z1=>
   rK a0 a1 k z1
 else
  some (Sum.inl ())
def xQ (AA:Nat) (a0:List ByteArray) (a1:List ByteArray):Option (Bool):=
 if (a0.length:Int)≠(a1.length:Int)then
  some false
 else
  (rK a0 a1 AA 0).bind fun o=>match o with
  | Sum.inr r=>some r
  | Sum.inl _=>
  some true
theorem aKp (AA:Nat)  (a0:List ByteArray) (a1:List ByteArray) (r:Bool) (H:xQ AA a0 a1=some r):FnS Tryz.prog 49 [fSl aD a0,fSl aD a1] [] (aH r) (fun _=>[]):=by
 unfold xQ at H
 refine bB Tryz.func49 rfl Tryz.ntmps49 rfl (fun β=>?_)
 refine Z3 ?_
 refine aG ?_
 refine I7 H (fun c1 H=>?_) fun c1 H=>?_
 refine Z5 ?_
 cases H
 exact To
 revert H;refine B3z fun o1 H Hr1=>?_
 refine aO (ι:=Unit) (fun i=>o1=Sum.inl ()) (fun i=>[]) (fun i=>[]) ?_ ?_
 refine Z4 ?_
 refine Th (ι:=Int) (fun i=>rK a0 a1 i.1 i.2=_) (fun i=>[(0,fSl aD a0),(1,fSl aD a1),(5,fI i.2)]) (fun i=>[]) (AA,0) H (fun _ h=>nomatch h) ?_
 clear H;rintro k1 x2 H;dsimp only at H ⊢;rw [rK]at H
 refine aG ?_
 revert H;refine I6z (fun c2 H=>?_) fun c2 H=>?_
 refine Z3 ?_
 refine aG ?_
 refine Z1 ?_
 refine aG ?_
 revert H;refine bs fun y1 h1 H=>?_
 revert H;refine bs fun y2 h2 H=>?_
 apply bD (ods:=[_,_,_,_,_,_,_,_,_]) 9 0 0 bC rfl rfl rfl
 refine ND ?_
 refine M8 ?_
 intros
 refine My (o_neqS rfl hh hh) fun _=>?_
 revert H;refine I2z (fun c3 H=>?_) fun c3 H=>?_
 revert H;refine dS fun r1 H e1=>?_
 cases e1;cases Hr1
 cases H
 exact To
 revert H;refine B6z fun z1 h3 H=>?_
 refine Z3 ?_
 exact Tm ((k1,z1)) ⟨H,ls⟩
 exact fk
 kernel_rfl
 refine Z6 ?_
 exact Tm (()) (ij H)
 rintro i hi;subst o1;replace H:=Hr1;clear Hr1;try dsimp only at H ⊢
 refine Z4 ?_
 cases H
 exact To
def qG (rec_r03_sameExp:AV->AV->Option (Bool)) (a0:AV) (a1:AV):Nat->Int->Option ((Unit) ⊕ (Bool))
| 0,_=>none
| k+1,x2=>
 if x2<(a0.AM.length:Int)then
  (idx a0.AM x2).bind fun y1=>
  (idx a1.AM x2).bind fun y2=>
  (rec_r03_sameExp y1 y2).bind fun y3=>
  bif y3 then
   (chk (x2+1)).bind fun z1=>
   qG rec_r03_sameExp a0 a1 k z1
  else
   (some false).bind fun r=>some (Sum.inr r)
 else
  some (Sum.inl ())
def mY:Nat->AV->AV->Option (Bool)
| 0,_,_=>none
| AA+1,a0,a1=>
 if a0.Op≠a1.Op then
  some false
 else
  if a0.N≠a1.N then
   some false
  else
   if (a0.AM.length:Int)≠(a1.AM.length:Int)then
    some false
   else
    (qG (mY AA) a0 a1 AA 0).bind fun o=>match o with
    | Sum.inr r=>some r
    | Sum.inl _=>
    some true
theorem aIr:∀ (AA:Nat),(∀  (a0:AV) (a1:AV) (r:Bool) (H:mY AA a0 a1=some r),FnS Tryz.prog 81 [fSt aN a0,fSt aN a1] [] (aH r) (fun _=>[])):=by
 intro AA
 induction AA with
 | zero=>exact fun a0 a1 r H=>(by rw [mY]at H;cases H)
 | succ AA ih=>
 have ih_r03_sameExp:=@ih
 refine ?_
 intro a0 a1 r H
 rw [mY]at H
 refine bB Tryz.func81 rfl Tryz.ntmps81 rfl (fun β=>?_)
 refine Z1 ?_
 refine Tn (bU rfl hh bM) fun b1=>?_
 refine Tn (bU rfl hh bM) fun b2=>?_
 refine Z2 ?_
 refine aG ?_
 refine I7 H (fun c1 H=>?_) fun c1 H=>?_
 refine Z12 ?_
 refine Z9 ?_
 cases H
 refine aE [] (by decide) ?_
 exact To
 refine I7 H (fun c2 H=>?_) fun c2 H=>?_
 refine Z12 ?_
 refine Z2 ?_
 cases H
 refine aE [] (by decide) ?_
 exact To
 refine Z1 ?_
 refine Yh 1 rfl c2 (eU rfl hh (sc rfl) rfl (fB eO)) ?_
 refine Z2 ?_
 refine Yh 0 rfl c2 (eU rfl hh (sc rfl) rfl (fB eO)) ?_
 refine I4 H (fun c3 H=>?_) fun c3 H=>?_
 refine Z5 ?_
 cases H
 refine aE [] (by decide) ?_
 exact To
 revert H;refine B3z fun o1 H Hr1=>?_
 refine aO (ι:=Unit) (fun i=>o1=Sum.inl ()) (fun i=>[]) (fun i=>[aA b2 71 [fI a1.Op,fI a1.N,dD a1.AM],aA b1 71 [fI a0.Op,fI a0.N,dD a0.AM]]) ?_ ?_
 refine Z4 ?_
 refine Th (ι:=Int) (fun i=>qG (mY AA) a0 a1 i.1 i.2=_) (fun i=>[(2,fEq (ptr b1)),(3,fEq (ptr b2)),(5,fI i.2)]) (fun i=>[aA b2 71 [fI a1.Op,fI a1.N,dD a1.AM],aA b1 71 [fI a0.Op,fI a0.N,dD a0.AM]]) (AA,0) H (fun _ h=>nomatch h) ?_
 clear H;rintro k1 x2 H;dsimp only at H ⊢;rw [qG]at H
 refine aG ?_
 refine Z3 ?_
 refine Yo 1 rfl (eU rfl hh (sc rfl) rfl (fB eO)) ?_
 revert H;refine I3z (fun c4 H=>?_) fun c4 H=>?_
 refine Z3 ?_
 refine aG ?_
 refine Z1 ?_
 refine aG ?_
 revert H;refine bs fun y1 h1 H=>?_
 revert H;refine bs fun y2 h2 H=>?_
 revert H;refine bs fun y3 h3 H=>?_
 apply bD (ods:=[_,_,_,_,_,_,_,_,_,_,_,_]) 12 0 2 bC rfl rfl rfl
 refine ND ?_
 refine M1 ?_
 intros
 refine Mo 1 rfl (eU rfl hh (sc rfl) rfl (fB eO)) fun _=>?_
 refine M4 ?_
 intros
 refine Mo 0 rfl (eU rfl hh (sc rfl) rfl (fB eO)) fun _=>?_
 refine M3 ?_
 intros
 refine Nc (ih_r03_sameExp _ _ _ h3) fun _=>?_
 refine M1 ?_
 intros
 refine Z2 ?_
 revert H;refine cs (fun c5 H=>?_) fun c5 H=>?_
 revert H;refine B6z fun z1 h4 H=>?_
 refine Z3 ?_
 exact Tm ((k1,z1)) ⟨H,ls⟩
 revert H;refine dS fun r1 H e1=>?_
 cases e1;cases Hr1
 cases H
 refine aE [] (by decide) ?_
 exact To
 exact fk
 kernel_rfl
 refine Z6 ?_
 exact Tm (()) (ij H)
 rintro i hi;subst o1;replace H:=Hr1;clear Hr1;try dsimp only at H ⊢
 refine Z4 ?_
 cases H
 refine aE [] (by decide) ?_
 exact To
def qX (AA:Nat) (a0:AZ) (a1:AZ):Nat->Int->Option ((Unit) ⊕ (Bool))
| 0,_=>none
| k+1,x2=>
 if x2<(a0.AX.length:Int)then
  (idx a0.AX x2).bind fun y2=>
  (idx a1.AX x2).bind fun y3=>
  (mY AA y2 y3).bind fun y4=>
  bif y4 then
   (chk (x2+1)).bind fun z1=>
   qX AA a0 a1 k z1
  else
   (some false).bind fun r=>some (Sum.inr r)
 else
  some (Sum.inl ())
def wX (AA:Nat) (a0:AZ) (a1:AZ):Option (Bool):=
 if a0.Op≠a1.Op then
  some false
 else
  if a0.N≠a1.N then
   some false
  else
   if (a0.AX.length:Int)≠(a1.AX.length:Int)then
    some false
   else
    (xC AA a0.AM a1.AM).bind fun y1=>
    bif y1 then
     (qX AA a0 a1 AA 0).bind fun o=>match o with
     | Sum.inr r=>some r
     | Sum.inl _=>
     some true
    else
     some false
theorem aI0 (AA:Nat)  (a0:AZ) (a1:AZ) (r:Bool) (H:wX AA a0 a1=some r):FnS Tryz.prog 50 [fSt aJ a0,fSt aJ a1] [] (aH r) (fun _=>[]):=by
 unfold wX at H
 refine bB Tryz.func50 rfl Tryz.ntmps50 rfl (fun β=>?_)
 refine Z1 ?_
 refine Tn (bU rfl hh bM) fun b1=>?_
 refine Tn (bU rfl hh bM) fun b2=>?_
 refine Z2 ?_
 refine aG ?_
 refine I7 H (fun c1 H=>?_) fun c1 H=>?_
 refine Z12 ?_
 refine Z12 ?_
 refine Z5 ?_
 cases H
 refine aE [] (by decide) ?_
 exact To
 refine I7 H (fun c2 H=>?_) fun c2 H=>?_
 refine Z12 ?_
 refine Z10 ?_
 cases H
 refine aE [] (by decide) ?_
 exact To
 refine I9 H (fun c3 H=>?_) fun c3 H=>?_
 refine Z12 ?_
 refine Z1 ?_
 cases H
 refine aE [] (by decide) ?_
 exact To
 refine B4 H fun y1 h1 H=>?_
 refine Tc (aF1 _ _ _ _ h1) ?_
 refine Z3 ?_
 refine cz H (fun c4 H=>?_) fun c4 H=>?_
 revert H;refine B3z fun o1 H Hr1=>?_
 refine aO (ι:=Unit) (fun i=>o1=Sum.inl ()) (fun i=>[]) (fun i=>[aA b2 65 [fI a1.Op,fI a1.N,fSl aN a1.AX,fSl tI a1.AM],aA b1 65 [fI a0.Op,fI a0.N,fSl aN a0.AX,fSl tI a0.AM]]) ?_ ?_
 refine Z4 ?_
 refine Th (ι:=Int) (fun i=>qX AA a0 a1 i.1 i.2=_) (fun i=>[(2,fEq (ptr b1)),(3,fEq (ptr b2)),(5,fI i.2)]) (fun i=>[aA b2 65 [fI a1.Op,fI a1.N,fSl aN a1.AX,fSl tI a1.AM],aA b1 65 [fI a0.Op,fI a0.N,fSl aN a0.AX,fSl tI a0.AM]]) (AA,0) H (fun _ h=>nomatch h) ?_
 clear H;rintro k1 x2 H;dsimp only at H ⊢;rw [qX]at H
 refine aG ?_
 revert H;refine I7z (fun c5 H=>?_) fun c5 H=>?_
 refine Z3 ?_
 refine aG ?_
 refine Z1 ?_
 refine aG ?_
 revert H;refine bs fun y2 h2 H=>?_
 revert H;refine bs fun y3 h3 H=>?_
 revert H;refine bs fun y4 h4 H=>?_
 apply bD (ods:=[_,_,_,_,_,_,_,_,_,_,_,_]) 12 0 2 bC rfl rfl rfl
 refine ND ?_
 refine M8 ?_
 intros
 refine M2 ?_
 intros
 refine Nc (aIr _ _ _ _ h4) fun _=>?_
 refine M1 ?_
 intros
 refine Z2 ?_
 revert H;refine cs (fun c6 H=>?_) fun c6 H=>?_
 revert H;refine B6z fun z1 h5 H=>?_
 refine Z3 ?_
 exact Tm ((k1,z1)) ⟨H,ls⟩
 revert H;refine dS fun r1 H e1=>?_
 cases e1;cases Hr1
 cases H
 refine aE [] (by decide) ?_
 exact To
 exact fk
 kernel_rfl
 refine Z6 ?_
 exact Tm (()) (ij H)
 rintro i hi;subst o1;replace H:=Hr1;clear Hr1;try dsimp only at H ⊢
 refine Z4 ?_
 cases H
 refine aE [] (by decide) ?_
 exact To
 refine Z5 ?_
 cases H
 refine aE [] (by decide) ?_
 exact To
end Go.Proofs.YtgidgoahhepmlaaGreat
namespace Go.BX
noncomputable section
inductive V where
 | int (k:IntKind) (n:Int)
 | bool (b:Bool)
 | str (s:ByteArray)
 | ptr (b off:Nat)
 | nilp
 | sl (b off len cap:Nat)
 | so (b off len es:Nat)
 | nils
 | map (b:Nat)
 | nilm
 | fn (f:Nat) (first cap:List V)
 | yld (l:Nat)
 | nilf
 | iface (t:Nat) (v:V)
 | nili
 | agg (cs:List V)
 | tup (vs:List V)
 deriving Inhabited
structure PE where
 v:V
 r:Bool
inductive O where
 | val (v:V)
 | panic (ch:List PE)
inductive Tr (α:Type) where
 | leaf
 | node (l:Tr α) (v:Option α) (r:Tr α)
inductive Pa where
 | h
 | l (p:Pa)
 | r (p:Pa)
def paD (d:Nat):Nat->Pa:=Nat.rec (fun _=> .h) (fun _ ih n=>Bool.rec (Bool.rec (.r (ih (Nat.sub (Nat.div n 2) 1))) (.l (ih (Nat.div n 2))) (Nat.beq (Nat.mod n 2) 1)) .h (Nat.beq n 0)) d
def pa (n:Nat):Pa:=paD (Nat.succ n) n
def gp {α:Type} (t:Tr α):Pa->Option α:=Tr.rec (fun _=>none) (fun _ v _ il ir p=>Pa.rec v (fun q _=>il q) (fun q _=>ir q) p) t
def one' {α β:Type} (v:Option α) (p:Pa):(Tr α->β)->β:=Pa.rec (fun k=>k (.node .leaf v .leaf)) (fun _ ih k=>ih fun t=>k (.node t none .leaf)) (fun _ ih k=>ih fun t=>k (.node .leaf none t)) p
def pp {α β:Type} (t:Tr α) (v:Option α):Pa->(Tr α->β)->β:=Tr.rec (fun p k=>one' v p k) (fun l x r il ir p k=>Pa.rec (k (.node l v r)) (fun q _=>il q fun l'=>k (.node l' x r)) (fun q _=>ir q fun r'=>k (.node l x r')) p) t
def vC {α β:Type} (l:List α):Nat->Tr α->(Tr α->β)->β:=List.rec (fun _ t k=>k t) (fun x _ ih n t k=>pp t (some x) (pa n) fun t=>ih (Nat.succ n) t k) l
def eX {β:Type} (n:Nat) (d:β) (f:Nat->β):β:=Nat.rec d (fun m _=>f m) (Nat.succ n)
def nth {α:Type} (l:List α):Nat->Option α:=List.rec (fun _=>none) (fun x _ ih n=>Nat.rec (some x) (fun m _=>ih m) n) l
def dr {α:Type} (n:Nat):List α->List α:=Nat.rec (fun l=>l) (fun _ ih l=>List.rec [] (fun _ r _=>ih r) l) n
def tk {α:Type} (n:Nat):List α->Option (List α):=Nat.rec (fun _=>some []) (fun _ ih l=>List.rec none (fun x r _=>Option.rec none (fun t=>some (x :: t)) (ih r)) l) n
def ap {α:Type} (l m:List α):List α:=List.rec m (fun x _ ih=>x :: ih) l
def ln {α:Type} (l:List α):Nat->Nat:=List.rec (fun n=>n) (fun _ _ ih n=>ih (Nat.succ n)) l
def ov {α:Type} (new:List α):List α->Option (List α):=List.rec (fun c=>some c) (fun x _ ih c=>List.rec none (fun _ r _=>Option.rec none (fun t=>some (x :: t)) (ih r)) c) new
def pl {α:Type} (new:List α) (off:Nat):List α->Option (List α):=Nat.rec (fun c=>ov new c) (fun _ ih c=>List.rec none (fun x r _=>Option.rec none (fun t=>some (x :: t)) (ih r)) c) off
def rep {α:Type} (l:List α) (n:Nat):List α:=Nat.rec [] (fun _ ih=>ap l ih) n
structure Ent where
 key:V
 val:V
 born:Nat
inductive Ob where
 | map (es:List Ent) (clock:Nat)
 | loop (st:LoopState) (pend:Option Code) (f:Nat) (e:Tr V) (n:Nat) (ps:List Nat) (sg bd:Code) (d:Nat)
 | dfr (live:Bool)
inductive Blk where
 | cells (c:List V) (t:Nat) (op:Nat)
 | obj (o:Ob)
inductive Fp where
 | cell (b lo hi:Nat) (w:Bool)
 | fresh (n0 n1:Nat)
structure S where
 h:Tr Blk
 nx:Nat
 log:List Fp
inductive AL where
 | ret (o:O)
 | fail
 | rd (b off n:Nat) (k:List V->AL)
 | rd1 (b off:Nat) (k:V->AL)
 | wr (b off:Nat) (l:List V) (k:AL)
 | sz (b:Nat) (k:Nat->Nat->Nat->AL)
 | new (c:List V) (t op:Nat) (k:Nat->AL)
 | del (b:Nat) (k:AL)
 | newO (o:Ob) (k:Nat->AL)
 | getO (b:Nat) (k:Ob->AL)
 | setO (b:Nat) (o:Ob) (k:AL)
 | sub (p:AL) (k:V->List Fp->AL)
def eD (n0 n1:Nat) (l:List Fp):List Fp:=List.rec [] (fun f _ ih=>Fp.rec (fun b lo hi w=>Bool.rec (Bool.rec (.cell b lo hi w :: ih) ih (Nat.blt b n1)) (.cell b lo hi w :: ih) (Nat.blt b n0)) (fun m0 m1=>Bool.rec (.fresh m0 m1 :: ih) (Bool.rec (.fresh m0 m1 :: ih) ih (Nat.ble m1 n1)) (Nat.ble n0 m0)) f) l
def ifN {β:Type} (b:Bool) (d p:β):β:=Bool.rec d p b
abbrev R:=Option (O × S)
abbrev St:=Tr Blk->Nat->List Fp->R
def rowK {β:Type} (x:Blk):(List V->Nat->Nat->β)->β->β:=Blk.rec (motive:=fun _=>(List V->Nat->Nat->β)->β->β) (fun c t op=>fun f _=>f c t op) (fun _=>fun _ d=>d) x
def obK {β:Type} (x:Blk):(Ob->β)->β->β:=Blk.rec (motive:=fun _=>(Ob->β)->β->β) (fun _ _ _=>fun _ d=>d) (fun o=>fun f _=>f o) x
def opt {α β:Type} (o:Option α) (d:β) (f:α->β):β:=Option.rec d f o
def rRd (b off n:Nat) (ih:List V->St):St:=fun h nx lg=>opt (gp h (pa b)) none fun k=>rowK k (fun c _ _=>opt (tk n (dr off c)) none fun l=>ifN (Nat.blt 0 n) none (ih l h nx (.cell b off (Nat.add off n) false :: lg))) none
def rRd1 (b off:Nat) (ih:V->St):St:=fun h nx lg=>opt (gp h (pa b)) none fun k=>rowK k (fun c _ _=>opt (nth c off) none fun v=>ih v h nx (.cell b off (Nat.succ off) false :: lg)) none
def rWr (b off:Nat) (l:List V) (ih:St):St:=fun h nx lg=>opt (gp h (pa b)) none fun k=>rowK k (fun c t op=>opt (pl l off c) none fun c'=>pp h (some (.cells c' t op)) (pa b) fun h=>ifN (Nat.blt 0 (ln l 0)) none (ih h nx (.cell b off (Nat.add off (ln l 0)) true :: lg))) none
def rSz (b:Nat) (ih:Nat->Nat->Nat->St):St:=fun h nx lg=>opt (gp h (pa b)) none fun k=>rowK k (fun c t op=>eX (ln c 0) none fun n=>ih n t op h nx (.cell b n (Nat.succ n) false :: lg)) none
def rNew (x:Blk) (ih:Nat->St):St:=fun h nx lg=>eX nx none fun n=>opt (gp h (pa n)) (pp h (some x) (pa n) fun h=>ih n h (Nat.succ n) (.fresh n (Nat.succ n) :: lg)) fun _=>none
def rDel (b:Nat) (ih:St):St:=fun h nx lg=>opt (gp h (pa b)) none fun k=>rowK k (fun c _ _=>pp h none (pa b) fun h=>ih h nx (.cell b 0 (Nat.succ (ln c 0)) true :: lg)) none
def rGetO (b:Nat) (ih:Ob->St):St:=fun h nx lg=>opt (gp h (pa b)) none fun k=>obK k (fun o=>ih o h nx (.cell b 0 1 false :: lg)) none
def rSetO (b:Nat) (o:Ob) (ih:St):St:=fun h nx lg=>opt (gp h (pa b)) none fun k=>obK k (fun _=>pp h (some (.obj o)) (pa b) fun h=>ih h nx (.cell b 0 1 true :: lg)) none
def rSub1 (ih:V->List Fp->St) (nx:Nat) (lg:List Fp) (r:R):R:=match r with
 | some (o,s)=>match o with
  | .val v=>match s with
   | ⟨h',nx',lg'⟩=>ih v (.fresh nx nx' :: eD nx nx' lg') h' nx' (.fresh nx nx' :: ap (eD nx nx' lg') lg)
  | .panic _=>none
 | none=>none
def rSub (ihp:St) (ih:V->List Fp->St):St:=fun h nx lg=>rSub1 ih nx lg (ihp h nx [])
def run (p:AL):St:=AL.rec (fun o h nx lg=>some (o,⟨h,nx,lg⟩)) (fun _ _ _=>none) (fun b off n _ ih=>rRd b off n ih) (fun b off _ ih=>rRd1 b off ih) (fun b off l _ ih=>rWr b off l ih)
 (fun b _ ih=>rSz b ih) (fun c t op _ ih=>rNew (.cells c t op) ih) (fun b _ ih=>rDel b ih) (fun o _ ih=>rNew (.obj o) ih) (fun b _ ih=>rGetO b ih) (fun b o _ ih=>rSetO b o ih) (fun _ _ ihp ih=>rSub ihp ih) p
end
noncomputable section
def tys (P:Program):Tr TypeInfo:=vC P.types.toList 0 .leaf fun t=>t
def fns (P:Program):Tr Func:=vC P.funcs.toList 0 .leaf fun t=>t
def info (P:Program) (t:Nat):Option TypeInfo:=gp (tys P) (pa t)
def fnAt (P:Program) (f:Nat):Option Func:=gp (fns P) (pa f)
def und1 (P:Program) (i:TypeInfo):Option TypeDesc:=match i.desc with
 | .named _ u=>match info P u with
  | some j=>some j.desc
  | none=>none
 | d=>some d
def und (P:Program) (t:Nat):Option TypeDesc:=match info P t with
 | some i=>und1 P i
 | none=>none
def szT (P:Program) (t:Nat):Option Nat:=match info P t with
 | some i=>some i.size
 | none=>none
def shp (P:Program) (t:Nat):Option (Option Nat):=match und P t with
 | some (.struct _)=>match szT P t with
  | some n=>some (some n)
  | none=>none
 | some (.array _ _)=>match szT P t with
  | some n=>some (some n)
  | none=>none
 | some _=>some none
 | none=>none
def isC:V->Bool
 | .agg _=>false
 | .tup _=>false
 | _=>true
def iL:List V->Bool
 | []=>true
 | v :: l=>match isC v with
  | true=>iL l
  | false=>false
mutual
def ofC:Value->Option V
 | .int k n=>some (.int k n)
 | .bool b=>some (.bool b)
 | .string s=>some (.str s)
 | .pointer none=>some .nilp
 | .slice none 0 0=>some .nils
 | .map none=>some .nilm
 | .nilFunc=>some .nilf
 | .nilIface=>some .nili
 | .iface t v=>match ofC v with
  | some x=>some (.iface t x)
  | none=>none
 | .agg cs=>match ofA cs with
  | some l=>match iL l with
   | true=>some (.agg l)
   | false=>none
  | none=>none
 | .tuple cs=>match ofA cs with
  | some l=>some (.tup l)
  | none=>none
 | _=>none
def ofA:Array Value->Option (List V)
 | ⟨l⟩=>ofL l
def ofL:List Value->Option (List V)
 | []=>some []
 | v :: l=>match ofC v with
  | some x=>match ofL l with
   | some r=>some (x :: r)
   | none=>none
  | none=>none
end
def zer (P:Program) (t:Nat):Option V:=match info P t with
 | some i=>match i.zero with
  | some z=>ofC z
  | none=>none
 | none=>none
def eT:V:= .tup []
def vc0 (x:V):V->Option (List V):=V.rec (motive_1:=fun _=>V->Option (List V)) (motive_2:=fun _=>Unit) (fun _ _=>fun v=>some [v]) (fun _=>fun v=>some [v]) (fun _=>fun v=>some [v]) (fun _ _=>fun v=>some [v]) (fun v=>some [v]) (fun _ _ _ _=>fun v=>some [v]) (fun _ _ _ _=>fun v=>some [v]) (fun v=>some [v]) (fun _=>fun v=>some [v]) (fun v=>some [v]) (fun _ _ _ _ _=>fun v=>some [v]) (fun _=>fun v=>some [v]) (fun v=>some [v]) (fun _ _ _=>fun v=>some [v]) (fun v=>some [v]) (fun cs _=>fun _=>some cs) (fun _ _=>fun _=>none) () (fun _ _ _ _=>()) x
def vc (v:V):Option (List V):=vc0 v v
inductive Df where
 | fn (f:Nat) (args cap:List V)
 | col (r:Nat)
structure Ac where
 e:Tr V
 n:Nat
 ds:List Df
 ro:Option Nat
inductive X where
 | normal
 | exit (id:Nat)
 | ret
 | panic (ch:List PE)
abbrev KX:=X->Ac->AL
abbrev Ex:=Code->Ac->KX->AL
abbrev KV:=V->AL
abbrev H:=Program->Ex->Tr V->KV->(List PE->AL)->(Df->AL)->AL
def ev (x:Operand):Tr V->Option V:=Operand.rec (motive:=fun _=>Tr V->Option V) (fun t=>fun e=>gp e (pa t)) (fun c=>fun _=>ofC c) (fun _=>fun _=>none) (fun f=>fun _=>some (.fn f [] [])) x
def cU (x:Operand) (e:Tr V) (f:V->AL):AL:=Option.rec .fail f (ev x e)
def eB (x y:Operand) (e:Tr V) (f:V->V->AL):AL:=Option.rec .fail (fun v=>Option.rec .fail (f v) (ev y e)) (ev x e)
def eW (x y z:Operand) (e:Tr V) (f:V->V->V->AL):AL:=cU x e fun v=>eB y z e (f v)
def evs (l:List Operand) (e:Tr V):Option (List V):=List.rec (some []) (fun x _ ih=>Option.rec none (fun v=>Option.rec none (fun vs=>some (v :: vs)) ih) (ev x e)) l
def eK (l:List Operand) (e:Tr V) (f:List V->AL):AL:=opt (evs l e) .fail f
def evO (x:Option Operand) (e:Tr V):Option (Option V):=match x with
 | none=>some none
 | some x=>match ev x e with
  | some v=>some (some v)
  | none=>none
def zW (x:Option Operand) (e:Tr V) (f:Option V->AL):AL:=opt (evO x e) .fail f
def prt:List (Nat × Operand)->List Operand
 | []=>[]
 | (_,x) :: l=>x :: prt l
def cW (b:Bool) (p:AL):AL:=Bool.rec .fail p b
def ife {β:Type} (b:Bool) (p q:β):β:=Bool.rec q p b
def oo {α:Type} (o:Option α) (f:α->AL):AL:=opt o .fail f
def tZ (x:V):(Nat->Nat->AL)->AL:=V.rec (motive_1:=fun _=>(Nat->Nat->AL)->AL) (motive_2:=fun _=>Unit) (fun _ _=>fun _=> .fail) (fun _=>fun _=> .fail) (fun _=>fun _=> .fail) (fun b off=>fun f=>f b off) (fun _=> .fail) (fun _ _ _ _=>fun _=> .fail) (fun _ _ _ _=>fun _=> .fail) (fun _=> .fail) (fun _=>fun _=> .fail) (fun _=> .fail) (fun _ _ _ _ _=>fun _=> .fail) (fun _=>fun _=> .fail) (fun _=> .fail) (fun _ _ _=>fun _=> .fail) (fun _=> .fail) (fun _ _=>fun _=> .fail) (fun _ _=>fun _=> .fail) () (fun _ _ _ _=>()) x
def yE {β:Type} (x:V):(IntKind->Int->β)->β->β:=V.rec (motive_1:=fun _=>(IntKind->Int->β)->β->β) (motive_2:=fun _=>Unit) (fun k n=>fun f _=>f k n) (fun _=>fun _ d=>d) (fun _=>fun _ d=>d) (fun _ _=>fun _ d=>d) (fun _ d=>d) (fun _ _ _ _=>fun _ d=>d) (fun _ _ _ _=>fun _ d=>d) (fun _ d=>d) (fun _=>fun _ d=>d) (fun _ d=>d) (fun _ _ _ _ _=>fun _ d=>d) (fun _=>fun _ d=>d) (fun _ d=>d) (fun _ _ _=>fun _ d=>d) (fun _ d=>d) (fun _ _=>fun _ d=>d) (fun _ _=>fun _ d=>d) () (fun _ _ _ _=>()) x
def asBool {β:Type} (x:V):(Bool->β)->β->β:=V.rec (motive_1:=fun _=>(Bool->β)->β->β) (motive_2:=fun _=>Unit) (fun _ _=>fun _ d=>d) (fun b=>fun f _=>f b) (fun _=>fun _ d=>d) (fun _ _=>fun _ d=>d) (fun _ d=>d) (fun _ _ _ _=>fun _ d=>d) (fun _ _ _ _=>fun _ d=>d) (fun _ d=>d) (fun _=>fun _ d=>d) (fun _ d=>d) (fun _ _ _ _ _=>fun _ d=>d) (fun _=>fun _ d=>d) (fun _ d=>d) (fun _ _ _=>fun _ d=>d) (fun _ d=>d) (fun _ _=>fun _ d=>d) (fun _ _=>fun _ d=>d) () (fun _ _ _ _=>()) x
def asAgg {β:Type} (x:V):(List V->β)->β->β:=V.rec (motive_1:=fun _=>(List V->β)->β->β) (motive_2:=fun _=>Unit) (fun _ _=>fun _ d=>d) (fun _=>fun _ d=>d) (fun _=>fun _ d=>d) (fun _ _=>fun _ d=>d) (fun _ d=>d) (fun _ _ _ _=>fun _ d=>d) (fun _ _ _ _=>fun _ d=>d) (fun _ d=>d) (fun _=>fun _ d=>d) (fun _ d=>d) (fun _ _ _ _ _=>fun _ d=>d) (fun _=>fun _ d=>d) (fun _ d=>d) (fun _ _ _=>fun _ d=>d) (fun _ d=>d) (fun cs _=>fun f _=>f cs) (fun _ _=>fun _ d=>d) () (fun _ _ _ _=>()) x
def asTup (x:V):(List V->AL)->AL:=V.rec (motive_1:=fun _=>(List V->AL)->AL) (motive_2:=fun _=>Unit) (fun _ _=>fun _=> .fail) (fun _=>fun _=> .fail) (fun _=>fun _=> .fail) (fun _ _=>fun _=> .fail) (fun _=> .fail) (fun _ _ _ _=>fun _=> .fail) (fun _ _ _ _=>fun _=> .fail) (fun _=> .fail) (fun _=>fun _=> .fail) (fun _=> .fail) (fun _ _ _ _ _=>fun _=> .fail) (fun _=>fun _=> .fail) (fun _=> .fail) (fun _ _ _=>fun _=> .fail) (fun _=> .fail) (fun _ _=>fun _=> .fail) (fun cs _=>fun f=>f cs) () (fun _ _ _ _=>()) x
def yJ {β:Type} (x:V):(ByteArray->β)->β->β:=V.rec (motive_1:=fun _=>(ByteArray->β)->β->β) (motive_2:=fun _=>Unit) (fun _ _=>fun _ d=>d) (fun _=>fun _ d=>d) (fun s=>fun f _=>f s) (fun _ _=>fun _ d=>d) (fun _ d=>d) (fun _ _ _ _=>fun _ d=>d) (fun _ _ _ _=>fun _ d=>d) (fun _ d=>d) (fun _=>fun _ d=>d) (fun _ d=>d) (fun _ _ _ _ _=>fun _ d=>d) (fun _=>fun _ d=>d) (fun _ d=>d) (fun _ _ _=>fun _ d=>d) (fun _ d=>d) (fun _ _=>fun _ d=>d) (fun _ _=>fun _ d=>d) () (fun _ _ _ _=>()) x
def asSl (x:V):(Nat->Nat->Nat->Nat->AL)->(Nat->Nat->Nat->Nat->AL)->AL->AL->AL:=V.rec (motive_1:=fun _=>(Nat->Nat->Nat->Nat->AL)->(Nat->Nat->Nat->Nat->AL)->AL->AL->AL) (motive_2:=fun _=>Unit) (fun _ _=>fun _ _ _ d=>d) (fun _=>fun _ _ _ d=>d) (fun _=>fun _ _ _ d=>d) (fun _ _=>fun _ _ _ d=>d) (fun _ _ _ d=>d) (fun b off len cap=>fun f _ _ _=>f b off len cap) (fun b off len es=>fun _ g _ _=>g b off len es) (fun _ _ n _=>n) (fun _=>fun _ _ _ d=>d) (fun _ _ _ d=>d) (fun _ _ _ _ _=>fun _ _ _ d=>d) (fun _=>fun _ _ _ d=>d) (fun _ _ _ d=>d) (fun _ _ _=>fun _ _ _ d=>d) (fun _ _ _ d=>d) (fun _ _=>fun _ _ _ d=>d) (fun _ _=>fun _ _ _ d=>d) () (fun _ _ _ _=>()) x
def asMap (x:V):(Nat->AL)->AL->AL:=V.rec (motive_1:=fun _=>(Nat->AL)->AL->AL) (motive_2:=fun _=>Unit) (fun _ _=>fun _ _=> .fail) (fun _=>fun _ _=> .fail) (fun _=>fun _ _=> .fail) (fun _ _=>fun _ _=> .fail) (fun _ _=> .fail) (fun _ _ _ _=>fun _ _=> .fail) (fun _ _ _ _=>fun _ _=> .fail) (fun _ _=> .fail) (fun b=>fun f _=>f b) (fun _ n=>n) (fun _ _ _ _ _=>fun _ _=> .fail) (fun _=>fun _ _=> .fail) (fun _ _=> .fail) (fun _ _ _=>fun _ _=> .fail) (fun _ _=> .fail) (fun _ _=>fun _ _=> .fail) (fun _ _=>fun _ _=> .fail) () (fun _ _ _ _=>()) x
def asIf (x:V):(Nat->V->AL)->AL->AL:=V.rec (motive_1:=fun _=>(Nat->V->AL)->AL->AL) (motive_2:=fun _=>Unit) (fun _ _=>fun _ _=> .fail) (fun _=>fun _ _=> .fail) (fun _=>fun _ _=> .fail) (fun _ _=>fun _ _=> .fail) (fun _ _=> .fail) (fun _ _ _ _=>fun _ _=> .fail) (fun _ _ _ _=>fun _ _=> .fail) (fun _ _=> .fail) (fun _=>fun _ _=> .fail) (fun _ _=> .fail) (fun _ _ _ _ _=>fun _ _=> .fail) (fun _=>fun _ _=> .fail) (fun _ _=> .fail) (fun t v _=>fun f _=>f t v) (fun _ n=>n) (fun _ _=>fun _ _=> .fail) (fun _ _=>fun _ _=> .fail) () (fun _ _ _ _=>()) x
def asFn (x:V):(Nat->List V->List V->AL)->(Nat->AL)->AL:=V.rec (motive_1:=fun _=>(Nat->List V->List V->AL)->(Nat->AL)->AL) (motive_2:=fun _=>Unit) (fun _ _=>fun _ _=> .fail) (fun _=>fun _ _=> .fail) (fun _=>fun _ _=> .fail) (fun _ _=>fun _ _=> .fail) (fun _ _=> .fail) (fun _ _ _ _=>fun _ _=> .fail) (fun _ _ _ _=>fun _ _=> .fail) (fun _ _=> .fail) (fun _=>fun _ _=> .fail) (fun _ _=> .fail) (fun g a c _ _=>fun f _=>f g a c) (fun l=>fun _ y=>y l) (fun _ _=> .fail) (fun _ _ _=>fun _ _=> .fail) (fun _ _=> .fail) (fun _ _=>fun _ _=> .fail) (fun _ _=>fun _ _=> .fail) () (fun _ _ _ _=>()) x
def noNil (x:V):AL->AL:=V.rec (motive_1:=fun _=>AL->AL) (motive_2:=fun _=>Unit) (fun _ _=>fun _=> .fail) (fun _=>fun _=> .fail) (fun _=>fun _=> .fail) (fun _ _=>fun k=>k) (fun _=> .fail) (fun _ _ _ _=>fun _=> .fail) (fun _ _ _ _=>fun _=> .fail) (fun _=> .fail) (fun _=>fun _=> .fail) (fun _=> .fail) (fun _ _ _ _ _=>fun k=>k) (fun _=>fun k=>k) (fun _=> .fail) (fun _ _ _=>fun _=> .fail) (fun _=> .fail) (fun _ _=>fun _=> .fail) (fun _ _=>fun _=> .fail) () (fun _ _ _ _=>()) x
def OPEN:Nat:=9223372036854775808
def natI (x:Int):Option Nat:=Int.rec (motive:=fun _=>Option Nat) (fun k=>some k) (fun _=>none) x
def oL (v:V):Option Nat:=yE v (fun _ n=>natI n) none
def inR (x:Int):(Int->AL)->AL:=Int.rec (motive:=fun _=>(Int->AL)->AL) (fun n=>fun k=>eX n .fail fun n=>cW (Nat.blt n OPEN) (k (.ofNat n))) (fun n=>fun k=>eX n .fail fun n=>cW (Nat.blt n OPEN) (k (.negSucc n))) x
def ltI (i j:Int):Bool:=match i,j with
 | .ofNat a, .ofNat b=>Nat.blt a b
 | .negSucc _, .ofNat _=>true
 | .negSucc a, .negSucc b=>Nat.blt b a
 | .ofNat _, .negSucc _=>false
def eqI (i j:Int):Bool:=match i,j with
 | .ofNat a, .ofNat b=>Nat.beq a b
 | .negSucc a, .negSucc b=>Nat.beq a b
 | _,_=>false
mutual
def gv:V->Option Value
 | .int k n=>some (.int k n)
 | .bool b=>some (.bool b)
 | .str s=>some (.string s)
 | .nilp=>some (.pointer none)
 | .nils=>some (.slice none 0 0)
 | .nilm=>some (.map none)
 | .nilf=>some .nilFunc
 | .nili=>some .nilIface
 | .iface t v=>match gv v with
  | some x=>some (.iface t x)
  | none=>none
 | .agg cs=>match iL cs with
  | true=>match gvs cs with
   | some l=>some (.agg ⟨l⟩)
   | none=>none
  | false=>none
 | .tup cs=>match gvs cs with
  | some l=>some (.tuple ⟨l⟩)
  | none=>none
 | _=>none
def gvs:List V->Option (List Value)
 | []=>some []
 | v :: l=>match gv v with
  | some x=>match gvs l with
   | some r=>some (x :: r)
   | none=>none
  | none=>none
end
def aBf (P:Program) {α:Type}:Sem α->Option α
 | .pure a=>some a
 | .program k=>aBf P (k P)
 | .mark _ k=>aBf P k
 | _=>none
def gen (P:Program) (m:Sem Value) (k:V->AL):AL:=oo (aBf P m) fun v=>oo (ofC v) k
def gen1 (P:Program) (m:Value->Sem Value) (x:V) (k:V->AL):AL:=oo (gv x) fun a=>gen P (m a) k
def gen2 (P:Program) (m:Value->Value->Sem Value) (x y:V) (k:V->AL):AL:=oo (gv x) fun a=>oo (gv y) fun b=>gen P (m a b) k
def jA (n:Int):V:= .int .i64 n
def binI (x:BinOp):Int->Int->(V->AL)->AL->AL:=BinOp.rec (motive:=fun _=>Int->Int->(V->AL)->AL->AL) (fun i j k _=>inR (i+j) fun n=>k (.int .i64 n)) (fun i j k _=>inR (i - j) fun n=>k (.int .i64 n)) (fun i j k _=>inR (i*j) fun n=>k (.int .i64 n)) (fun _ _ _ d=>d) (fun _ _ _ d=>d) (fun _ _ _ d=>d) (fun _ _ _ d=>d) (fun _ _ _ d=>d) (fun _ _ _ d=>d) (fun _ _ _ d=>d) (fun _ _ _ d=>d) (fun i j k _=>k (.bool (eqI i j))) (fun i j k _=>k (.bool (Bool.not (eqI i j)))) (fun i j k _=>k (.bool (ltI i j))) (fun i j k _=>k (.bool (Bool.not (ltI j i)))) (fun i j k _=>k (.bool (ltI j i))) (fun i j k _=>k (.bool (Bool.not (ltI i j)))) x
def eqN1:V->V->Option Bool
 | .nilp, .ptr _ _=>some false
 | .ptr _ _, .nilp=>some false
 | .ptr b o, .ptr c q=>match Nat.beq b c with
  | true=>some (Nat.beq o q)
  | false=>none
 | _,_=>none
def eqN2:V->V->Option Bool
 | .nils, .sl _ _ _ _=>some false
 | .nils, .so _ _ _ _=>some false
 | .sl _ _ _ _, .nils=>some false
 | .so _ _ _ _, .nils=>some false
 | _,_=>none
def eqN3:V->V->Option Bool
 | .nilm, .map _=>some false
 | .map _, .nilm=>some false
 | _,_=>none
def eqN4:V->V->Option Bool
 | .nilf, .fn _ _ _=>some false
 | .fn _ _ _, .nilf=>some false
 | _,_=>none
def eqN5:V->V->Option Bool
 | .nili, .iface _ _=>some false
 | .iface _ _, .nili=>some false
 | _,_=>none
def eqN (P:Program) (T:Nat) (a b:V):Option Bool:=match und P T with
 | some (.pointer el)=>match szT P el with
  | some (_+1)=>eqN1 a b
  | _=>none
 | some (.slice _)=>eqN2 a b
 | some (.map _ _)=>eqN3 a b
 | some (.func _ _ _)=>eqN4 a b
 | some (.interface _)=>eqN5 a b
 | _=>none
def eqK (x:BinOp):Bool->(V->AL)->AL:=BinOp.rec (motive:=fun _=>Bool->(V->AL)->AL) (fun _ _=> .fail) (fun _ _=> .fail) (fun _ _=> .fail) (fun _ _=> .fail) (fun _ _=> .fail) (fun _ _=> .fail) (fun _ _=> .fail) (fun _ _=> .fail) (fun _ _=> .fail) (fun _ _=> .fail) (fun _ _=> .fail) (fun r k=>k (.bool r)) (fun r k=>k (.bool (Bool.not r))) (fun _ _=> .fail) (fun _ _=> .fail) (fun _ _=> .fail) (fun _ _=> .fail) x
def binG (P:Program) (op:BinOp) (T:Nat) (x y:Operand) (a b:V) (k:V->AL):AL:=opt (eqN P T a b) (gen2 P (fun a b=>do eqGuard op T x y a b;binOp op T a b) a b k) fun r=>eqK op r k
def isI64 (k:IntKind):Bool:=match k with
 | .i64=>true
 | _=>false
def binB (op:BinOp) (u v:V) (k:V->AL) (d:AL):AL:=yE u (fun ku i=>yE v (fun kv j=>ife (isI64 ku) (ife (isI64 kv) (binI op i j k d) d) d) d) d
def hBin (op:BinOp) (T:Nat) (x y:Operand):H:=fun P _ e k _ _=>eB x y e fun u v=>binB op u v k (binG P op T x y u v k)
def nF (x:Operand):H:=fun _ _ e k _ _=>cU x e k
def zU (c x y:Operand):H:=fun _ _ e k _ _=>eW c x y e fun c x y=>asBool c (fun b=>ife b (k x) (k y)) .fail
def loadS (s:Option Nat) (b off:Nat) (k:V->AL):AL:=opt s (.rd1 b off k) fun n=>ife (Nat.beq n 0) (k (.agg [])) (.rd b off n fun l=>k (.agg l))
def aAx (t:Nat) (x:Operand):H:=fun P _ e k _ _=>cU x e fun v=>oo (shp P t) fun s=>tZ v fun b off=>loadS s b off k
def yK (t:Nat) (x y:Operand):H:=fun P _ e k _ _=>eB x y e fun p v=>oo (szT P t) fun n=>tZ p fun b off=>oo (vc v) fun c=>cW (Nat.beq (ln c 0) n) (ife (Nat.beq n 0) (k eT) (.wr b off c (k eT)))
def aAK (t:Nat):H:=fun P _ e k _ _=>oo (zer P t) fun z=>oo (vc z) fun c=> .new c t 0 fun b=>k (.ptr b 0)
def hBox (t:Nat) (x:Operand):H:=fun _ _ e k _ _=>cU x e fun v=>oo (vc v) fun c=> .new c t 0 fun b=>k (.ptr b 0)
def fldOf (P:Program) (t f:Nat):Option (Nat × Nat):=match und P t with
 | some (.struct fs)=>match nth fs.toList f with
  | some fd=>some (fd.offset,fd.type)
  | none=>none
 | _=>none
def fldA (P:Program) (t f:Nat):Option Nat:=match fldOf P t f with
 | some (o,ft)=>match szT P ft with
  | some n=>match Nat.blt 0 n with
   | true=>some o
   | false=>none
  | none=>none
 | none=>none
def aAe (t:Nat) (x:Operand) (f:Nat):H:=fun P _ e k _ _=>cU x e fun v=>oo (fldA P t f) fun o=>tZ v fun b off=>eX (Nat.add off o) .fail fun n=>k (.ptr b n)
def partV (s:Option Nat) (off:Nat) (cs:List V) (k:V->AL):AL:=opt s (oo (nth cs off) k) fun n=>oo (tk n (dr off cs)) fun l=>k (.agg l)
def fldV (P:Program) (t f:Nat):Option (Nat × Option Nat):=match fldOf P t f with
 | some (o,ft)=>match shp P ft with
  | some s=>some (o,s)
  | none=>none
 | none=>none
def aAl (t:Nat) (x:Operand) (f:Nat):H:=fun P _ e k _ _=>cU x e fun v=>oo (fldV P t f) fun q=>asAgg v (fun cs=>partV q.2 q.1 cs k) .fail
def elOf (P:Program) (t:Nat):Option Nat:=match und P t with
 | some (.slice el)=>some el
 | _=>none
def arOf (P:Program) (t:Nat):Option (Nat × Nat):=match und P t with
 | some (.array n el)=>some (n,el)
 | _=>none
def ixOf (P:Program) (t:Nat):Option (Nat × Option Nat):=match und P t with
 | some (.slice el)=>match szT P el with
  | some es=>some (es,none)
  | none=>none
 | some (.array n el)=>match szT P el with
  | some es=>some (es,some n)
  | none=>none
 | _=>none
def at' (b off es len:Nat) (i:V) (k:V->AL):AL:=oo (oL i) fun j=>cW (Nat.blt j len) (eX (Nat.add off (Nat.mul j es)) .fail fun n=>k (.ptr b n))
def aAc (t:Nat) (x i:Operand):H:=fun P _ e k _ _=>eB x i e fun v i=>oo (ixOf P t) fun q=>
 opt q.2 (asSl v (fun b off len _=>at' b off q.1 len i k) (fun b off len _=>at' b off q.1 len i k) .fail .fail) fun n=>tZ v fun b off=>at' b off q.1 n i k
def hIdx (t:Nat) (x i:Operand):H:=fun P _ e k _ _=>eB x i e fun v i=>asAgg v (fun cs=>oo (arOf P t) fun q=>oo (szT P q.2) fun es=>oo (shp P q.2) fun s=>oo (oL i) fun j=>cW (Nat.blt j q.1) (partV s (Nat.mul j es) cs k))
 (gen2 P (Instr.index t) v i k)
def hUn (op:UnOp) (_:Nat) (x:Operand):H:=fun P _ e k _ _=>cU x e fun v=>match op with
 | .not=>asBool v (fun b=>k (.bool (Bool.not b))) .fail
 | op=>gen1 P (Op.unary op) v k
def hNil (x:Operand):H:=fun _ _ e k _ _=>cU x e fun v=>noNil v (k v)
def hExt (x:Operand) (i:Nat):H:=fun _ _ e k _ _=>cU x e fun v=>asTup v fun l=>oo (nth l i) k
def noIf (P:Program) (t:Nat):Bool:=match und P t with
 | none=>false
 | some (.interface _)=>false
 | some _=>true
def hMkI (t:Nat) (x:Operand):H:=fun P _ e k _ _=>cU x e fun v=>cW (noIf P t) (k (.iface t v))
def fnOf (x:Fn):Option Nat:=Fn.rec (motive:=fun _=>Option Nat) (fun g=>some g) (fun _=>none) (fun _ _=>none) (fun _ _ _ _=>none) (fun _=>none) x
def hMkF (fn:Fn) (f c:Array Operand):H:=fun _ _ e k _ _=>oo (fnOf fn) fun g=>eK f.toList e fun f=>eK c.toList e fun c=>k (.fn g f c)
def okT (ok b:Bool) (v:V):V:=match ok with
 | true=> .tup [v, .bool b]
 | false=>v
def hTa (x:Operand) (_ T:Nat) (ok:Bool):H:=fun P _ e k _ _=>cU x e fun v=>cW (noIf P T) (asIf v (fun t w=>ife (Nat.beq t T) (k (okT ok true w)) (cW ok (oo (zer P T) fun z=>k (.tup [z, .bool false]))))
 (cW ok (oo (zer P T) fun z=>k (.tup [z, .bool false]))))
def plc (P:Program) (fs:List Field) (i:Nat):Option (Nat × Nat):=match nth fs i with
 | some f=>match szT P f.type with
  | some n=>some (f.offset,n)
  | none=>none
 | none=>none
def wH (pc:Nat->Option (Nat × Nat)) (ps:List (Nat × Operand)):List V->List V->Option (List V):=List.rec (fun _ c=>some c) (fun p _ ih vs c=>List.rec none (fun v r _=>Option.rec none (fun q=>Option.rec none (fun u=>Bool.rec none (Option.rec none (fun c'=>ih r c') (pl u q.1 c)) (Nat.beq (ln u 0) q.2)) (vc v)) (pc p.1)) vs) ps
def szs (P:Program):List Field->Bool
 | []=>true
 | f :: r=>match szT P f.type with
  | some _=>szs P r
  | none=>false
def plcOf (P:Program) (t:Nat):Option (Nat->Option (Nat × Nat)):=match und P t with
 | some (.struct fs)=>match szs P fs.toList with
  | true=>some (plc P fs.toList)
  | false=>none
 | some (.array _ el)=>match szT P el with
  | some es=>some fun i=>some (Nat.mul i es,es)
  | none=>none
 | _=>none
def aAn (t:Nat) (ps:Array (Nat × Operand)):H:=fun P _ e k _ _=>eK (prt ps.toList) e fun vs=>oo (zer P t) fun z=>oo (plcOf P t) fun pc=>oo (asAgg z some none) fun z=>oo (wH pc ps.toList vs z) fun c=>k (.agg c)
def lim:Nat:=1048576
def vE (P:Program) (t:Nat):Option (Nat × Nat × List V):=match elOf P t with
 | some el=>match info P el with
  | some i=>match zer P el with
   | some z=>match vc z with
    | some c=>match Bool.and (Nat.beq (ln c 0) i.size) (Bool.and (Nat.ble i.size lim) (Nat.ble i.bytes lim))with
     | true=>some (el,i.size,c)
     | false=>none
    | none=>none
   | none=>none
  | none=>none
 | none=>none
def xJ (t len:Nat) (ps:Array (Nat × Operand)):H:=fun P _ e k _ _=>eK (prt ps.toList) e fun vs=>oo (vE P t) fun q=>
 cW (Nat.ble (Nat.mul len q.2.1) lim) (oo (wH (fun i=>some (Nat.mul i q.2.1,q.2.1)) ps.toList vs (rep q.2.2 len)) fun c=> .new c q.1 0 fun b=>k (.sl b 0 len len))
def hMks (t:Nat) (x y:Operand):H:=fun P _ e k _ _=>eB x y e fun l c=>oo (vE P t) fun q=>oo (oL l) fun l=>oo (oL c) fun c=>
 cW (Bool.and (Nat.ble l c) (Nat.ble c lim)) (.new (rep q.2.2 c) q.1 0 fun b=>k (.sl b 0 l c))
def isStr (P:Program) (t:Nat):Bool:=match und P t with
 | some .string=>true
 | _=>false
def ofB (x:Option V) (d:Nat) (f:Nat->AL):AL:=opt x (f d) fun v=>oo (oL v) f
def slN (es b off cap l h m:Nat) (k:V->AL):AL:=cW (Bool.and (Nat.ble l h) (Bool.and (Nat.ble h m) (Nat.ble m cap))) (ife (Nat.beq m l) (k (.sl b off (Nat.sub h l) (Nat.sub m l)))
 (eX (Nat.add off (Nat.mul l es)) .fail fun o=>eX (Nat.sub h l) .fail fun n=>eX (Nat.sub m l) .fail fun c=>k (.sl b o n c)))
def slO (es b off len l h:Nat) (k:V->AL):AL:=cW (Bool.and (Nat.blt 0 es) (Bool.and (Nat.ble l h) (Bool.and (Nat.ble h len) (Bool.or (Nat.beq l 0) (Nat.blt l len)))))
 (eX (Nat.add off (Nat.mul l es)) .fail fun o=>eX (Nat.sub h l) .fail fun n=>k (.so b o n es))
def soOk (es b off len es0:Nat) (p:AL):AL:=cW (Bool.and (Nat.blt 0 es) (Nat.beq es0 es)) (.sz b fun cl _ op=>cW (Bool.and (Nat.beq op es) (Nat.ble (Nat.add off (Nat.mul len es)) cl)) p)
def hiOk (hi mx:Option V):Bool:=opt mx true fun _=>opt hi false fun _=>true
def xM (t:Nat) (x:Operand) (lo hi mx:Option Operand):H:=fun P _ e k _ _=>cU x e fun v=>zW lo e fun lo=>zW hi e fun hi=>zW mx e fun mx=>cW (hiOk hi mx) (match elOf P t with
 | some el=>oo (szT P el) fun es=>asSl v (fun b off len cap=>ofB lo 0 fun l=>ofB hi len fun h=>ofB mx cap fun m=>slN es b off cap l h m k)
  (fun b off len es0=>soOk es b off len es0 (ofB lo 0 fun l=>ofB hi len fun h=>opt mx (slO es b off len l h k) fun _=>ofB mx 0 fun m=>slN es b off len l h m k))
  (ofB lo 0 fun l=>ofB hi 0 fun h=>ofB mx 0 fun m=>cW (Nat.beq (Nat.add l (Nat.add h m)) 0) (k .nils)) .fail
 | none=>cW (isStr P t) (opt mx (yJ v (fun s=>ofB lo 0 fun l=>ofB hi s.size fun h=>cW (Bool.and (Nat.ble l h) (Nat.ble h s.size)) (k (.str (s.extract l h)))) .fail) fun _=> .fail))
def aA7 (s:ByteArray):List V:=s.data.toList.map fun b=> .int .u8 (Int.ofNat b.toNat)
def rdN (b off n:Nat) (k:List V->AL):AL:=ife (Nat.beq n 0) (k []) (.rd b off n k)
def cellsOf (es:Nat) (v:V) (f:Nat->List V->AL):AL:=asSl v (fun b off len _=>rdN b off (Nat.mul len es) (f len)) (fun b off len _=>rdN b off (Nat.mul len es) (f len)) (f 0 [])
 (yJ v (fun s=>cW (Nat.beq es 1) (f s.size (aA7 s))) .fail)
def grow (el es n:Nat) (c:List V) (k:V->AL):AL:=cW (Nat.ble n lim) (.new c el es fun b=>k (.so b 0 n es))
def appO (el es b off len n:Nat) (new:List V) (k:V->AL):AL:= .sz b fun cl t op=>cW (Bool.and (Nat.beq op es) (Nat.beq t el)) (eX (Nat.add len n) .fail fun ln'=>ife (Nat.ble (Nat.add off (Nat.mul ln' es)) cl)
 (.wr b (Nat.add off (Nat.mul len es)) new (k (.so b off ln' es)))
 (cW (Bool.and (Nat.beq off 0) (Nat.beq (Nat.mul len es) cl)) (rdN b 0 (Nat.mul len es) fun old=> .del b (grow el es ln' (ap old new) k))))
def appL (el es:Nat) (s:V) (n:Nat) (new:List V) (k:V->AL):AL:=ife (Nat.beq n 0) (asSl s (fun _ _ len cap=>cW (Nat.ble len cap) (k s)) (fun b off len es0=>soOk es b off len es0 (k s)) (k s) .fail)
 (asSl s (fun b off len cap=>eX (Nat.add len n) .fail fun ln'=>ife (Nat.ble ln' cap) (.wr b (Nat.add off (Nat.mul len es)) new (k (.sl b off ln' cap))) (rdN b off (Nat.mul len es) fun old=>grow el es ln' (ap old new) k))
  (fun b off len es0=>cW (Nat.beq es0 es) (appO el es b off len n new k)) (grow el es n new k) .fail)
def isInt (P:Program) (t:Nat):Bool:=match und P t with
 | some (.int _)=>true
 | none=>true
 | _=>false
def xN (c:Call):H:=fun P _ e k _ _=>eK c.args.toList e fun vs=>match c.argTypes.toList,vs with
 | T :: U :: _,s :: x :: _=>oo (vE P T) fun q=>cW (Bool.and (Nat.blt 0 q.2.1) (Bool.not (isInt P U))) (cellsOf q.2.1 x fun n new=>appL q.1 q.2.1 s n new k)
 | _,_=> .fail
def mapK (x:Ob):(List Ent->Nat->AL)->AL:=Ob.rec (motive:=fun _=>(List Ent->Nat->AL)->AL) (fun es c=>fun f=>f es c) (fun _ _ _ _ _ _ _ _ _=>fun _=> .fail) (fun _=>fun _=> .fail) x
def hLen (c:Call):H:=fun P _ e k _ _=>eK c.args.toList e fun vs=>match c.argTypes.toList,vs with
 | T :: _,v :: _=>match und P T with
  | some (.slice _)=>asSl v (fun _ _ len _=>k (jA (.ofNat len))) (fun _ _ len _=>k (jA (.ofNat len))) (k (jA (.ofNat 0))) .fail
  | some .string=>yJ v (fun s=>k (jA (.ofNat s.size))) .fail
  | some (.map _ _)=>asMap v (fun b=> .getO b fun o=>mapK o (fun es _=>k (jA (.ofNat (ln es 0))))) (k (jA (.ofNat 0)))
  | some (.array n _)=>k (jA (.ofNat n))
  | _=> .fail
 | _,_=> .fail
def hMm (least:Bool) (c:Call):H:=fun _ _ e k _ _=>eK c.args.toList e fun vs=>match vs with
 | [.int .i64 i, .int .i64 j]=>ife least (ife (ltI j i) (k (jA j)) (k (jA i))) (ife (ltI i j) (k (jA j)) (k (jA i)))
 | _=> .fail
def yW (c:Call):H:=fun P _ e k _ _=>eK c.args.toList e fun vs=>match c.argTypes.toList,vs with
 | T :: _,v :: _=>oo (vE P T) fun q=>asSl v (fun b off len _=>ife (Nat.beq len 0) (k eT) (.wr b off (rep q.2.2 len) (k eT))) (fun b off len _=>ife (Nat.beq len 0) (k eT) (.wr b off (rep q.2.2 len) (k eT))) (k eT) .fail
 | _,_=> .fail
def isKey (P:Program) (t:Nat):Option Bool:=match und P t with
 | some (.int _)=>some false
 | some .string=>some true
 | _=>none
def sG:V->V->Option Bool
 | .int .i64 a, .int .i64 b=>some (eqI a b)
 | .int .u8 a, .int .u8 b=>some (eqI a b)
 | .str a, .str b=>some (a==b)
 | _,_=>none
def keyOk (t:Bool) (v:V):Bool:=yE v (fun _ _=>Bool.not t) (yJ v (fun _=>t) false)
def yB (x:V):List Ent->Option (Option V)
 | []=>some none
 | e :: es=>match sG x e.key with
  | some true=>some (some e.val)
  | some false=>yB x es
  | none=>none
def mapOf (P:Program) (t:Nat):Option (Nat × Bool):=match und P t with
 | some (.map kt el)=>match isKey P kt with
  | some b=>some (el,b)
  | none=>none
 | _=>none
def xK (t:Nat) (x y:Operand) (ok:Bool):H:=fun P _ e k _ _=>eB x y e fun m x=>oo (mapOf P t) fun m'=>oo (zer P m'.1) fun z=>cW (keyOk m'.2 x) (asMap m
 (fun b=> .getO b fun o=>mapK o fun es _=>oo (yB x es) fun r=>opt r (k (okT ok false z)) fun v=>k (okT ok true v)) (k (okT ok false z)))
def setE (x v:V) (c:Nat):List Ent->Option (List Ent × Nat)
 | []=>some ([⟨x,v,c⟩],Nat.succ c)
 | e :: es=>match sG x e.key with
  | some true=>some (⟨x,v,e.born⟩ :: es,c)
  | some false=>match setE x v c es with
   | some (l,c')=>some (e :: l,c')
   | none=>none
  | none=>none
def hUpd (t:Nat) (x y z:Operand):H:=fun P _ e k _ _=>eW x y z e fun m x v=>oo (mapOf P t) fun m'=>cW (keyOk m'.2 x) (asMap m
 (fun b=> .getO b fun o=>mapK o fun es c=>oo (setE x v c es) fun q=> .setO b (.map q.1 q.2) (k eT)) .fail)
def hMapN (_:Nat) (r:Option Operand):H:=fun _ _ _ k _ _=>opt r (.newO (.map [] 0) fun b=>k (.map b)) fun _=> .fail
def asPtrD {β:Type} (x:V):(Nat->Nat->β)->β->β:=V.rec (motive_1:=fun _=>(Nat->Nat->β)->β->β) (motive_2:=fun _=>Unit) (fun _ _=>fun _ d=>d) (fun _=>fun _ d=>d) (fun _=>fun _ d=>d) (fun b off=>fun f _=>f b off) (fun _ d=>d) (fun _ _ _ _=>fun _ d=>d) (fun _ _ _ _=>fun _ d=>d) (fun _ d=>d) (fun _=>fun _ d=>d) (fun _ d=>d) (fun _ _ _ _ _=>fun _ d=>d) (fun _=>fun _ d=>d) (fun _ d=>d) (fun _ _ _=>fun _ d=>d) (fun _ d=>d) (fun _ _=>fun _ d=>d) (fun _ _=>fun _ d=>d) () (fun _ _ _ _=>()) x
def rS (P:Program) (t:Nat):Option Nat:=match und P t with
 | some (.pointer e)=>some e
 | _=>none
def isUns (P:Program) (t:Nat):Bool:=match und P t with
 | some .unsafePointer=>true
 | _=>false
def convP (P:Program) (s t b off:Nat) (k:V->AL):AL:=opt (rS P s)
 (oo (rS P t) fun u=>cW (isUns P s) (oo (szT P u) fun _=> .sz b fun cl ty op=>cW (Bool.and (Nat.beq op 0) (liesAt P P.depth ty (cl / P.cellsOf ty) off u 1)) (k (.ptr b off))))
 fun e=>cW (isUns P t) (oo (szT P e) fun n=>cW (Nat.blt 0 n) (.sz b fun cl _ _=>cW (Nat.blt off cl) (k (.ptr b off))))
def aAj (s t:Nat) (x:Operand):H:=fun P _ e k _ _=>cU x e fun v=>asPtrD v (fun b off=>convP P s t b off k) (gen1 P (convert s t) v k)
def hSlD (c:Call):H:=fun _ _ e k _ _=>eK c.args.toList e fun vs=>match vs with
 | [v]=>asSl v (fun b off _ cap=>cW (Nat.blt 0 cap) (k (.ptr b off))) (fun b off len es=>cW (Nat.blt 0 len) (soOk es b off len es (k (.ptr b off)))) (k .nilp) .fail
 | _=> .fail
def aAu:List V->Option (List UInt8)
 | []=>some []
 | .int .u8 (.ofNat n) :: l=>match Nat.blt n 256 with
  | true=>match aAu l with
   | some r=>some (n.toUInt8 :: r)
   | none=>none
  | false=>none
 | _=>none
def xW (c:Call):H:=fun P _ e k _ _=>eK c.args.toList e fun vs=>match c.argTypes.toList,vs with
 | [T,_],[p, .int .i64 (.ofNat n)]=>tZ p fun b off=>oo (rS P T) fun u=>oo (szT P u) fun es=> .sz b fun cl ty _=>cW (Bool.and (Nat.beq ty u) (Bool.and (Nat.beq es 1) (Bool.and (Nat.beq off 0) (Bool.and (Nat.blt 0 n) (Nat.ble n lim))))) (.rd b 0 n fun c=>oo (aAu c) fun s=> .del b (k (.str ⟨⟨s⟩⟩)))
 | _,_=> .fail
def dX:H:=fun _ _ _ _ _ _=> .fail
def opB (x:Builtin):Call->H:=Builtin.rec (motive:=fun _=>Call->H) (xN) (fun _=>dX) (yW) (fun _=>dX) (fun _=>dX) (fun _=>dX) (fun _=>dX) (fun _=>dX) (hLen) (fun _=>dX) (hMm false) (hMm true) (fun _=>dX) (fun _=>dX) (fun _=>dX) (fun _=>dX) (fun _=>dX) (fun _=>dX) (fun _=>dX) (fun _=>dX) (hSlD) (xW) (fun _=>dX) (fun _=>dX) (fun _=>dX) (fun _=>dX) x
end
noncomputable section
def insE (d:Option Nat) (v:V) (e:Tr V) (n:Nat) (k:Tr V->AL):AL:=Option.rec (k e) (fun t=>Bool.rec .fail (pp e (some v) (pa t) k) (Nat.blt t n)) d
def acK {β:Type} (a:Ac) (f:Tr V->Nat->List Df->Option Nat->β):β:=Ac.rec f a
def insK (d:Option Nat) (a:Ac) (v:V) (k:Ac->AL):AL:=acK a fun e n ds ro=>insE d v e n fun e=>k ⟨e,n,ds,ro⟩
inductive FM where
 | ret
 | pan (ch:List PE)
def yD:FM->FM
 | .pan (⟨_,true⟩ :: _)=> .ret
 | u=>u
def aCK (u:FM) (ch:List PE):FM:=match u with
 | .pan old=> .pan (ap ch old)
 | .ret=> .pan ch
def rcv:FM->V × FM
 | .pan (⟨v,false⟩ :: eD)=>(v, .pan (⟨v,true⟩ :: eD))
 | u=>(.nili,u)
def bod (P:Program) (f:Nat):Option (Func × Code):=match fnAt P f with
 | none=>none
 | some fn=>match fn.body with
  | none=>none
  | some c=>match fn.name== "runtime.NumGoroutine" with
   | true=>none
   | false=>some (fn,c)
def aCU (l:List V):Nat->Tr V->(Tr V->AL)->AL:=List.rec (fun _ e k=>k e) (fun v _ ih n e k=>pp e (some v) (pa n) fun e=>ih (Nat.succ n) e k) l
def res1 (P:Program) (e:Tr V) (r:ResultVar) (k:V->AL):AL:=match r with
 | .tmp t=>oo (gp e (pa t)) k
 | .cell t T=>oo (gp e (pa t)) fun v=>oo (shp P T) fun s=>tZ v fun b off=>loadS s b off k
def resA (P:Program) (e:Tr V) (rs:List ResultVar):(List V->AL)->AL:=List.rec (fun k=>k []) (fun r _ ih k=>res1 P e r fun v=>ih fun vs=>k (v :: vs)) rs
def oQ (l:List V):V:=match l with
 | [v]=>v
 | l=> .tup l
def after (x:X) (ds:List Df) (u:FM):Option FM:=match ds with
 | _ :: _=>none
 | []=>match x with
  | .normal=>some (yD u)
  | .ret=>some (yD u)
  | .panic ch=>some (aCK u ch)
  | .exit _=>none
def nS (o:Oper):Option Nat:=match o.guard with
 | some _=>none
 | none=>match o.op with
  | .call c=>match c.callee with
   | .builtin .recover=>match c.args.toList with
    | []=>o.dst
    | _=>none
   | _=>none
  | _=>none
def yO (d:Nat) (o:Oper):Option Nat:=match o.guard with
 | some _=>none
 | none=>match o.op with
  | .assign (.tmp t)=>match Nat.beq t d with
   | true=>o.dst
   | false=>none
  | _=>none
def recB (c:Code):Option (Nat × Option Nat × Code):=match c with
 | .seq (.region _ ops false) y=>match ops.toList with
  | [o,p]=>match nS o with
   | some d=>match yO d p with
    | some e=>some (d,some e,y)
    | none=>none
   | none=>none
  | [o]=>match nS o with
   | some d=>some (d,none,y)
   | none=>none
  | _=>none
 | _=>none
def aDL (fn:Func) (args:List V) (k:Ac->AL):AL:=cW (Nat.ble (ln args 0) fn.ntmps) (aCU args 0 .leaf fun e=>k ⟨e,fn.ntmps,[],none⟩)
def noRes (l:List ResultVar):Bool:=match l with
 | []=>true
 | _ :: _=>false
def defer1 (P:Program) (ex:Ex) (d:Df) (u:FM) (k:FM->AL):AL:=match d with
 | .col r=> .getO r fun o=>match o with
  | .dfr true=> .setO r (.dfr false) (k u)
  | _=> .fail
 | .fn f args cap=>oo (bod P f) fun q=>cW (noRes q.1.results.toList) (aDL q.1 (ap args cap) fun a=>match recB q.2 with
  | some (d,e,y)=>insK (some d) a (rcv u).1 fun a=>insK e a (rcv u).1 fun a=>ex y a fun x a=>oo (after x a.ds (rcv u).2) k
  | none=>ex q.2 a fun x a=>oo (after x a.ds u) k)
def gone (P:Program) (fn:Func) (e:Tr V) (u:FM) (k:O->AL):AL:=match u with
 | .ret=>resA P e fn.results.toList fun l=>k (.val (oQ l))
 | .pan ch=>k (.panic ch)
def kQ (P:Program) (ex:Ex) (fn:Func) (e:Tr V) (k:O->AL) (ds:List Df):FM->AL:=List.rec (fun u=>gone P fn e u k) (fun d _ ih u=>defer1 P ex d u ih) ds
def left (x:X):Option FM:=X.rec (motive:=fun _=>Option FM) (some .ret) (fun _=>none) (some .ret) (fun ch=>some (.pan ch)) x
def left1 (P:Program) (ex:Ex) (fn:Func) (k:O->AL) (x:X) (a:Ac):AL:=oo (left x) fun u=>acK a fun e _ ds _=>kQ P ex fn e k ds u
def callQ (P:Program) (ex:Ex) (q:Func × Code) (args:List V) (k:O->AL):AL:=aDL q.1 args fun a=>ex q.2 a (left1 P ex q.1 k)
def vM (P:Program) (ex:Ex) (f:Nat) (args:List V) (k:O->AL):AL:=oo (bod P f) fun q=>callQ P ex q args k
def pendOf (x:X) (ds:List Df):Option (Option Code):=match ds with
 | _ :: _=>none
 | []=>match x with
  | .normal=>some none
  | .ret=>some (some .ret)
  | .exit id=>some (some (.exit id))
  | .panic _=>none
def putPs (ts:List Nat) (n:Nat):List V->Tr V->(Tr V->AL)->AL:=List.rec (fun vs e k=>List.rec (k e) (fun _ _ _=> .fail) vs) (fun t _ ih vs e k=>List.rec .fail (fun v r _=>cW (Nat.blt t n) (pp e (some v) (pa t) fun e=>ih r e k)) vs) ts
def stOf (j:Option Code):LoopState:=match j with
 | none=> .ready
 | some _=> .done
def aCi (ex:Ex) (l:Nat) (args:List V) (k:O->AL):AL:= .getO l fun o=>match o with
 | .loop .ready p f e n ps sg bd d=>putPs ps n args e fun e'=>ex sg ⟨e',n,[],some l⟩ fun x a=>match x with
  | .normal=> .getO l fun o=>match o with
   | .loop .ready p f e n ps sg' bd' d=> .setO l (.loop .busy p f e n ps sg' bd' d) (ex bd a fun x a=>oo (pendOf x a.ds) fun j=> .getO l fun o=>match o with
    | .loop _ _ f e n ps sg bd d=> .setO l (.loop (stOf j) j f e n ps sg bd d) (k (.val (.bool j.isNone)))
    | _=> .fail)
   | _=> .fail
  | _=> .fail
 | _=> .fail
def extN (P:Program) (f:Nat):Bool:=match fnAt P f with
 | none=>false
 | some fn=>match fn.body with
  | none=>Bool.and (fn.name== "internal/abi.NoEscape") (fn.origin== "")
  | some _=>false
def extA (P:Program) (f:Nat) (args:List V) (k:KV):AL:=match args with
 | [v]=>cW (extN P f) (k v)
 | _=> .fail
def callE (P:Program) (ex:Ex) (f:Nat) (args:List V) (k:O->AL) (kv:KV):AL:=opt (bod P f) (extA P f args kv) fun q=>callQ P ex q args k
def aBb (P:Program) (t:Nat) (name:String):Option Nat:=match info P t with
 | some i=>match i.methods.find? (·.name==name)with
  | some m=>match m.path.toList with
   | []=>match m.func with
    | some (f,p)=>match und P t with
     | some (.pointer _)=>match p with
      | true=>some f
      | false=>none
     | some _=>match p with
      | true=>none
      | false=>some f
     | none=>none
    | none=>none
   | _=>none
  | none=>none
 | none=>none
def oOut (x:O):KV->(List PE->AL)->AL:=O.rec (motive:=fun _=>KV->(List PE->AL)->AL) (fun v=>fun k _=>k v) (fun ch=>fun _ kp=>kp ch) x
def aBc (f:Operand) (c:Call):H:=fun P ex e k kp _=>cU f e fun fv=>eK c.args.toList e fun args=>asFn fv (fun g first cap=>callE P ex g (ap first (ap args cap)) (fun o=>oOut o k kp) k) fun l=>aCi ex l args fun o=>oOut o k kp
def hInv (x:Operand) (name:String) (c:Call):H:=fun P ex e k kp _=>cU x e fun v=>eK c.args.toList e fun args=>asIf v (fun t w=>oo (aBb P t name) fun f=>vM P ex f (w :: args) fun o=>oOut o k kp) .fail
def hCal (x:Callee):Call->H:=Callee.rec (motive:=fun _=>Call->H) (fun f=>aBc f) (fun x name=>hInv x name) (fun b=>opB b) x
def hCall (c:Call):H:=hCal c.callee c
def valOf (x:Callee):Option Operand:=Callee.rec (motive:=fun _=>Option Operand) (fun f=>some f) (fun _ _=>none) (fun _=>none) x
def vF (c:Call):H:=fun _ _ e _ _ kd=>oo (valOf c.callee) fun f=>cU f e fun fv=>eK c.args.toList e fun args=>asFn fv (fun g first cap=>kd (.fn g (ap first args) cap)) fun _=> .fail
def aBC (x:Operand):H:=fun _ _ e _ kp _=>cU x e fun v=>asIf v (fun t w=>kp [⟨.iface t w,false⟩]) .fail
def opH (x:Op):H:=Op.rec (motive:=fun _=>H) (fun x=>nF x) (fun x=>nF x) (fun c x y=>zU c x y) (fun t=>aAK t) (fun t x=>hBox t x) (fun t ps=>aAn t ps) (fun t n ps=>xJ t n ps) (fun t x y z=>hUpd t x y z) (fun t x=>aAx t x) (fun t x y=>yK t x y) (fun _=>dX) (fun _=>dX) (fun x=>hNil x) (fun op t x y _=>hBin op t x y) (fun op t x=>hUn op t x) (fun s t x=>aAj s t x) (fun _ _=>dX) (fun t x=>hMkI t x) (fun fn f c=>hMkF fn f c) (fun t r=>hMapN t r) (fun _ _=>dX) (fun t x y=>hMks t x y) (fun t x lo hi mx=>xM t x lo hi mx) (fun t x f=>aAe t x f) (fun t x f=>aAl t x f) (fun t x i=>aAc t x i) (fun t x i=>hIdx t x i) (fun t x y ok=>xK t x y ok) (fun t x y z=>hUpd t x y z) (fun _ _ _=>dX) (fun _ _ _ _=>dX) (fun _ _=>dX) (fun _ _=>dX) (fun _=>dX) (fun x t T ok=>hTa x t T ok) (fun x i=>hExt x i) (fun c=>hCall c) (fun _=>dX) (fun c=>vF c) (fun x=>aBC x) (fun _ _=>dX) (fun _ _ _=>dX) (fun _ _=>dX) x
def jZ (ops:List Oper) (j:Nat):Option Nat:=opt (nth ops j) none fun o=>o.dst
def aDy (ops:List Oper) (j:Nat) (w:Bool) (e:Tr V) (yes no:AL):AL:=opt (jZ ops j) no fun d=>oo (gp e (pa d)) fun v=>asBool v (fun b=>ife b (ife w yes no) (ife w no yes)) no
def fin (d:Option Nat) (e:Tr V) (n:Nat) (ds:List Df) (ro:Option Nat) (ih:Ac->KX->AL) (kx:KX) (v:V):AL:=insE d v e n fun e=>ih ⟨e,n,ds,ro⟩ kx
def pan (kx:KX) (a:Ac) (ch:List PE):AL:=kx (.panic ch) a
def dfr (d:Option Nat) (e:Tr V) (n:Nat) (ds:List Df) (ro:Option Nat) (ih:Ac->KX->AL) (kx:KX) (x:Df):AL:=opt ro (insE d eT e n fun e=>ih ⟨e,n,x :: ds,ro⟩ kx) fun _=> .fail
def opG (g:Option (Nat × Bool)) (all:List Oper) (e:Tr V) (yes no:AL):AL:=opt g yes fun g=>aDy all g.1 g.2 e yes no
def opO (all:List Oper) (P:Program) (ex:Ex) (o:Oper) (ih:Ac->KX->AL) (a:Ac) (k:KX):AL:=acK a fun e n ds ro=>opG o.guard all e (opH o.op P ex e (fin o.dst e n ds ro ih k) (pan k ⟨e,n,ds,ro⟩) (dfr o.dst e n ds ro ih k)) (fin o.dst e n ds ro ih k eT)
def opsA (all:List Oper) (P:Program) (ex:Ex) (ops:List Oper):Ac->KX->AL:=List.rec (fun a k=>k .normal a) (fun o _ ih=>opO all P ex o ih) ops
def bit (n:Nat):Nat:=Nat.shiftLeft 1 n
def has (m i:Nat):Bool:=Nat.beq (Nat.land (Nat.shiftRight m i) 1) 1
def dis (a b:Nat):Bool:=Nat.beq (Nat.land a b) 0
def opTmp:Operand->Nat
 | .tmp t=>bit t
 | _=>0
def mM:List Operand->Nat
 | []=>0
 | x :: r=>Nat.lor (opTmp x) (mM r)
def pJ (ds:List Nat) (n:Nat) (l:List Edge):Option Nat:=List.rec (some 0) (fun e _ ih=>Option.rec none (fun m=>Bool.rec (some m) (Bool.rec none (Option.rec none (fun x=>eX (Nat.lor (Nat.lor (bit e.on) x) m) none some) (nth ds (Nat.sub (Nat.sub n 1) e.on))) (Nat.blt e.on n)) (Region.binds .any e)) ih) l
def nW:Option Nat->Nat
 | some t=>bit t
 | none=>0
def gBit (all:List Oper):Option (Nat × Bool)->Nat
 | none=>0
 | some (j,_)=>nW (jZ all j)
structure Inf where
 anc:Nat
 tr:Nat
 tw:Nat
def plain?:Op->Bool
 | .defer _=>false
 | .panic _=>false
 | .select _ _=>false
 | _=>true
def infs (all:List Oper) (l:List Oper):List Nat->Nat->(List Inf->Option (List Inf))->Option (List Inf):=List.rec (fun _ _ k=>k []) (fun o _ ih ds n k=>Option.rec none (fun x=>Bool.rec none (eX (Nat.lor (mM o.op.operands.toList) (gBit all o.guard)) none fun tr=>eX (nW o.dst) none fun tw=>ih (x :: ds) (Nat.succ n) fun l=>k (⟨x,tr,tw⟩ :: l)) (plain? o.op)) (pJ ds n o.after.toList)) l
def uL (x:Inf) (l:List Inf):Nat->Bool:=List.rec (fun _=>true) (fun y _ ih n=>Bool.rec (Bool.rec false (Bool.rec false (ih (Nat.sub n 1)) (dis y.tw x.tr)) (dis x.tw (Nat.lor y.tr y.tw))) (ih (Nat.sub n 1)) (has x.anc n)) l
def aAi (l:List Inf):Nat->List Inf->Bool:=List.rec (fun _ _=>true) (fun x _ ih n done=>Bool.rec false (ih (Nat.succ n) (x :: done)) (uL x done (Nat.sub n 1))) l
def drawn (ops:List Oper):Option (List Inf):=infs ops ops [] 0 fun l=>ife (aAi l 0 []) (some l) none
def fpAp (f g:Fp):Bool:=Fp.rec (fun b lo hi w g=>Fp.rec (fun b' lo' hi' w'=>Bool.rec true (Bool.rec (Bool.rec (Bool.rec (Bool.not w') false w) true (Nat.ble hi' lo)) true (Nat.ble hi lo')) (Nat.beq b b')) (fun n0 n1=>Bool.rec (Nat.ble n1 b) true (Nat.blt b n0)) g)
 (fun n0 n1 g=>Fp.rec (fun b _ _ _=>Bool.rec (Nat.ble n1 b) true (Nat.blt b n0)) (fun m0 m1=>Bool.rec (Nat.ble m1 n0) true (Nat.ble n1 m0)) g) f g
def ap1 (f:Fp) (l:List Fp):Bool:=List.rec true (fun g _ ih=>Bool.rec false ih (fpAp f g)) l
def apL (l m:List Fp):Bool:=List.rec true (fun f _ ih=>Bool.rec false ih (ap1 f m)) l
def apart (anc:Nat) (lg:List Fp) (l:List (Nat × List Fp)):Bool:=List.rec true (fun p _ ih=>Bool.rec (Bool.rec false ih (apL lg p.2)) ih (has anc p.1)) l
def retV (v:V):AL:= .ret (.val v)
def noPan (_:List PE):AL:= .fail
def noDfr (_:Df):AL:= .fail
def opD1 (all:List Oper) (P:Program) (ex:Ex) (o:Oper) (x:Inf) (i:Nat) (lg:List (Nat × List Fp)) (e:Tr V) (n:Nat) (ih:Nat->List (Nat × List Fp)->Tr V->AL):AL:=
 opG o.guard all e (.sub (opH o.op P ex e retV noPan noDfr) fun v l=>cW (apart x.anc l lg) (insE o.dst v e n (ih (Nat.succ i) ((i,l) :: lg)))) (insE o.dst eT e n (ih (Nat.succ i) lg))
def opD (all:List Oper) (P:Program) (ex:Ex) (o:Oper) (x:Inf) (ih:Nat->List (Nat × List Fp)->Ac->KX->AL) (i:Nat) (lg:List (Nat × List Fp)) (a:Ac) (k:KX):AL:=acK a fun e n ds ro=>opD1 all P ex o x i lg e n fun i lg e=>ih i lg ⟨e,n,ds,ro⟩ k
def opsD (all:List Oper) (P:Program) (ex:Ex) (ops:List Oper):List Inf->Nat->List (Nat × List Fp)->Ac->KX->AL:=List.rec (fun _ _ _ a k=>k .normal a) (fun o _ ih is=>List.rec (fun _ _ _ _=> .fail) (fun x is _=>opD all P ex o x (ih is)) is) ops
def aGN (ops:Array Oper) (draw:Bool) (P:Program) (ex:Ex) (a:Ac) (k:KX):AL:=ife draw (oo (drawn ops.toList) fun is=>opsD ops.toList P ex ops.toList is 0 [] a k) (opsA ops.toList P ex ops.toList a k)
def blkX (x:X):Nat->KX->Ac->AL:=X.rec (motive:=fun _=>Nat->KX->Ac->AL) (fun _ k=>k .normal) (fun i=>fun id k=>ife (Nat.beq i id) (k .normal) (k (.exit i))) (fun _ k=>k .ret) (fun ch=>fun _ k=>k (.panic ch)) x
def seqX (x:X):(Ac->KX->AL)->KX->Ac->AL:=X.rec (motive:=fun _=>(Ac->KX->AL)->KX->Ac->AL) (fun f k a=>f a k) (fun i=>fun _ k a=>k (.exit i) a) (fun _ k a=>k .ret a) (fun ch=>fun _ k a=>k (.panic ch) a) x
def condX (t f:Ac->KX->AL) (c:Operand) (a:Ac) (k:KX):AL:=cU c a.e fun v=>asBool v (fun b=>ife b t f) (fun _ _=> .fail) a k
def markA (a:Ac) (k:Nat->Ac->AL):AL:=match a with
 | ⟨e,n,ds,ro⟩=>opt ro (.newO (.dfr true) fun r=>k r ⟨e,n, .col r :: ds,ro⟩) fun l=> .getO l fun o=>match o with
  | .loop _ _ _ _ _ _ _ _ d=>k d ⟨e,n,ds,ro⟩
  | _=> .fail
def jumpX:Option Code->Option X
 | none=>some .normal
 | some .ret=>some .ret
 | some (.exit id)=>some (.exit id)
 | _=>none
def isVal (x:O):AL->(List PE->AL)->AL:=O.rec (motive:=fun _=>AL->(List PE->AL)->AL) (fun _=>fun p _=>p) (fun ch=>fun _ f=>f ch) x
def aHo (l:Nat) (k:X->AL):AL:= .getO l fun o=>match o with
 | .loop st p f e n ps sg bd d=>match st with
  | .busy=> .fail
  | _=> .setO l (.loop .exhausted p f e n ps sg bd d) (oo (jumpX p) k)
 | _=> .fail
def rangeA (f:Operand) (ps:Array Tmp) (sg bd:Code) (P:Program) (ex:Ex) (a:Ac) (k:KX):AL:=cU f a.e fun fv=>markA a fun d a=>
 .newO (.loop .ready none 0 a.e a.n ps.toList sg bd d) fun l=>asFn fv (fun g first cap=>vM P ex g (ap first (ap [.yld l] cap)) fun o=>isVal o (aHo l fun x=>k x a) (fun ch=>k (.panic ch) a)) fun _=> .fail
def pF (P:Program) (ex:Ex) (c:Code):Ac->KX->AL:=Code.rec (fun a k=>k .normal a) (fun _ ops d a k=>aGN ops d P ex a k) (fun _ _ ia ib a k=>ia a fun x=>seqX x ib k) (fun c _ _ it if_ a k=>condX it if_ c a k)
 (fun id _ ib a k=>ib a fun x=>blkX x id k) (fun b ib a k=>ib a fun x=>seqX x (ex (.loop b)) k) (fun f ps sg bd _ _ a k=>rangeA f ps sg bd P ex a k) (fun id a k=>k (.exit id) a)
 (fun _ ib a k=>ib a k) (fun _ a k=>k .normal a) (fun _ _ _=> .fail) (fun a k=>k .ret a) (fun _ _ _=> .fail) c
def exec (P:Program) (n:Nat):Ex:=Nat.rec (fun _ _ _=> .fail) (fun _ ex c=>pF P ex c) n
def run0 (P:Program) (n:Nat) (f:Nat):R:=run (vM P (exec P n) f [] .ret) .leaf 0 []
def okB (r:R) (b:Bool):Bool:=match r with
 | some (.val (.bool c),_)=>c==b
 | _=>false
end
noncomputable section
theorem aGR (d n:Nat):paD (d+1) n=bif Nat.beq n 0 then .h else bif Nat.beq (n % 2) 1 then .l (paD d (n / 2)) else .r (paD d (n / 2 - 1)):=by
 show(Bool.rec (Bool.rec (Pa.r (paD d (n / 2 - 1))) (Pa.l (paD d (n / 2))) (Nat.beq (n % 2) 1)) Pa.h (Nat.beq n 0):Pa)=_
 cases Nat.beq n 0 <;> cases Nat.beq (n % 2) 1 <;> rfl
theorem wZ {a b:Nat} (h:a≠b):Nat.beq a b=false:=by
 grind [_root_.Nat.eq_of_beq_eq_true]
theorem aA0 {a b:Nat} (h:a=b):Nat.beq a b=true:=by subst h;simp
theorem aDF:∀ (d n e m:Nat),n<d->m<e->paD d n=paD e m->n=m
 | 0,_,_,_,h,_,_=>by omega
 | _+1,_,0,_,_,h,_=>by omega
 | d+1,n,e+1,m,hn,hm,h=>by
  rw [aGR,aGR]at h;rcases Nat.eq_zero_or_pos n with h0 | h0 <;> rcases Nat.eq_zero_or_pos m with g0 | g0
  ·omega
  ·subst h0;rw [aA0 rfl,wZ (by omega:m≠0)]at h
   grind
  ·subst g0;rw [aA0 rfl,wZ (by omega:n≠0)]at h
   grind
  ·rw [wZ (by omega:n≠0),wZ (by omega:m≠0)]at h;simp only [a1y]at h;by_cases h1:n % 2=1 <;> by_cases g1:m % 2=1
   ·rw [aA0 h1,aA0 g1]at h;simp only [a1z,Pa.l.injEq]at h;have:=aDF d (n / 2) e (m / 2) (by omega) (by omega) h
    omega
   ·grind [Nat.beq]
   ·grind [Nat.beq]
   ·rw [wZ h1,wZ g1]at h;simp only [a1y,Pa.r.injEq]at h;have:=aDF d (n / 2 - 1) e (m / 2 - 1) (by omega) (by omega) h
    omega
theorem pa_inj {n m:Nat} (h:pa n=pa m):n=m:=aDF (n+1) n (m+1) m (by omega) (by omega) h
section
variable {α:Type}
theorem gp_l (l r:Tr α) (v:Option α) (p:Pa):gp (.node l v r) (.l p)=gp l p:=rfl
theorem gp_r (l r:Tr α) (v:Option α) (p:Pa):gp (.node l v r) (.r p)=gp r p:=rfl
def put (t:Tr α) (v:Option α) (p:Pa):Tr α:=pp t v p fun t=>t
theorem rZ (v:Option α):∀ (p:Pa) {β:Type} (k:Tr α->β),one' v p k=k (one' v p fun t=>t)
 | .h,_,_=>rfl
 | .l p,_,k=>by
  show one' v p _=k (one' v p _)
  rw [rZ v p,rZ v p (fun t=>Tr.node t none .leaf)]
 | .r p,_,k=>by
  show one' v p _=k (one' v p _)
  rw [rZ v p,rZ v p (fun t=>Tr.node .leaf none t)]
theorem pp_k (v:Option α):∀ (t:Tr α) (p:Pa) {β:Type} (k:Tr α->β),pp t v p k=k (put t v p)
 | .leaf,p,_,k=>rZ v p k
 | .node l x r, .h,_,k=>rfl
 | .node l x r, .l p,_,k=>by
  show pp l v p _=k (pp l v p _)
  rw [pp_k v l p,pp_k v l p (fun l'=>Tr.node l' x r)]
 | .node l x r, .r p,_,k=>by
  show pp r v p _=k (pp r v p _)
  rw [pp_k v r p,pp_k v r p (fun r'=>Tr.node l x r')]
theorem aBT (v:Option α) (p:Pa):put (.leaf:Tr α) v (.l p)= .node (put .leaf v p) none .leaf:=by
 show one' v p _=_;rw [rZ];rfl
theorem aA6 (v:Option α) (p:Pa):put (.leaf:Tr α) v (.r p)= .node .leaf none (put .leaf v p):=by
 show one' v p _=_;rw [rZ];rfl
theorem put_l (l r:Tr α) (x v:Option α) (p:Pa):put (.node l x r) v (.l p)= .node (put l v p) x r:=by
 show pp l v p _=_;rw [pp_k]
theorem put_r (l r:Tr α) (x v:Option α) (p:Pa):put (.node l x r) v (.r p)= .node l x (put r v p):=by
 show pp r v p _=_;rw [pp_k]
theorem yL (v:Option α):∀ (t:Tr α) (p:Pa),gp (put t v p) p=v
 | .leaf, .h=>rfl
 | .leaf, .l p=>by rw [aBT,gp_l];exact yL v .leaf p
 | .leaf, .r p=>by rw [aA6,gp_r];exact yL v .leaf p
 | .node l x r, .h=>rfl
 | .node l x r, .l p=>by rw [put_l,gp_l];exact yL v l p
 | .node l x r, .r p=>by rw [put_r,gp_r];exact yL v r p
theorem yZ (v:Option α):∀ (t:Tr α) (p q:Pa),p≠q->gp (put t v p) q=gp t q
 | .leaf, .h, .h,h=>absurd rfl h
 | .leaf, .h, .l q,_=>rfl
 | .leaf, .h, .r q,_=>rfl
 | .leaf, .l p, .h,_=>by rw [aBT];rfl
 | .leaf, .l p, .l q,h=>by rw [aBT,gp_l,yZ v .leaf p q (fun e=>h (e ▸ rfl))];rfl
 | .leaf, .l p, .r q,_=>by rw [aBT];rfl
 | .leaf, .r p, .h,_=>by rw [aA6];rfl
 | .leaf, .r p, .l q,_=>by rw [aA6];rfl
 | .leaf, .r p, .r q,h=>by rw [aA6,gp_r,yZ v .leaf p q (fun e=>h (e ▸ rfl))];rfl
 | .node l x r, .h, .h,h=>absurd rfl h
 | .node l x r, .h, .l q,_=>rfl
 | .node l x r, .h, .r q,_=>rfl
 | .node l x r, .l p, .h,_=>by rw [put_l];rfl
 | .node l x r, .l p, .l q,h=>by rw [put_l,gp_l,gp_l,yZ v l p q (fun e=>h (e ▸ rfl))]
 | .node l x r, .l p, .r q,_=>by rw [put_l];rfl
 | .node l x r, .r p, .h,_=>by rw [put_r];rfl
 | .node l x r, .r p, .l q,_=>by rw [put_r];rfl
 | .node l x r, .r p, .r q,h=>by rw [put_r,gp_r,gp_r,yZ v r p q (fun e=>h (e ▸ rfl))]
def at_ (t:Tr α) (n:Nat):Option α:=gp t (pa n)
def pu (t:Tr α) (n:Nat) (v:Option α):Tr α:=put t v (pa n)
theorem gD (t:Tr α) (n m:Nat) (v:Option α):at_ (pu t n v) m=if m=n then v else at_ t m:=by
 by_cases h:m=n
 ·subst h;rw [a1E rfl];exact yL v t _
 ·rw [a1D h];exact yZ v t _ _ fun e=>h (pa_inj e).symm
theorem at_same {t:Tr α} {n:Nat} {v:Option α}:at_ (pu t n v) n=v:=by rw [gD,a1E rfl]
theorem at_ne {t:Tr α} {n m:Nat} {v:Option α} (h:m≠n):at_ (pu t n v) m=at_ t m:=by rw [gD,a1D h]
theorem zH (n:Nat):at_ (.leaf:Tr α) n=none:=rfl
theorem mN {β:Type} (t:Tr α) (v:Option α) (n:Nat) (k:Tr α->β):pp t v (pa n) k=k (pu t n v):=pp_k v t _ k
theorem aCs:∀ (l:List α) (n:Nat) (t:Tr α) (m:Nat),at_ (vC l n t fun t=>t) m=if n<=m/\m<n+l.length then l[m - n]? else at_ t m
 | [],n,t,m=>by rw [a1D (by simp)];rfl
 | x :: l,n,t,m=>by
  show at_ (pp t (some x) (pa n) _) m=_
  rw [mN];show at_ (vC l (n+1) (pu t n (some x)) fun t=>t) m=_
  rw [aCs l (n+1) _ m];by_cases h1:n+1<=m/\m<n+1+l.length
  ·grind
  grind [gD]
end
section
variable {α:Type}
theorem nC:∀ (l:List α) (n:Nat),nth l n=l[n]?
 | [],_=>rfl
 | _ :: _,0=>rfl
 | _ :: l,n+1=>by rw [a0w,<- nC l n];rfl
theorem aAf:∀ (n:Nat) (l:List α),dr n l=l.drop n
 | 0,_=>rfl
 | _+1,[]=>rfl
 | n+1,_ :: l=>by rw [List.drop_succ_cons,<- aAf n l];rfl
theorem vK:∀ (n:Nat) (l r:List α),tk n l=some r ↔ n<=l.length/\r=l.take n
 | 0,l,r=>by show some []=some r ↔ _;simp [eq_comm]
 | n+1,[],r=>by show none=some r ↔ _;simp
 | n+1,x :: l,r=>by
  show(Option.rec none (fun t=>some (x :: t)) (tk n l):Option (List α))=some r ↔ _
  cases h:tk n l with
  | none=>
   have:¬ n<=l.length:=fun e=>by have:=(vK n l (l.take n)).2 ⟨e,rfl⟩;rw [h]at this;cases this
   simp;omega
  | some t=>
   have:=(vK n l t).1 h;simp only [a1v,a0G,List.take_succ_cons];constructor
   ·rintro rfl;exact⟨by omega,by rw [this.2]⟩
   ·rintro⟨_,rfl⟩;rw [this.2]
theorem jN:∀ (l m:List α),ap l m=l++m
 | [],_=>rfl
 | x :: l,m=>by rw [a0q,<- jN l m];rfl
theorem ln_eq:∀ (l:List α) (n:Nat),ln l n=l.length+n
 | [],n=>by simp;rfl
 | _ :: l,n=>by
  show ln l (n+1)=_
  rw [ln_eq l (n+1),a0G];omega
theorem ln0 (l:List α):ln l 0=l.length:=ln_eq l 0
theorem ov_eq:∀ (new c r:List α),ov new c=some r ↔ new.length<=c.length/\r=new++c.drop new.length
 | [],c,r=>by show some c=some r ↔ _;simp [eq_comm]
 | x :: l,[],r=>by show none=some r ↔ _;simp
 | x :: l,_ :: c,r=>by
  show(Option.rec none (fun t=>some (x :: t)) (ov l c):Option (List α))=some r ↔ _
  cases h:ov l c with
  | none=>
   have:¬ l.length<=c.length:=fun e=>by have:=(ov_eq l c _).2 ⟨e,rfl⟩;rw [h]at this;cases this
   simp only [a0G];constructor
   ·intro e;cases e
   ·rintro⟨e,_⟩;omega
  | some t=>
   have:=(ov_eq l c t).1 h;simp only [a1v,a0G,a0q,List.drop_succ_cons];constructor
   ·rintro rfl;exact⟨by omega,by rw [this.2]⟩
   ·rintro⟨_,rfl⟩;rw [this.2]
theorem uR (new:List α):∀ (off:Nat) (c r:List α),pl new off c=some r ↔ off+new.length<=c.length/\r=c.take off++new++c.drop (off+new.length)
 | 0,c,r=>by
  show ov new c=some r ↔ _
  rw [ov_eq];simp
 | off+1,[],r=>by show none=some r ↔ _;simp
 | off+1,x :: c,r=>by
  show(Option.rec none (fun t=>some (x :: t)) (pl new off c):Option (List α))=some r ↔ _
  cases h:pl new off c with
  | none=>
   have:¬ off+new.length<=c.length:=fun e=>by have:=(uR new off c _).2 ⟨e,rfl⟩;rw [h]at this;cases this
   constructor
   ·intro e;cases e
   ·rintro⟨e,_⟩;simp at e;omega
  | some t=>
   have:=(uR new off c t).1 h;have e:off+1+new.length=(off+new.length)+1:=by omega
   simp only [a1v,a0G,e,List.take_succ_cons,List.drop_succ_cons,a0q];constructor
   ·rintro rfl;exact⟨by omega,by rw [this.2]⟩
   ·rintro⟨_,rfl⟩;rw [this.2]
theorem aD1 (l:List α):∀ n,rep l n=(List.replicate n l).flatten
 | 0=>rfl
 | n+1=>by
  show ap l (rep l n)=_
  rw [jN,aD1 l n,List.replicate_succ,List.flatten_cons]
theorem xV {β:Type} (n:Nat) (d:β) (f:Nat->β):eX n d f=f n:=rfl
end
end
noncomputable section
inductive CV where
 | val (v:V)
 | mark (n t op:Nat)
 | obj (o:Ob)
def cvB (k:Option Blk) (i:Nat):Option CV:=match k with
 | none=>none
 | some (.cells c t op)=>if i=c.length then some (.mark i t op) else c[i]?.map .val
 | some (.obj o)=>if i=0 then some (.obj o) else none
def cv (h:Tr Blk) (b i:Nat):Option CV:=cvB (at_ h b) i
theorem lK {k:Option Blk} {i:Nat} {v:V}:cvB k i=some (.val v) ↔ ∃ c t op,k=some (.cells c t op)/\c[i]? =some v:=by
 match k with
 | none=>simp [cvB]
 | some (.obj o)=>grind [cvB]
 | some (.cells c t op)=>
  simp only [cvB,a1v,Blk.cells.injEq]
  grind
theorem aAz {k:Option Blk} {i n t op:Nat}:cvB k i=some (.mark n t op) ↔ ∃ c,k=some (.cells c t op)/\c.length=n/\i=n:=by
 match k with
 | none=>simp [cvB]
 | some (.obj o)=>grind [cvB]
 | some (.cells c t' op')=>
  grind [cvB]
theorem qI {k:Option Blk} {i:Nat} {o:Ob}:cvB k i=some (.obj o) ↔ k=some (.obj o)/\i=0:=by
 match k with
 | none=>simp [cvB]
 | some (.obj o')=>grind [cvB]
 | some (.cells c t' op')=>
  grind [cvB]
theorem aGr {k:Option Blk} (h:∀ i,cvB k i=none):k=none:=by
 match k with
 | none=>rfl
 | some (.obj o)=>simp_all [cvB]
 | some (.cells c t op)=>have:=h c.length;simp [cvB]at this
theorem cvB_ext {k k':Option Blk} (h:∀ i,cvB k i=cvB k' i):k=k':=by
 match k with
 | none=>exact(aGr fun i=>(h i).symm).symm
 | some (.obj o)=>
  have:=(h 0).symm.trans (qI.2 ⟨rfl,rfl⟩)
  grind [qI]
 | some (.cells c t op)=>
  have h1:cvB (some (.cells c t op)) c.length=some (.mark c.length t op):=by grind [aAz]
  obtain⟨c',hk,hl,_⟩:=aAz.1 ((h _).symm.trans h1);subst hk;have:c'=c:=by
   apply a0t
   intro i;by_cases hi:i<c.length
   ·have h2:cvB (some (.cells c t op)) i=some (.val c[i]):=by grind [lK]
    grind [lK]
   grind
  rw [this]
def Fp.t:Fp->Nat->Nat->Prop
 | .cell b lo hi _,c,i=>c=b/\lo<=i/\i<hi
 | .fresh n0 n1,c,_=>n0<=c/\c<n1
def Fp.w:Fp->Nat->Nat->Prop
 | .cell b lo hi w,c,i=>w=true/\c=b/\lo<=i/\i<hi
 | .fresh n0 n1,c,_=>n0<=c/\c<n1
def T (l:List Fp) (b i:Nat):Prop:=∃ f∈l,f.t b i
def W (l:List Fp) (b i:Nat):Prop:=∃ f∈l,f.w b i
theorem w_t {f:Fp} {b i:Nat} (h:f.w b i):f.t b i:=by
 cases f with
 | cell=>exact h.2
 | fresh=>exact h
theorem W.t {l:List Fp} {b i:Nat} (h:W l b i):T l b i:=let ⟨f,m,x⟩:=h;⟨f,m,w_t x⟩
theorem T_app {l m:List Fp} {b i:Nat}:T (l++m) b i ↔ T l b i\/T m b i:=by grind [T]
theorem W_app {l m:List Fp} {b i:Nat}:W (l++m) b i ↔ W l b i\/W m b i:=by grind [W]
theorem aAr {f:Fp} {b i:Nat}:T [f] b i ↔ f.t b i:=by simp [T]
theorem wK {f:Fp} {b i:Nat}:W [f] b i ↔ f.w b i:=by simp [W]
theorem aId {b i:Nat}:¬ W [] b i:=fun ⟨_,h,_⟩=>by cases h
def Agr (l:List Fp) (g h:Tr Blk):Prop:=∀ b i,T l b i->cv g b i=cv h b i
structure Dif (l:List Fp) (g h1 g1:Tr Blk):Prop where
 inn:∀ b i,W l b i->cv g1 b i=cv h1 b i
 out:∀ b i,¬ W l b i->cv g1 b i=cv g b i
abbrev Pr (α:Type):=Tr Blk->Nat->Option (α × Tr Blk × Nat × List Fp)
structure iM {α:Type} (pr:Pr α):Prop where
 mono:∀ {h nx x h1 n1 l},pr h nx=some (x,h1,n1,l)->nx<=n1
 out:∀ {h nx x h1 n1 l},pr h nx=some (x,h1,n1,l)->∀ b i,¬ W l b i->cv h1 b i=cv h b i
 loc:∀ {h nx x h1 n1 l},pr h nx=some (x,h1,n1,l)->∀ g,Agr l g h->∃ g1,pr g nx=some (x,g1,n1,l)/\Dif l g h1 g1
structure Loc (f:St):Prop where
 shape:∀ {h nx lg r},f h nx lg=some r->∃ l,r.2.log=l++lg/\nx<=r.2.nx/\(∀ b i,¬ W l b i->cv r.2.h b i=cv h b i) /\
  ∀ g lg2,Agr l g h->∃ g1,f g nx lg2=some (r.1,⟨g1,r.2.nx,l++lg2⟩)/\Dif l g r.2.h g1
theorem Agr.app1 {l m:List Fp} {g h:Tr Blk} (a:Agr (m++l) g h):Agr l g h:=by grind [T_app,Agr]
theorem Loc.seq {α:Type} {pr:Pr α} {k:α->St} {f:St} (hp:iM pr) (hk:∀ x,Loc (k x))
 (hf:∀ h nx lg,f h nx lg=match pr h nx with
  | none=>none
  | some (x,h1,n1,l)=>k x h1 n1 (l++lg)):Loc f:=⟨fun {h nx lg r} e=>by
 rw [hf]at e
 cases hq:pr h nx with
 | none=>rw [hq]at e;cases e
 | some q=>
  obtain⟨x,h1,n1,l1⟩:=q;rw [hq]at e;obtain⟨l2,e1,e2,e3,e4⟩:=(hk x).shape e;refine⟨l2++l1,by rw [e1];simp,a1l (hp.mono hq) e2,fun b i hw=>?_,fun g lg2 ha=>?_⟩
  ·rw [e3 b i fun w=>hw (W_app.2 (.inl w)),hp.out hq b i fun w=>hw (W_app.2 (.inr w))]
  ·obtain⟨g1,f1,d1⟩:=hp.loc hq g ha.app1;have ha2:Agr l2 g1 h1:=fun b i t=>by
    by_cases hw:W l1 b i
    ·exact d1.inn b i hw
    ·rw [d1.out b i hw,ha b i (T_app.2 (.inl t)),hp.out hq b i hw]
   obtain⟨g2,f2,d2⟩:=e4 g1 (l1++lg2) ha2;refine⟨g2,by grind,fun b i hw=>?_,fun b i hw=>?_⟩
   ·by_cases hw2:W l2 b i
    ·exact d2.inn b i hw2
    ·rw [d2.out b i hw2,e3 b i hw2];exact d1.inn b i (by grind [W])
   ·rw [d2.out b i fun w=>hw (W_app.2 (.inl w)),d1.out b i fun w=>hw (W_app.2 (.inr w))]⟩
theorem wV {h:Tr Blk} {b c i:Nat} {k:Option Blk}:cv (pu h b k) c i=if c=b then cvB k i else cv h c i:=by
 unfold cv;rw [gD];split <;> rfl
def pRd (b off n:Nat):Pr (List V):=fun h nx=>match at_ h b with
 | some (.cells c _ _)=>match tk n (dr off c)with
  | some l=>if 0<n then some (l,h,nx,[.cell b off (off+n) false]) else none
  | none=>none
 | _=>none
theorem tk_dr {n off:Nat} {c l:List V}:tk n (dr off c)=some l ↔ (n=l.length/\(0<n->off+n<=c.length)/\∀ j,j<n->c[off+j]? =l[j]?):=by
 rw [aAf,vK]
 constructor
 ·grind
 ·rintro⟨h1,h2,h3⟩
  have hle:n<=(c.drop off).length:=by
   grind
  refine⟨hle,a0t fun j=>?_⟩
  grind
theorem pRd_loc (b off n:Nat):iM (pRd b off n):=by
 have inv:∀ {h nx x h1 n1 l},pRd b off n h nx=some (x,h1,n1,l)->h1=h/\n1=nx/\l=[.cell b off (off+n) false]/\0<n/\n=x.length/\∀ j,j<n->cv h b (off+j)=x[j]?.map .val:=by
  intro h nx x h1 n1 l e;unfold pRd at e;split at e
  ·rename_i c t op hb;split at e
   ·rename_i l' htk;split at e
    ·rename_i hn;cases e;obtain⟨e1,e2,e3⟩:=tk_dr.1 htk;refine⟨rfl,rfl,rfl,hn,e1,fun j hj=>?_⟩
     grind [cv,lK]
    ·cases e
   ·cases e
  ·cases e
 refine⟨fun e=>?_,fun e b i _=>?_,fun {h nx x h1 n1 l} e g ha=>?_⟩
 ·grind
 ·grind
 ·obtain⟨rfl,rfl,rfl,hn,hx,hv⟩:=inv e;refine⟨g,?_,fun c i hw=>?_,fun _ _ _=>rfl⟩
  ·have hg:∀ j,j<n->cv g b (off+j)=x[j]?.map .val:=fun j hj=>by
    rw [ha b (off+j) (aAr.2 ⟨rfl,by omega,by omega⟩)];exact hv j hj
   have h0:=hg 0 hn;rw [a0y (by omega),a1s]at h0;obtain⟨c,t,op,hb,_⟩:=lK.1 h0;have:tk n (dr off c)=some x:=tk_dr.2 ⟨hx,fun _=>?_,fun j hj=>?_⟩
   ·grind [pRd]
   ·have h1:=hg (n - 1) (by omega)
    grind [lK,cv]
   grind [cv,lK]
  ·rw [wK]at hw;cases hw.1
theorem aBh {g h:Tr Blk} {b:Nat} {k k':Option Blk} {l:List Fp} (hl:∀ c i,W l c i->c=b) (hi:∀ i,W l b i->cvB k' i=cvB k i) (ho:∀ i,¬ W l b i->cvB k' i=cv g b i):Dif l g (pu h b k) (pu g b k'):=
 ⟨(by grind [wV]),
  (by grind [wV])⟩
theorem aAE {g h:Tr Blk} {l:List Fp} (hl:∀ c i,¬ W l c i):Dif l g h g:=⟨(by grind),fun _ _ _=>rfl⟩
def pRd1 (b off:Nat):Pr V:=fun h nx=>match at_ h b with
 | some (.cells c _ _)=>match c[off]? with
  | some v=>some (v,h,nx,[.cell b off (off+1) false])
  | none=>none
 | _=>none
theorem aBe {b off:Nat} {h:Tr Blk} {nx:Nat} {q:V × Tr Blk × Nat × List Fp}:pRd1 b off h nx=some q ↔ cv h b off=some (.val q.1)/\q.2=(h,nx,[.cell b off (off+1) false]):=by
 obtain⟨v,q⟩:=q
 unfold pRd1 cv
 grind [lK]
theorem aCn {b lo hi:Nat}:∀ c i,¬ W [.cell b lo hi false] c i:=by grind [Fp.w,wK]
theorem pRd1_loc (b off:Nat):iM (pRd1 b off):=by
 refine⟨fun e=>?_,fun e b i _=>?_,fun e g ha=>?_⟩
 ·grind [pRd1]
 ·grind [aBe]
 ·obtain⟨e1,e2⟩:=aBe.1 e;cases e2;exact⟨g,aBe.2 ⟨by rw [ha b off (aAr.2 ⟨rfl,by omega,by omega⟩)];exact e1,rfl⟩,aAE aCn⟩
def pWr (b off:Nat) (l:List V):Pr Unit:=fun h nx=>match at_ h b with
 | some (.cells c t op)=>match pl l off c with
  | some c'=>if 0<l.length then some ((),pu h b (some (.cells c' t op)),nx,[.cell b off (off+l.length) true]) else none
  | none=>none
 | _=>none
theorem over_get {c l:List V} {off i:Nat} (h:off+l.length<=c.length):(c.take off++l++c.drop (off+l.length))[i]? =if off<=i/\i<off+l.length then l[i - off]? else c[i]?:=by
 rw [List.append_assoc,List.getElem?_append,List.length_take,Nat.min_eq_left (by omega)]
 grind
theorem over_len {c l:List V} {off:Nat} (h:off+l.length<=c.length):(c.take off++l++c.drop (off+l.length)).length=c.length:=by
 simp;omega
theorem aBD {c l:List V} {off t op i:Nat} (h:off+l.length<=c.length):cvB (some (.cells (c.take off++l++c.drop (off+l.length)) t op)) i =
 if off<=i/\i<off+l.length then l[i - off]?.map .val else cvB (some (.cells c t op)) i:=by
 simp only [cvB,over_len h,over_get h]
 grind
theorem pWr_loc (b off:Nat) (l:List V):iM (pWr b off l):=by
 have inv:∀ {h nx q},pWr b off l h nx=some q ↔ ∃ c t op,at_ h b=some (.cells c t op)/\off+l.length<=c.length/\0<l.length/\q=((),pu h b (some (.cells (c.take off++l++c.drop (off+l.length)) t op)),nx,[.cell b off (off+l.length) true]):=by
  intro h nx q;unfold pWr;constructor
  ·intro e;split at e
   ·rename_i c t op hb;split at e
    ·rename_i c' hpl;split at e
     ·rename_i hn;cases e;obtain⟨h1,rfl⟩:=(uR l off c c').1 hpl;exact⟨c,t,op,hb,h1,hn,rfl⟩
     ·cases e
    ·cases e
   ·cases e
  ·rintro⟨c,t,op,hb,h1,hn,rfl⟩
   rw [hb];simp only [];rw [(uR l off c _).2 ⟨h1,rfl⟩];simp only [hn,if_true]
 have hw:∀ c i,W [.cell b off (off+l.length) true] c i ↔ c=b/\off<=i/\i<off+l.length:=fun c i=>by rw [wK];exact⟨fun h=>h.2,fun h=>⟨rfl,h⟩⟩
 refine⟨fun e=>?_,fun e c i hn=>?_,fun {h nx x h1 n1 m} e g ha=>?_⟩
 ·obtain⟨_,_,_,_,_,_,q⟩:=inv.1 e;cases q;exact a1k _
 ·obtain⟨cs,t,op,hb,hle,_,q⟩:=inv.1 e;cases q;rw [wV];split
  ·rename_i hc;subst hc
   rw [aBD hle,a1D fun hx=>hn ((hw _ _).2 ⟨rfl,hx⟩)];unfold cv;rw [hb]
  ·rfl
 ·obtain⟨cs,t,op,hb,hle,hpos,q⟩:=inv.1 e;cases q;have hcell:∀ j,off<=j->j<off+l.length->∃ c' t' op',at_ g b=some (.cells c' t' op')/\j<c'.length:=fun j h1 h2=>by
   have hx:cv h b j=some (.val (cs[j]'(by omega))):=lK.2 ⟨cs,t,op,hb,by simp⟩
   obtain⟨c',t',op',e1,e2⟩:=lK.1 ((ha b j (aAr.2 ⟨rfl,h1,h2⟩)).trans hx);exact⟨c',t',op',e1,(a0z.1 e2).1⟩
  obtain⟨c',t',op',hg,_⟩:=hcell off (by omega) (by omega)
  have hle':off+l.length<=c'.length:=by
   obtain⟨c'',_,_,hg',hl⟩:=hcell (off+l.length - 1) (by omega) (by omega)
   rw [hg]at hg';cases hg';omega
  refine⟨_,inv.2 ⟨c',t',op',hg,hle',hpos,rfl⟩,aBh (fun c i h=>((hw c i).1 h).1) (fun i h=>?_) fun i h=>?_⟩
  ·have:=((hw _ _).1 h).2;rw [aBD hle',aBD hle,a1E this,a1E this]
  ·rw [aBD hle',a1D fun hx=>h ((hw _ _).2 ⟨rfl,hx⟩)];unfold cv;rw [hg]
def pSz (b:Nat):Pr (Nat × Nat × Nat):=fun h nx=>match at_ h b with
 | some (.cells c t op)=>some ((c.length,t,op),h,nx,[.cell b c.length (c.length+1) false])
 | _=>none
theorem pSz_loc (b:Nat):iM (pSz b):=by
 have inv:∀ {h nx q},pSz b h nx=some q ↔ ∃ n t op,cv h b n=some (.mark n t op)/\q=((n,t,op),h,nx,[.cell b n (n+1) false]):=by
  intro h nx q;unfold pSz cv
  grind [aAz]
 refine⟨fun e=>?_,fun e b i _=>?_,fun e g ha=>?_⟩
 ·grind
 ·grind
 ·obtain⟨n,t,op,h1,q⟩:=inv.1 e;cases q;exact⟨g,inv.2 ⟨n,t,op,by rw [ha b n (aAr.2 ⟨rfl,by omega,by omega⟩)];exact h1,rfl⟩,aAE aCn⟩
def jC (x:Blk):Pr Nat:=fun h nx=>match at_ h nx with
 | none=>some (nx,pu h nx (some x),nx+1,[.fresh nx (nx+1)])
 | some _=>none
theorem aEm (x:Blk):iM (jC x):=by
 have inv:∀ {h nx q},jC x h nx=some q ↔ at_ h nx=none/\q=(nx,pu h nx (some x),nx+1,[.fresh nx (nx+1)]):=by
  grind [jC]
 have hw:∀ {nx c i},W [.fresh nx (nx+1)] c i ↔ c=nx:=by grind [Fp.w,wK]
 refine⟨fun e=>?_,fun e c i hn=>?_,fun {h nx y h1 n1 m} e g ha=>?_⟩
 ·grind
 ·grind [wV]
 ·obtain⟨h0,q⟩:=inv.1 e;cases q;have:at_ g nx=none:=aGr fun i=>by
   have:=ha nx i (W.t (hw.2 rfl));unfold cv at this;rw [this,h0];rfl
  simp_all [aBh]
def pDel (b:Nat):Pr Unit:=fun h nx=>match at_ h b with
 | some (.cells c _ _)=>some ((),pu h b none,nx,[.cell b 0 (c.length+1) true])
 | _=>none
theorem aHY {c:List V} {t op i:Nat} (h:c.length<i):cvB (some (.cells c t op)) i=none:=by
 grind [cvB]
theorem pDel_loc (b:Nat):iM (pDel b):=by
 have inv:∀ {h nx q},pDel b h nx=some q ↔ ∃ c t op,at_ h b=some (.cells c t op)/\q=((),pu h b none,nx,[.cell b 0 (c.length+1) true]):=by
  grind [pDel]
 have hw:∀ {n c i},W [.cell b 0 (n+1) true] c i ↔ c=b/\i<=n:=by grind [Fp.w,wK]
 refine⟨fun e=>?_,fun e c i hn=>?_,fun {h nx y h1 n1 m} e g ha=>?_⟩
 ·grind
 ·obtain⟨cs,t,op,hb,q⟩:=inv.1 e;cases q;rw [wV];split
  ·rename_i hc;subst hc
   have:cs.length<i:=by
    grind
   unfold cv;rw [hb,aHY this];rfl
  ·rfl
 ·obtain⟨cs,t,op,hb,q⟩:=inv.1 e;cases q;have h1:cv h b cs.length=some (.mark cs.length t op):=aAz.2 ⟨cs,hb,rfl,rfl⟩;obtain⟨c',hg,hl,_⟩:=aAz.1 ((ha b _ (by grind [W.t])).trans h1)
  refine⟨_,(by grind),aBh (fun c i h=>(hw.1 h).1) (fun _ _=>rfl) fun i h=>?_⟩
  have:c'.length<i:=by
   grind
  unfold cv;rw [hg,aHY this];rfl
def nU (b:Nat):Pr Ob:=fun h nx=>match at_ h b with
 | some (.obj o)=>some (o,h,nx,[.cell b 0 1 false])
 | _=>none
theorem aLc (b:Nat):iM (nU b):=by
 have inv:∀ {h nx q},nU b h nx=some q ↔ cv h b 0=some (.obj q.1)/\q.2=(h,nx,[.cell b 0 1 false]):=by
  intro h nx q;obtain⟨o,q⟩:=q;unfold nU cv
  grind [qI]
 refine⟨fun e=>?_,fun e b i _=>?_,fun e g ha=>?_⟩
 ·grind
 ·grind
 ·obtain⟨e1,e2⟩:=inv.1 e;cases e2;exact⟨g,inv.2 ⟨by rw [ha b 0 (aAr.2 ⟨rfl,by omega,by omega⟩)];exact e1,rfl⟩,aAE aCn⟩
def pU (b:Nat) (o:Ob):Pr Unit:=fun h nx=>match at_ h b with
 | some (.obj _)=>some ((),pu h b (some (.obj o)),nx,[.cell b 0 1 true])
 | _=>none
theorem aJF (b:Nat) (o:Ob):iM (pU b o):=by
 have inv:∀ {h nx q},pU b o h nx=some q ↔ (∃ o',cv h b 0=some (.obj o'))/\q=((),pu h b (some (.obj o)),nx,[.cell b 0 1 true]):=by
  intro h nx q;unfold pU cv;constructor
  ·intro e;split at e
   ·simp_all [qI]
   ·cases e
  grind [qI]
 have hw:∀ {c i},W [.cell b 0 1 true] c i ↔ c=b/\i=0:=by grind [Fp.w,wK]
 have far:∀ (o:Ob) i,i≠0->cvB (some (.obj o)) i=none:=fun o i h=>by simp [cvB,h]
 refine⟨fun e=>?_,fun e c i hn=>?_,fun {h nx y h1 n1 m} e g ha=>?_⟩
 ·grind
 ·obtain⟨⟨o',h0⟩,q⟩:=inv.1 e;cases q;rw [wV];split
  ·rename_i hc;subst hc
   have:i≠0:=by grind
   grind [cv,qI]
  ·rfl
 ·obtain⟨⟨o',h0⟩,q⟩:=inv.1 e;cases q;have hg:=(ha b 0 (W.t (hw.2 ⟨rfl,rfl⟩))).trans h0;refine⟨_,inv.2 ⟨⟨o',hg⟩,rfl⟩,aBh (fun c i h=>(hw.1 h).1) (fun _ _=>rfl) fun i h=>?_⟩
  have:i≠0:=by grind
  grind [cv,qI]
theorem aDM {n0 n1:Nat} {f:Fp}:∀ {l:List Fp},f∈l->f∈eD n0 n1 l\/∀ b i,f.t b i->n0<=b/\b<n1
 | [],h=>by cases h
 | g :: l,h=>by
  have key:(eD n0 n1 (g :: l)=g :: eD n0 n1 l)\/(eD n0 n1 (g :: l)=eD n0 n1 l/\∀ b i,g.t b i->n0<=b/\b<n1):=by
   cases g with
   | cell b lo hi w=>
    have e:eD n0 n1 (.cell b lo hi w :: l)=bif Nat.blt b n0 then .cell b lo hi w :: eD n0 n1 l else bif Nat.blt b n1 then eD n0 n1 l else .cell b lo hi w :: eD n0 n1 l:=by
     show(Bool.rec (Bool.rec (Fp.cell b lo hi w :: eD n0 n1 l) (eD n0 n1 l) (Nat.blt b n1)) (Fp.cell b lo hi w :: eD n0 n1 l) (Nat.blt b n0):List Fp)=_
     cases Nat.blt b n0 <;> cases Nat.blt b n1 <;> rfl
    rw [e];cases h1:Nat.blt b n0 with
    | true=>exact .inl rfl
    | false=>
     cases h2:Nat.blt b n1 with
     | false=>exact .inl rfl
     | true=>
      refine .inr ⟨rfl,fun c i hc=>?_⟩
      obtain⟨rfl,_⟩:=hc;have h3:¬ c<n0:=fun hlt=>by rw [(a1h ▸ hlt:Nat.blt c n0=true)]at h1;cases h1
      exact⟨by omega,by rw [a1h]at h2;exact h2⟩
   | fresh m0 m1=>
    have e:eD n0 n1 (.fresh m0 m1 :: l)=bif Nat.ble n0 m0 then(bif Nat.ble m1 n1 then eD n0 n1 l else .fresh m0 m1 :: eD n0 n1 l) else .fresh m0 m1 :: eD n0 n1 l:=by
     show(Bool.rec (Fp.fresh m0 m1 :: eD n0 n1 l) (Bool.rec (Fp.fresh m0 m1 :: eD n0 n1 l) (eD n0 n1 l) (Nat.ble m1 n1)) (Nat.ble n0 m0):List Fp)=_
     cases Nat.ble n0 m0 <;> cases Nat.ble m1 n1 <;> rfl
    rw [e];cases h1:Nat.ble n0 m0 with
    | false=>exact .inl rfl
    | true=>
     cases h2:Nat.ble m1 n1 with
     | false=>exact .inl rfl
     | true=>
      refine .inr ⟨rfl,fun c i hc=>?_⟩
      have:=a1j h1;have:=a1j h2;have:m0<=c/\c<m1:=hc;omega
  rcases a0R.1 h with rfl | h
  ·rcases key with k | k
   ·exact .inl (by rw [k];exact .head _)
   ·exact .inr k.2
  ·rcases aDM h with o | o
   ·rcases key with k | k
    ·exact .inl (by rw [k];exact .tail _ o)
    ·exact .inl (by rw [k.1];exact o)
   ·exact .inr o
def kU (p:St):Pr (V × List Fp):=fun h nx=>match p h nx []with
 | some (.val v,s)=>some ((v, .fresh nx s.nx :: eD nx s.nx s.log),s.h,s.nx, .fresh nx s.nx :: eD nx s.nx s.log)
 | _=>none
theorem aE1 {p:St} (hp:Loc p):iM (kU p):=by
 have inv:∀ {h nx q},kU p h nx=some q ↔ ∃ v s,p h nx []=some (.val v,s)/\q=((v, .fresh nx s.nx :: eD nx s.nx s.log),s.h,s.nx, .fresh nx s.nx :: eD nx s.nx s.log):=by
  grind [kU]
 have sub:∀ {n0 n1 l b i},T l b i->T (.fresh n0 n1 :: eD n0 n1 l) b i:=fun {n0 n1 l b i} ⟨f,hf,ht⟩=>by
  rcases aDM hf with h | h
  ·exact⟨f, .tail _ h,ht⟩
  ·exact⟨_, .head _,h b i ht⟩
 have subw:∀ {n0 n1 l b i},W l b i->W (.fresh n0 n1 :: eD n0 n1 l) b i:=fun {n0 n1 l b i} ⟨f,hf,ht⟩=>by
  rcases aDM hf with h | h
  ·exact⟨f, .tail _ h,ht⟩
  ·exact⟨_, .head _,h b i (w_t ht)⟩
 refine⟨fun e=>?_,fun e b i hn=>?_,fun {h nx y h1 n1 m} e g ha=>?_⟩
 ·obtain⟨v,s,h1,q⟩:=inv.1 e;cases q;obtain⟨l,_,h2,_⟩:=hp.shape h1;exact h2
 ·obtain⟨v,s,h1,q⟩:=inv.1 e;cases q;obtain⟨l,h0,_,h3,_⟩:=hp.shape h1
  grind
 ·obtain⟨v,s,h1,q⟩:=inv.1 e;cases q;obtain⟨l,h0,_,h3,h4⟩:=hp.shape h1;simp only [a0p]at h0;subst h0;obtain⟨g1,f1,d1⟩:=h4 g [] fun b i t=>ha b i (sub t)
  simp only [a0p]at f1;refine⟨g1,inv.2 ⟨v,_,f1,rfl⟩,fun b i hw=>?_,(by grind [Dif.out])⟩
  by_cases hw':W s.log b i
  ·exact d1.inn b i hw'
  ·rw [d1.out b i hw',ha b i hw.t,h3 b i hw']
theorem ifN_eq {β:Type} (a b:Nat) (d p:β):ifN (Nat.blt a b) d p=if a<b then p else d:=by
 cases h:Nat.blt a b with
 | true=>rw [a1h]at h;rw [a1E h];rfl
 | false=>rw [a1D fun e=>by rw [(a1h ▸ e:Nat.blt a b=true)]at h;cases h];rfl
section
variable {α:Type} (h:Tr Blk) (nx:Nat) (lg:List Fp)
def thn (pr:Pr α) (ih:α->St):St:=fun h nx lg=>match pr h nx with
 | none=>none
 | some (x,h1,n1,l)=>ih x h1 n1 (l++lg)
theorem rRd_eq (b off n:Nat) (ih:List V->St):rRd b off n ih h nx lg=thn (pRd b off n) ih h nx lg:=by
 unfold rRd thn pRd at_
 cases gp h (pa b)with
 | none=>rfl
 | some x=>cases x with
  | obj o=>rfl
  | cells c t op=>
   show opt (tk n (dr off c)) none _=_
   simp only [];cases tk n (dr off c)with
   | none=>rfl
   | some l=>
    show ifN (Nat.blt 0 n) none _=_
    grind [ifN_eq]
theorem rRd1_eq (b off:Nat) (ih:V->St):rRd1 b off ih h nx lg=thn (pRd1 b off) ih h nx lg:=by
 unfold rRd1 thn pRd1 at_
 cases gp h (pa b)with
 | none=>rfl
 | some x=>cases x with
  | obj o=>rfl
  | cells c t op=>
   show opt (nth c off) none _=_
   rw [nC];simp only [];cases c[off]? <;> rfl
theorem rWr_eq (b off:Nat) (l:List V) (ih:St):rWr b off l ih h nx lg=thn (pWr b off l) (fun _=>ih) h nx lg:=by
 unfold rWr thn pWr at_
 cases gp h (pa b)with
 | none=>rfl
 | some x=>cases x with
  | obj o=>rfl
  | cells c t op=>
   show opt (pl l off c) none _=_
   simp only [];cases pl l off c with
   | none=>rfl
   | some c'=>
    show pp h _ (pa b) _=_
    rw [mN,ifN_eq,ln0]
    grind
theorem rSz_eq (b:Nat) (ih:Nat->Nat->Nat->St):rSz b ih h nx lg=thn (pSz b) (fun x=>ih x.1 x.2.1 x.2.2) h nx lg:=by
 unfold rSz thn pSz at_
 cases gp h (pa b)with
 | none=>rfl
 | some x=>cases x with
  | obj o=>rfl
  | cells c t op=>
   show eX (ln c 0) none (fun n=>ih n t op h nx (.cell b n (Nat.succ n) false :: lg))=_
   rw [xV,ln0];rfl
theorem aFg (x:Blk) (ih:Nat->St):rNew x ih h nx lg=thn (jC x) ih h nx lg:=by
 unfold rNew thn jC
 rw [xV]
 show opt (at_ h nx) _ _=_
 cases at_ h nx with
 | none=>
  show pp h _ (pa nx) _=_
  rw [mN];rfl
 | some x=>rfl
theorem rDel_eq (b:Nat) (ih:St):rDel b ih h nx lg=thn (pDel b) (fun _=>ih) h nx lg:=by
 unfold rDel thn pDel at_
 cases gp h (pa b)with
 | none=>rfl
 | some x=>cases x with
  | obj o=>rfl
  | cells c t op=>
   show pp h none (pa b) _=_
   rw [mN,ln0];rfl
theorem rGetO_eq (b:Nat) (ih:Ob->St):rGetO b ih h nx lg=thn (nU b) ih h nx lg:=by
 unfold rGetO thn nU at_
 cases gp h (pa b)with
 | none=>rfl
 | some x=>cases x with
  | obj o=>rfl
  | cells c t op=>rfl
theorem rSetO_eq (b:Nat) (o:Ob) (ih:St):rSetO b o ih h nx lg=thn (pU b o) (fun _=>ih) h nx lg:=by
 unfold rSetO thn pU at_
 cases gp h (pa b)with
 | none=>rfl
 | some x=>cases x with
  | obj o'=>
   show pp h _ (pa b) _=_
   rw [mN];rfl
  | cells c t op=>rfl
theorem rSub_eq (p:St) (ih:V->List Fp->St):rSub p ih h nx lg=thn (kU p) (fun x=>ih x.1 x.2) h nx lg:=by
 unfold rSub rSub1 thn kU
 grind [jN]
end
theorem aA3 (b off n:Nat) (k:List V->AL):run (.rd b off n k)=thn (pRd b off n) fun x=>run (k x):=funext fun h=>funext fun nx=>funext fun lg=>rRd_eq h nx lg b off n fun x=>run (k x)
theorem aGf (b off:Nat) (k:V->AL):run (.rd1 b off k)=thn (pRd1 b off) fun x=>run (k x):=funext fun h=>funext fun nx=>funext fun lg=>rRd1_eq h nx lg b off fun x=>run (k x)
theorem aAw (b off:Nat) (l:List V) (k:AL):run (.wr b off l k)=thn (pWr b off l) fun _=>run k:=funext fun h=>funext fun nx=>funext fun lg=>rWr_eq h nx lg b off l (run k)
theorem aAI (b:Nat) (k:Nat->Nat->Nat->AL):run (.sz b k)=thn (pSz b) fun x=>run (k x.1 x.2.1 x.2.2):=funext fun h=>funext fun nx=>funext fun lg=>rSz_eq h nx lg b fun x y z=>run (k x y z)
theorem aBt (c:List V) (t op:Nat) (k:Nat->AL):run (.new c t op k)=thn (jC (.cells c t op)) fun x=>run (k x):=funext fun h=>funext fun nx=>funext fun lg=>aFg h nx lg _ fun x=>run (k x)
theorem aDb (b:Nat) (k:AL):run (.del b k)=thn (pDel b) fun _=>run k:=funext fun h=>funext fun nx=>funext fun lg=>rDel_eq h nx lg b (run k)
theorem aBY (o:Ob) (k:Nat->AL):run (.newO o k)=thn (jC (.obj o)) fun x=>run (k x):=funext fun h=>funext fun nx=>funext fun lg=>aFg h nx lg _ fun x=>run (k x)
theorem lJ (b:Nat) (k:Ob->AL):run (.getO b k)=thn (nU b) fun x=>run (k x):=funext fun h=>funext fun nx=>funext fun lg=>rGetO_eq h nx lg b fun x=>run (k x)
theorem uS (b:Nat) (o:Ob) (k:AL):run (.setO b o k)=thn (pU b o) fun _=>run k:=funext fun h=>funext fun nx=>funext fun lg=>rSetO_eq h nx lg b o (run k)
theorem aE0 (p:AL) (k:V->List Fp->AL):run (.sub p k)=thn (kU (run p)) fun x=>run (k x.1 x.2):=funext fun h=>funext fun nx=>funext fun lg=>rSub_eq h nx lg (run p) fun x y=>run (k x y)
theorem hP:∀ p:AL,Loc (run p)
 | .ret o=>⟨fun {h nx lg r} e=>by cases e;exact⟨[],rfl,a1k _,fun _ _ _=>rfl,fun g lg2 _=>⟨g,rfl,aAE fun _ _=>aId⟩⟩⟩
 | .fail=>⟨fun e=>by cases e⟩
 | .rd b off n k=>Loc.seq (pRd_loc b off n) (fun x=>hP (k x)) fun h nx lg=>by rw [aA3];rfl
 | .rd1 b off k=>Loc.seq (pRd1_loc b off) (fun x=>hP (k x)) fun h nx lg=>by rw [aGf];rfl
 | .wr b off l k=>Loc.seq (pWr_loc b off l) (fun _=>hP k) fun h nx lg=>by rw [aAw];rfl
 | .sz b k=>Loc.seq (pSz_loc b) (fun x=>hP (k x.1 x.2.1 x.2.2)) fun h nx lg=>by rw [aAI];rfl
 | .new c t op k=>Loc.seq (aEm (.cells c t op)) (fun x=>hP (k x)) fun h nx lg=>by rw [aBt];rfl
 | .del b k=>Loc.seq (pDel_loc b) (fun _=>hP k) fun h nx lg=>by rw [aDb];rfl
 | .newO o k=>Loc.seq (aEm (.obj o)) (fun x=>hP (k x)) fun h nx lg=>by rw [aBY];rfl
 | .getO b k=>Loc.seq (aLc b) (fun x=>hP (k x)) fun h nx lg=>by rw [lJ];rfl
 | .setO b o k=>Loc.seq (aJF b o) (fun _=>hP k) fun h nx lg=>by rw [uS];rfl
 | .sub p k=>Loc.seq (aE1 (hP p)) (fun x=>hP (k x.1 x.2)) fun h nx lg=>by rw [aE0];rfl
end
noncomputable section
abbrev Rho:=Nat->Option (Nat × Nat)
def Rho.le (ρ ρ':Rho):Prop:=∀ b x,ρ b=some x->ρ' b=some x
theorem Rho.le_refl (ρ:Rho):ρ.le ρ:=fun _ _ h=>h
theorem Rho.le_trans {a b c:Rho} (h:a.le b) (k:b.le c):a.le c:=fun x y e=>k x y (h x y e)
mutual
def tv (ρ:Rho):V->Option Value
 | .int k n=>some (.int k n)
 | .bool b=>some (.bool b)
 | .str s=>some (.string s)
 | .ptr b off=>(ρ b).map fun x=> .pointer (some ⟨x.1,off,none⟩)
 | .nilp=>some (.pointer none)
 | .sl b off len cap=>(ρ b).map fun x=> .slice (some ⟨x.1,off,none⟩) len cap
 | .so b off len es=>(ρ b).map fun x=> .slice (some ⟨x.1,off,none⟩) len (x.2 - off / es)
 | .nils=>some (.slice none 0 0)
 | .map b=>(ρ b).map fun x=> .map (some x.1)
 | .nilm=>some (.map none)
 | .fn f a c=>match tvs ρ a with
  | some x=>match tvs ρ c with
   | some y=>some (.func (.func f) ⟨x⟩ ⟨y⟩)
   | none=>none
  | none=>none
 | .yld l=>(ρ l).map fun x=> .func (.yield x.1) #[] #[]
 | .nilf=>some .nilFunc
 | .iface t v=>match tv ρ v with
  | some x=>some (.iface t x)
  | none=>none
 | .nili=>some .nilIface
 | .agg cs=>match iL cs with
  | true=>match tvs ρ cs with
   | some l=>some (.agg ⟨l⟩)
   | none=>none
  | false=>none
 | .tup vs=>match tvs ρ vs with
  | some l=>some (.tuple ⟨l⟩)
  | none=>none
def tvs (ρ:Rho):List V->Option (List Value)
 | []=>some []
 | v :: l=>match tv ρ v with
  | some x=>match tvs ρ l with
   | some r=>some (x :: r)
   | none=>none
  | none=>none
end
theorem xY {α:Type} {ρ ρ':Rho} (h:ρ.le ρ') {b:Nat} {f:Nat × Nat->α} {y:α} (e:(ρ b).map f=some y):(ρ' b).map f=some y:=by
 cases hb:ρ b with
 | none=>rw [hb]at e;cases e
 | some x=>rw [h b x hb];rw [hb]at e;exact e
mutual
theorem mO {ρ ρ':Rho} (h:ρ.le ρ'):∀ (v:V) {x:Value},tv ρ v=some x->tv ρ' v=some x
 | .int _ _,_,e=>e
 | .bool _,_,e=>e
 | .str _,_,e=>e
 | .ptr _ _,_,e=>xY h e
 | .nilp,_,e=>e
 | .sl _ _ _ _,_,e=>xY h e
 | .so _ _ _ _,_,e=>xY h e
 | .nils,_,e=>e
 | .map _,_,e=>xY h e
 | .nilm,_,e=>e
 | .fn f a c,x,e=>by
  simp only [tv]at e ⊢;cases ha:tvs ρ a with
  | none=>rw [ha]at e;cases e
  | some y=>
   rw [ha]at e;cases hc:tvs ρ c with
   | none=>rw [hc]at e;cases e
   | some z=>rw [hc]at e;rw [sV h a ha,sV h c hc];exact e
 | .yld _,_,e=>xY h e
 | .nilf,_,e=>e
 | .iface t v,x,e=>by
  simp only [tv]at e ⊢;cases ha:tv ρ v with
  | none=>rw [ha]at e;cases e
  | some y=>rw [ha]at e;rw [mO h v ha];exact e
 | .nili,_,e=>e
 | .agg cs,x,e=>by
  simp only [tv]at e ⊢;cases hc:iL cs with
  | false=>rw [hc]at e;cases e
  | true=>
   rw [hc]at e;simp only at e ⊢
   cases ha:tvs ρ cs with
   | none=>rw [ha]at e;cases e
   | some y=>rw [ha]at e;rw [sV h cs ha];exact e
 | .tup cs,x,e=>by
  simp only [tv]at e ⊢;cases ha:tvs ρ cs with
  | none=>rw [ha]at e;cases e
  | some y=>rw [ha]at e;rw [sV h cs ha];exact e
theorem sV {ρ ρ':Rho} (h:ρ.le ρ'):∀ (l:List V) {x:List Value},tvs ρ l=some x->tvs ρ' l=some x
 | [],_,e=>e
 | v :: l,x,e=>by
  simp only [tvs]at e ⊢;cases ha:tv ρ v with
  | none=>rw [ha]at e;cases e
  | some y=>
   rw [ha]at e;cases hc:tvs ρ l with
   | none=>rw [hc]at e;cases e
   | some z=>rw [hc]at e;rw [mO h v ha,sV h l hc];exact e
end
theorem eF {ρ:Rho} {v:V} {l:List V} {r:List Value}:tvs ρ (v :: l)=some r ↔ ∃ x y,tv ρ v=some x/\tvs ρ l=some y/\r=x :: y:=by
 simp only [tvs]
 cases tv ρ v with
 | none=>simp
 | some x=>cases tvs ρ l with
  | none=>simp
  | some y=>simp [eq_comm]
theorem lX {ρ:Rho} {r:List Value}:tvs ρ []=some r ↔ r=[]:=by simp [tvs,eq_comm]
theorem mQ {ρ:Rho}:∀ {l m:List V} {r:List Value},tvs ρ (l++m)=some r ↔ ∃ x y,tvs ρ l=some x/\tvs ρ m=some y/\r=x++y
 | [],m,r=>by
  constructor
  ·intro h;exact⟨[],r,rfl,h,rfl⟩
  ·rintro⟨x,y,h1,h2,rfl⟩;rw [lX]at h1;subst h1;exact h2
 | v :: l,m,r=>by
  rw [a0q,eF];constructor
  ·rintro⟨x,y,h1,h2,rfl⟩
   obtain⟨a,b,h3,h4,rfl⟩:=mQ.1 h2;exact⟨x :: a,b,eF.2 ⟨x,a,h1,h3,rfl⟩,h4,rfl⟩
  ·rintro⟨a,b,h1,h2,rfl⟩
   obtain⟨x,y,h3,h4,rfl⟩:=eF.1 h1;exact⟨x,y++b,h3,mQ.2 ⟨y,b,h4,h2,rfl⟩,rfl⟩
theorem vP {ρ:Rho}:∀ {l:List V} {r:List Value},tvs ρ l=some r->r.length=l.length
 | [],r,h=>by rw [lX]at h;subst h;rfl
 | v :: l,r,h=>by
  obtain⟨x,y,_,h2,rfl⟩:=eF.1 h;simp [vP h2]
theorem aBR {ρ:Rho}:∀ {l:List V} {r:List Value} {i:Nat} {v:V},tvs ρ l=some r->l[i]? =some v->∃ x,r[i]? =some x/\tv ρ v=some x
 | [],_,_,_,_,h=>by simp at h
 | u :: l,r,0,v,h,e=>by
  obtain⟨x,y,h1,h2,rfl⟩:=eF.1 h;simp only [a0x,a1v]at e ⊢;subst e;exact⟨x,rfl,h1⟩
 | u :: l,r,i+1,v,h,e=>by
  obtain⟨x,y,h1,h2,rfl⟩:=eF.1 h;simp only [a0w]at e ⊢;exact aBR h2 e
theorem aGh {ρ:Rho} {l:List V} {r:List Value} (n:Nat) (h:tvs ρ l=some r):tvs ρ (l.take n)=some (r.take n)/\tvs ρ (l.drop n)=some (r.drop n):=by
 have h':=h
 rw [<- List.take_append_drop n l,mQ]at h'
 obtain⟨x,y,h1,h2,rfl⟩:=h'
 have hx:=vP h1
 have hy:=vP h2
 simp only [List.length_take,List.length_drop]at hx hy
 by_cases hn:n<=l.length
 ·have:x.length=n:=by omega
  rw [h1,h2,List.take_left' this,List.drop_left' this];exact⟨rfl,rfl⟩
 ·have hy0:y=[]:=a0s (by omega)
  subst hy0;rw [h1,h2,a0p,a1e (by omega),a0r (by omega)];exact⟨rfl,rfl⟩
def eH:Value->Prop
 | .agg _ | .tuple _=>False
 | _=>True
theorem qH {v:V} {l:List V}:iL (v :: l)=true ↔ isC v=true/\iL l=true:=by
 simp only [iL];cases isC v <;> simp
theorem nJ:∀ {l:List V},iL l=true ↔ ∀ v∈l,isC v=true
 | []=>by simp [iL]
 | v :: l=>by rw [qH,nJ (l:=l)];simp
theorem aCB {ρ:Rho}:∀ {v:V} {x:Value},isC v=true->tv ρ v=some x->eH x
 | .int _ _,_,_,e=>by cases e;trivial
 | .bool _,_,_,e=>by cases e;trivial
 | .str _,_,_,e=>by cases e;trivial
 | .ptr _ _,_,_,e=>by simp only [tv,a1r]at e;obtain⟨y,_,rfl⟩:=e;trivial
 | .nilp,_,_,e=>by cases e;trivial
 | .sl _ _ _ _,_,_,e=>by simp only [tv,a1r]at e;obtain⟨y,_,rfl⟩:=e;trivial
 | .so _ _ _ _,_,_,e=>by simp only [tv,a1r]at e;obtain⟨y,_,rfl⟩:=e;trivial
 | .nils,_,_,e=>by cases e;trivial
 | .map _,_,_,e=>by simp only [tv,a1r]at e;obtain⟨y,_,rfl⟩:=e;trivial
 | .nilm,_,_,e=>by cases e;trivial
 | .fn _ a c,x,_,e=>by
  simp only [tv]at e;cases ha:tvs ρ a with
  | none=>rw [ha]at e;cases e
  | some y=>rw [ha]at e;cases hc:tvs ρ c with
   | none=>rw [hc]at e;cases e
   | some z=>rw [hc]at e;cases e;trivial
 | .yld _,_,_,e=>by simp only [tv,a1r]at e;obtain⟨y,_,rfl⟩:=e;trivial
 | .nilf,_,_,e=>by cases e;trivial
 | .iface _ v,x,_,e=>by
  simp only [tv]at e;cases ha:tv ρ v with
  | none=>rw [ha]at e;cases e
  | some y=>rw [ha]at e;cases e;trivial
 | .nili,_,_,e=>by cases e;trivial
 | .agg _,_,h,_=>by cases h
 | .tup _,_,h,_=>by cases h
def cells (ρ:Rho) (l:List V) (r:List Value):Prop:=iL l=true/\tvs ρ l=some r
theorem cells.is {ρ:Rho}:∀ {l:List V} {r:List Value},cells ρ l r->∀ x∈r,eH x
 | [],r,h,x,hx=>by rw [lX.1 h.2]at hx;cases hx
 | v :: l,r,h,x,hx=>by
  obtain⟨y,z,h1,h2,rfl⟩:=eF.1 h.2;obtain⟨h3,h4⟩:=qH.1 h.1;rcases a0R.1 hx with rfl | hx
  ·exact aCB h3 h1
  ·exact cells.is ⟨h4,h2⟩ x hx
theorem cells.mono {ρ ρ':Rho} (h:ρ.le ρ') {l:List V} {r:List Value} (c:cells ρ l r):cells ρ' l r:=⟨c.1,sV h l c.2⟩
theorem cells.app {ρ:Rho} {l m:List V} {r s:List Value} (c:cells ρ l r) (d:cells ρ m s):cells ρ (l++m) (r++s):=
 ⟨nJ.2 fun v hv=>by
  rcases a0O.1 hv with h | h
  ·exact nJ.1 c.1 v h
  ·exact nJ.1 d.1 v h,mQ.2 ⟨r,s,c.2,d.2,rfl⟩⟩
theorem cells.take {ρ:Rho} {l:List V} {r:List Value} (c:cells ρ l r) (n:Nat):cells ρ (l.take n) (r.take n):=⟨nJ.2 fun v hv=>nJ.1 c.1 v (List.mem_of_mem_take hv),(aGh n c.2).1⟩
theorem cells.drop {ρ:Rho} {l:List V} {r:List Value} (c:cells ρ l r) (n:Nat):cells ρ (l.drop n) (r.drop n):=⟨nJ.2 fun v hv=>nJ.1 c.1 v (List.mem_of_mem_drop hv),(aGh n c.2).2⟩
theorem cells.len {ρ:Rho} {l:List V} {r:List Value} (c:cells ρ l r):r.length=l.length:=vP c.2
theorem cells.nil {ρ:Rho}:cells ρ [] []:=⟨rfl,rfl⟩
theorem cells.get {ρ:Rho} {l:List V} {r:List Value} (c:cells ρ l r) {i:Nat} {v:V} (h:l[i]? =some v):∃ x,r[i]? =some x/\tv ρ v=some x/\isC v=true:=
 let ⟨x,h1,h2⟩:=aBR c.2 h
 ⟨x,h1,h2,nJ.1 c.1 v (a0V h)⟩
theorem eH.cells {v:Value} (h:eH v):v.cells=#[v]:=by cases v <;> first | rfl | exact h.elim
theorem iG {ρ:Rho} {v:V} {x:Value} (hc:isC v=true) (e:tv ρ v=some x):vc v=some [v]/\BX.cells ρ [v] x.cells.toList:=
 ⟨(by cases v <;> first | rfl | cases hc),qH.2 ⟨hc,rfl⟩,eF.2 ⟨x,[],e,rfl,by rw [(aCB hc e).cells]⟩⟩
theorem aB1 {ρ:Rho} {cs:List V} {x:Value} (e:tv ρ (.agg cs)=some x):∃ l,cells ρ cs l/\x= .agg ⟨l⟩:=by
 simp only [tv]at e
 cases hc:iL cs with
 | false=>rw [hc]at e;cases e
 | true=>
  rw [hc]at e;simp only at e
  cases ha:tvs ρ cs with
  | none=>rw [ha]at e;cases e
  | some y=>rw [ha]at e;cases e;exact⟨y,⟨hc,ha⟩,rfl⟩
theorem xH {ρ:Rho}:∀ {v:V} {x:Value} {c:List V},vc v=some c->tv ρ v=some x->BX.cells ρ c x.cells.toList
 | .agg cs,x,c,h,e=>by
  obtain⟨l,h1,rfl⟩:=aB1 e;cases h;exact h1
 | .tup _,_,_,h,_=>by cases h
 | .int _ _,_,_,h,e=>by cases h;exact(iG rfl e).2
 | .bool _,_,_,h,e=>by cases h;exact(iG rfl e).2
 | .str _,_,_,h,e=>by cases h;exact(iG rfl e).2
 | .ptr _ _,_,_,h,e=>by cases h;exact(iG rfl e).2
 | .nilp,_,_,h,e=>by cases h;exact(iG rfl e).2
 | .sl _ _ _ _,_,_,h,e=>by cases h;exact(iG rfl e).2
 | .so _ _ _ _,_,_,h,e=>by cases h;exact(iG rfl e).2
 | .nils,_,_,h,e=>by cases h;exact(iG rfl e).2
 | .map _,_,_,h,e=>by cases h;exact(iG rfl e).2
 | .nilm,_,_,h,e=>by cases h;exact(iG rfl e).2
 | .fn _ _ _,_,_,h,e=>by cases h;exact(iG rfl e).2
 | .yld _,_,_,h,e=>by cases h;exact(iG rfl e).2
 | .nilf,_,_,h,e=>by cases h;exact(iG rfl e).2
 | .iface _ _,_,_,h,e=>by cases h;exact(iG rfl e).2
 | .nili,_,_,h,e=>by cases h;exact(iG rfl e).2
theorem aBi {ρ:Rho} {cs:List V} {l:List Value} (h:cells ρ cs l):tv ρ (.agg cs)=some (.agg ⟨l⟩):=by
 simp only [tv,h.1,h.2]
def entR (ρ:Rho) (e:Ent) (m:MapEntry):Prop:=tv ρ e.key=some m.key/\tv ρ e.val=some m.val/\m.born=e.born
def kP (ρ:Rho):List Ent->List MapEntry->Prop
 | [],[]=>True
 | e :: es,m :: ms=>entR ρ e m/\kP ρ es ms
 | _,_=>False
structure cG (ρ:Rho) (e:Tr V) (n:Nat) (a:Array Value):Prop where
 size:a.size=n
 get:∀ t v,at_ e t=some v->∃ x,a[t]? =some x/\tv ρ v=some x
def obR (ρ:Rho):Ob->Obj->Prop
 | .map es c, .map ms c'=>c'=c/\kP ρ es ms.toList
 | .loop st p _ e n ps sg bd d, .loop r=>r.state=st/\r.pending=p/\cG ρ e n r.tmps/\r.params.toList=ps/\r.assign=sg/\r.body=bd/\∃ x,ρ d=some x/\r.defers=x.1
 | .dfr l, .deferred c=>c=if l then some [] else none
 | _,_=>False
def blkR (ρ:Rho) (κ:Nat):Blk->Obj->Prop
 | .cells c t op, .cells a t' fz=>t'=t/\fz=(0,0)/\∃ l junk,cells ρ c l/\a=⟨l++junk⟩/\(op=0->junk=[])/\(0<op->l.length+junk.length=κ*op)
 | .obj o,o'=>obR ρ o o'
 | _,_=>False
structure G where
 w:World
 lo:Nat
 hi:Nat
 ρ:Rho
structure Rel (g:G) (ρ:Rho) (h:Tr Blk) (nx:Nat) (w:World):Prop where
 blk:∀ b k,at_ h b=some k->∃ x o,ρ b=some x/\w.heap[x.1]? =some o/\blkR ρ x.2 k o
 inj:∀ b b' x x',at_ h b≠none->at_ h b'≠none->ρ b=some x->ρ b'=some x'->x.1=x'.1->b=b'
 new:∀ b x,ρ b=some x->g.w.heap.size<=x.1
 below:RowKit.Below g.w.heap.size g.w w
 lo:g.lo<=nx
 fresh:∀ b,nx<=b->b<g.hi->ρ b=none
 le:g.ρ.le ρ
 out:∀ b,b<g.lo\/g.hi<=b->ρ b=g.ρ b
theorem entR.mono {ρ ρ':Rho} (h:ρ.le ρ') {e:Ent} {m:MapEntry} (r:entR ρ e m):entR ρ' e m:=⟨mO h _ r.1,mO h _ r.2.1,r.2.2⟩
theorem kP.mono {ρ ρ':Rho} (h:ρ.le ρ'):∀ {es:List Ent} {ms:List MapEntry},kP ρ es ms->kP ρ' es ms
 | [],[],_=>trivial
 | _ :: _,_ :: _,r=>⟨r.1.mono h,kP.mono h r.2⟩
 | [],_ :: _,r=>r.elim
 | _ :: _,[],r=>r.elim
theorem cG.mono {ρ ρ':Rho} (h:ρ.le ρ') {e:Tr V} {n:Nat} {a:Array Value} (r:cG ρ e n a):cG ρ' e n a:=
 ⟨r.size,fun t v ht=>let ⟨x,h1,h2⟩:=r.get t v ht;⟨x,h1,mO h v h2⟩⟩
theorem obR.mono {ρ ρ':Rho} (h:ρ.le ρ') {o:Ob} {o':Obj} (r:obR ρ o o'):obR ρ' o o':=by
 cases o with
 | map es c=>cases o' <;> first | exact⟨r.1,r.2.mono h⟩ | exact r.elim
 | loop st p f e n ps sg bd d=>
  cases o' <;> first
   | (obtain⟨h1,h2,h3,h4,h5,h6,x,h7,h8⟩:=r;exact⟨h1,h2,h3.mono h,h4,h5,h6,x,h _ _ h7,h8⟩)
   | exact r.elim
 | dfr b=>cases o' <;> exact r
theorem blkR.mono {ρ ρ':Rho} (h:ρ.le ρ') {κ:Nat} {k:Blk} {o:Obj} (r:blkR ρ κ k o):blkR ρ' κ k o:=by
 cases k with
 | obj o'=>exact obR.mono h r
 | cells c t op=>
  cases o <;> first
   | (obtain⟨h1,h2,l,j,h3,h4⟩:=r;exact⟨h1,h2,l,j,h3.mono h,h4⟩)
   | exact r.elim
end
end Go.BX
