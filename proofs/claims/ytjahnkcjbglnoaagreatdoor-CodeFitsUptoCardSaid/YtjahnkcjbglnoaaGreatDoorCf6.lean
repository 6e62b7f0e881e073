/- Parts of the proof: lemmas, and the steps through the program. -/
import Derived.Test.YtjahnkcjbglnoaaGreatDoorCf5
import Derived.Test.YtjahnkcjbglnoaaGreatDoorRows
import Derived.ChangeSame
import Derived.ChangeReads
import Derived.ReadAgain
import Derived.ChangeStays
import Derived.ChangeBears
set_option linter.unusedVariables false
set_option linter.unusedSimpArgs false
set_option maxRecDepth 100000
set_option maxHeartbeats 2000000
namespace Go.Proofs.YtjahnkcjbglnoaaGreatDoor
open Go.SX Go.SW Go.Dt
def tailR (AA:Nat) (a0:Aj) (a1 a2 z1:Int) (y5:Af):Option Aj:=
 (lE AA a2 y5 AA 0 a0.bad).bind fun x1=>
 ((if y5.Op=2 then
   some (decide (y5.Op=2))
 else
  if y5.Op=6 then
   some (decide (y5.Op=6))
  else
   some (decide (y5.Op=8))).bind fun x16=>
 bif x16 then
  bif x1 then
   some (Sum.inl (a2,a0.p.AF,a0.p.AH,a0.p.AE,a0.p.AG,a0.AS.set a1.toNat a2,a0.An.set a1.toNat z1,a0.Am,true))
  else
   if y5.N<0 then
    some (Sum.inl (a2,a0.p.AF,a0.p.AH,a0.p.AE,a0.p.AG,a0.AS.set a1.toNat a2,a0.An.set a1.toNat z1,a0.Am,true))
   else
    some (Sum.inl (a2,a0.p.AF,a0.p.AH,a0.p.AE,a0.p.AG,a0.AS.set a1.toNat a2,a0.An.set a1.toNat z1,a0.Am,decide (a2<=y5.N)))
 else
  if y5.Op=4 then
   if y5.N<0 then
    (some (⟨(⟨a0.p.AF,a0.p.AH,a0.p.AE,a0.p.AG⟩:AL),a0.AS.set a1.toNat a2,a0.An.set a1.toNat z1,a0.Am,true⟩:Aj)).bind fun r=>some (Sum.inr r)
   else
    if (a0.p.AE.length:Int)<=y5.N then
     (some (⟨(⟨a0.p.AF,a0.p.AH,a0.p.AE,a0.p.AG⟩:AL),a0.AS.set a1.toNat a2,a0.An.set a1.toNat z1,a0.Am,true⟩:Aj)).bind fun r=>some (Sum.inr r)
    else
     (idx a0.Am y5.N).bind fun y9=>
     if 0<y9 then
      (some (⟨(⟨a0.p.AF,a0.p.AH,a0.p.AE,a0.p.AG⟩:AL),a0.AS.set a1.toNat a2,a0.An.set a1.toNat z1,a0.Am,true⟩:Aj)).bind fun r=>some (Sum.inr r)
     else
      (idx a0.Am y5.N).bind fun y10=>
      (chk (y10+1)).bind fun z3=>
      (idx a0.Am y5.N).bind fun _=>
      (idx a0.p.AE y5.N).bind fun y12=>
      (uO y12).bind fun y13=>
      (chk (a2+y13)).bind fun z4=>
      (idx a0.p.AE y5.N).bind fun y14=>
      ((mT AA) (⟨(⟨a0.p.AF,a0.p.AH,a0.p.AE,a0.p.AG⟩:AL),a0.AS.set a1.toNat a2,a0.An.set a1.toNat z1,a0.Am.set y5.N.toNat z3,x1⟩:Aj) y14 z4).bind fun y15=>
      some (Sum.inl (z4,y15.p.AF,y15.p.AH,y15.p.AE,y15.p.AG,y15.AS,y15.An,y15.Am,y15.bad))
  else
   bif x1 then
    some (Sum.inl (a2,a0.p.AF,a0.p.AH,a0.p.AE,a0.p.AG,a0.AS.set a1.toNat a2,a0.An.set a1.toNat z1,a0.Am,true))
   else
    some (Sum.inl (a2,a0.p.AF,a0.p.AH,a0.p.AE,a0.p.AG,a0.AS.set a1.toNat a2,a0.An.set a1.toNat z1,a0.Am,decide (y5.N≠0)))).bind fun o=>match o with
 | Sum.inr r=>some r
 | Sum.inl (x7,x8,x9,x10,x11,x12,x13,x14,x15)=>
 lB (fH AA) y5 x7 AA 0 x8 x9 x10 x11 x12 x13 x14 x15
theorem rown_eq {d:AN} (h:d.AQ.length<=2000000) (h2:d.AP.length<=2000000):uO d=some (own d):=by
 rw [uO,bK (by omega),aC];rfl
def kL (p:AL) (s:VS) (x:Af) (z:Int):Prop:=
 if x.Op=2\/x.Op=6\/x.Op=8 then 0<=x.N/\x.N<z else if x.Op=4 then 0<=x.N/\x.N<(p.AE.length:Int)/\idx s.AX x.N=some false else x.N=0
section
variable {p:AL} {f m:Nat}
theorem jN {q:AL} {sz ow us:List Int} (h1:ow.length=p.AH.length) (h2:us.length=p.AE.length):ROut p none ⟨q,sz,ow,us,true⟩:=⟨rfl,h1,h2⟩
open Classical in
theorem tailR_eq (hp:SmP p) (hall:∀ d∈p.AE,cR d=true) (hm:3000001<=m) (hv:RVis p f (fH m)) (hv':RVis p f (fH (m - 1))) {s:VS} (hs:WS p s) {n z:Int} {x:Af} (hx:x∈p.AH)
 (hun:∀ AX,unm ⟨s.sz.set n.toNat z,s.AT.set n.toNat true,AX⟩<=f) (hz:0<=z/\z+69+80*f<=100000):
 ∃ L,tailR m ⟨p,s.sz,ob s.AT,ob s.AX,false⟩ n z 1 x=some L/\ROut p (if x.Ag.all (okE z)=true/\kL p s x z then rest p f s n z x else none) L:=by
 obtain⟨op,nn,ar,ks⟩:=x
 obtain⟨g1,g2,g3⟩:=hp.args _ hx
 dsimp only at g1 g2 g3
 obtain⟨m',rfl⟩:∃ k,m=k+1:=⟨m - 1,by omega⟩
 simp only [Nat.add_sub_cancel]at hv'
 have e1:=rn1 (AA:=m'+1) (by omega) (op:=op) (nn:=nn) (ks:=ks) (z:=z) ar [] (m'+1) (by omega) (by simp;omega) g3
 simp only [a1l,a0O,a0n]at e1
 have hsets:(ob s.AT).set n.toNat 1=ob (s.AT.set n.toNat true):=ob_set.symm
 have hl1:((ob s.AT).set n.toNat 1).length=p.AH.length:=by simp [jL,hs.AT]
 have hl2:(ob s.AX).length=p.AE.length:=by rw [jL,hs.AX]
 rw [tailR]
 dsimp only
 rw [e1,aC]
 have good:∀ (zz:Int) (s1:VS),0<=zz->zz+80*f<=100000->WS p s1->unm s1<=f->∃ L,lB (fH (m'+1)) ⟨op,nn,ar,ks⟩ zz (m'+1) 0 p.AF p.AH p.AE p.AG s1.sz (ob s1.AT) (ob s1.AX) false=some L/\ROut p (cL (vis p f) s1 (ks.map fun k=>(k,zz))) L:=fun zz s1 a b c d=>by
  have:=rk2q hv (op:=op) (nn:=nn) (ar:=ar) (z:=zz) ⟨a,b⟩ ks [] (m'+1) s1 (by omega) (by simp;omega) c d
  simpa only [a1l,a0O,a0n] using this
 have w1:=(rE hs (p:=p) (i:=n.toNat) (j:=0) (z:=z)).1
 have hne4:op≠4->rest p f s n z ⟨op,nn,ar,ks⟩=cL (vis p f) ⟨s.sz.set n.toNat z,s.AT.set n.toNat true,s.AX⟩ (ks.map fun k=>(k,z)):=fun h=>by rw [rest,a1U h]
 by_cases o2:op=2\/op=6\/op=8
 ·have hb:((if op=2 then some (decide (op=2)) else if op=6 then some (decide (op=6)) else some (decide (op=8))):Option Bool)=some true:=by
   rcases o2 with rfl | rfl | rfl <;> rfl
  have hk:kL p s ⟨op,nn,ar,ks⟩ z ↔ (0<=nn/\nn<z):=by unfold kL;rw [a1V o2]
  rw [hb,aC,a1Q];cases hall2:ar.all (okE z)with
  | false=>
   rw [a0k,a1Q,aC];dsimp only
   rw [pG,a1U (fun q=>by cases q.1)]
   exact⟨_,rfl,jN hl1 hl2⟩
  | true=>
   rw [a0l,a1P];by_cases n0:nn<0
   ·rw [a1V n0,aC];dsimp only
    rw [pG,a1U (fun q=>by have:=hk.1 q.2;omega)]
    exact⟨_,rfl,jN hl1 hl2⟩
   ·rw [a1U n0,aC];dsimp only
    by_cases n1:z<=nn
    ·rw [a1S n1,pG,a1U (fun q=>by have:=hk.1 q.2;omega)]
     exact⟨_,rfl,jN hl1 hl2⟩
    ·rw [a1R n1,a1V ⟨rfl,hk.2 ⟨by omega,by omega⟩⟩,hne4 (by omega),hsets];exact good z ⟨s.sz.set n.toNat z,s.AT.set n.toNat true,s.AX⟩ hz.1 (by omega) w1 (hun _)
 ·have hb:((if op=2 then some (decide (op=2)) else if op=6 then some (decide (op=6)) else some (decide (op=8))):Option Bool)=some false:=by
   rw [a1U (by omega),a1U (by omega),a1R (by omega)]
  rw [hb,aC,a1P];by_cases o4:op=4
  ·subst o4;have hk:kL p s ⟨4,nn,ar,ks⟩ z ↔ (0<=nn/\nn<(p.AE.length:Int)/\idx s.AX nn=some false):=by unfold kL;rw [a1U o2,a1V rfl]
   rw [a1V rfl];by_cases n0:nn<0
   ·rw [a1V n0,aC,aC];dsimp only
    rw [a1U (fun q=>by have:=hk.1 q.2;omega)]
    exact⟨_,rfl,jN hl1 hl2⟩
   ·rw [a1U n0];by_cases n1:(p.AE.length:Int)<=nn
    ·rw [a1V n1,aC,aC];dsimp only
     rw [a1U (fun q=>by have:=hk.1 q.2;omega)]
     exact⟨_,rfl,jN hl1 hl2⟩
    ·rw [a1U n1];obtain⟨b,hbb⟩:=gX (xs:=s.AX) (show 0<=nn by omega) (by rw [hs.AX];omega)
     obtain⟨d,hd⟩:=gX (xs:=p.AE) (show 0<=nn by omega) (by omega)
     have hok:=hall d (kD hd);have hsm:=hp.AX d (kD hd);obtain⟨k1,k2,k3,_,_⟩:=pL hok;have hown:0<=own d/\own d<=60:=by unfold own;omega
     rw [aCO hbb,aC];cases b with
     | true=>
      rw [a1V rfl,a1V (by omega),aC,aC];dsimp only
      rw [a1U (fun q=>by have:=(hk.1 q.2).2.2;rw [hbb]at this;cases this)]
      exact⟨_,rfl,jN hl1 hl2⟩
     | false=>
      have hkk:kL p s ⟨4,nn,ar,ks⟩ z:=hk.2 ⟨by omega,by omega,hbb⟩
      rw [a1U a0j,a1U (by omega),aC,bK (by omega),aC,aC,hd,aC,rown_eq (by omega) (by omega),aC,bK (by omega),aC,aC];have hsetd:(ob s.AX).set nn.toNat (0+1)=ob (s.AX.set nn.toNat true):=ob_set.symm;have w2:=(rE hs (p:=p) (i:=n.toNat) (j:=nn.toNat) (z:=z)).2;rw [hsets,hsetd];cases hall2:ar.all (okE z)with
      | false=>
       rw [a0k,rdef_bad (by omega) rfl,aC,aC];dsimp only
       rw [pG,a1U (fun q=>by cases q.1)]
       exact⟨_,rfl,jN (by rw [<- hsets];exact hl1) (by rw [jL];simp [hs.AX])⟩
      | true=>
       rw [a0l,a1V ⟨rfl,hkk⟩];obtain⟨L,h1,h2⟩:=rdef hv' hok hsm (by omega) (z:=z+own d) ⟨by omega,by omega⟩ w2 (hun (s.AX.set nn.toNat true))
       rw [show(⟨⟨p.AF,p.AH,p.AE,p.AG⟩,s.sz.set n.toNat z,ob (s.AT.set n.toNat true),ob (s.AX.set nn.toNat true),false⟩:Aj)=⟨p,s.sz.set n.toNat z,ob (s.AT.set n.toNat true),ob (s.AX.set nn.toNat true),false⟩from rfl,h1,aC,aC];dsimp only
       have hres:rest p f s n z ⟨4,nn,ar,ks⟩=((cL (vis p f) ⟨s.sz.set n.toNat z,s.AT.set n.toNat true,s.AX.set nn.toNat true⟩ (d.AO.map fun r=>(r.AU,z+own d+brs d.AQ r.AZ))).bind fun s1=>cL (vis p f) s1 (d.AP.map fun y=>(y.AU,z+own d))).bind fun s2=>cL (vis p f) s2 (ks.map fun k=>(k,z+own d)):=by
        rw [rest,a1V rfl];dsimp only;rw [hd,aC,a1V hok,Option.bind_assoc]
       rw [hres];cases hc:(cL (vis p f) ⟨s.sz.set n.toNat z,s.AT.set n.toNat true,s.AX.set nn.toNat true⟩ (d.AO.map fun r=>(r.AU,z+own d+brs d.AQ r.AZ))).bind fun s1=>cL (vis p f) s1 (d.AP.map fun y=>(y.AU,z+own d))with
       | none=>
        rw [hc]at h2;obtain⟨q1,q2,q3⟩:=h2;rw [q1,pG];exact⟨_,rfl,rfl,q2,q3⟩
       | some s2=>
        rw [hc]at h2;have h2:L=_:=h2;subst h2;obtain⟨s1,a1,a2⟩:=bind_some hc;obtain⟨b1q,b2⟩:=lY (visO p f) _ _ _ w2 (hun _) a1;have:=hun (s.AX.set nn.toNat true);obtain⟨c1,c2⟩:=lY (visO p f) _ _ _ b1q (by omega) a2
        rw [aC];exact good (z+own d) s2 (by omega) (by omega) c1 (by omega)
  ·have hk:kL p s ⟨op,nn,ar,ks⟩ z ↔ nn=0:=by unfold kL;rw [a1U o2,a1U o4]
   rw [a1U o4];cases hall2:ar.all (okE z)with
   | false=>
    rw [a0k,a1Q,aC];dsimp only
    rw [pG,a1U (fun q=>by cases q.1)]
    exact⟨_,rfl,jN hl1 hl2⟩
   | true=>
    rw [a0l,a1P,aC];dsimp only
    by_cases n1:nn≠0
    ·rw [a1S n1,pG,a1U (fun q=>n1 (hk.1 q.2))];exact⟨_,rfl,jN hl1 hl2⟩
    ·rw [a1R n1,a1V ⟨rfl,hk.2 (by omega)⟩,hne4 o4,hsets];exact good z ⟨s.sz.set n.toNat z,s.AT.set n.toNat true,s.AX⟩ hz.1 (by omega) w1 (hun _)
theorem aKM {op:Int} {k c:Nat} (h:shp op=some (k,c)):uH op=some (if c=1 then -1 else if c=2 then 1 else 0,(k:Int),true):=by
 unfold shp at h
 split at h
 ·rename_i h1;cases h;rcases h1 with rfl | rfl <;> rfl
 split at h
 ·rename_i h1;cases h;subst h1;rfl
 split at h
 ·rename_i h1;cases h;subst h1;rfl
 split at h
 ·rename_i h1;cases h;subst h1;rfl
 split at h
 ·rename_i h1;cases h;rcases h1 with rfl | rfl <;> rfl
 split at h
 ·rename_i h1;cases h;subst h1;rfl
 ·cases h
theorem aJL {op:Int} (h:shp op=none):uH op=some (0,0,false):=by
 unfold shp at h
 rw [uH]
 split at h;· cases h
 split at h;· cases h
 split at h;· cases h
 split at h;· cases h
 split at h;· cases h
 split at h;· cases h
 rename_i h1 h2 h3 h4 h5 h6
 rw [a1U (by omega),aC,a1R (by omega),a1P,a1U h3,a1U h2,a1U h4,a1U h6,a1U (by omega),aC,a1R (by omega),a1P]
def pX (c:Nat) (l:Nat):Prop:=if c=1 then l<=3 else if c=2 then l=1 else l=0
theorem aBM {s:VS} {x:Af} {z:Int} {k c:Nat} (h:shp x.Op=some (k,c)):okM p s x z c ↔ kL p s x z/\pX c x.Ag.length:=by
 have h0:=h
 unfold shp at h
 unfold kL pX
 split at h
 ·rename_i h1;cases h;rw [a1U (by omega),a1U (by omega)];simp [okM]
 split at h
 ·rename_i h1;cases h;rw [a1U (by omega),a1U (by omega)];simp [okM]
 split at h
 ·rename_i h1;cases h;rw [a1V (.inl h1)];simp [okM]
 split at h
 ·rename_i h1;cases h;rw [a1U (by omega),a1U (by omega)];simp [okM]
 split at h
 ·rename_i h1;cases h;rw [a1V (.inr h1)];simp [okM]
 split at h
 ·rename_i h1;cases h;rw [a1U (by omega),a1V h1];simp [okM]
 ·cases h
open Classical in
theorem rnode_go (hp:SmP p) (hall:∀ d∈p.AE,cR d=true) (hm:3000001<=m) (hv:RVis p f (fH m)) (hv':RVis p f (fH (m - 1))) {s:VS} (hs:WS p s) {n z:Int} (hu:unm s<=f+1) (hz:0<=z/\z+69+80*f<=100000) (h:0<=n/\n<(p.AH.length:Int)/\idx s.AT n=some false):
 ∃ L,fH (m+1) ⟨p,s.sz,ob s.AT,ob s.AX,false⟩ n z=some L/\ROut p (vis p (f+1) s n z) L:=by
 obtain⟨x,hx⟩:=gX h.1 h.2.1
 obtain⟨v1,v2⟩:=vis_go (f:=f) (z:=z) h hx
 have hun:∀ AX,unm ⟨s.sz.set n.toNat z,s.AT.set n.toNat true,AX⟩<=f:=fun AX=>by
  have:=aCb (p:=p) (z:=z) (AX:=AX) h.1 h.2.2;omega
 obtain⟨b,hb⟩:=gX (xs:=s.sz) h.1 (by rw [hs.sz];exact h.2.1)
 have hl1:((ob s.AT).set n.toNat 1).length=p.AH.length:=by simp [jL,hs.AT]
 have hl2:(ob s.AX).length=p.AE.length:=by rw [jL,hs.AX]
 have hgo:=tailR_eq hp hall hm hv hv' hs (n:=n) (z:=z) (kD hx) hun hz
 rw [fH]
 dsimp only
 rw [a1U (by omega),a1U (by omega),aCO h.2.2,aC,a1U a0j,a1U (by omega),aC,bK (by omega),aC,aC,hb,aC,hx,aC]
 cases hsh:shp x.Op with
 | none=>
  rw [aJL hsh,aC];dsimp only
  rw [a0k,a1Q,aC,aC,v2 (by rintro⟨⟨k,c,g,_⟩,_⟩;rw [hsh]at g;cases g)];exact⟨_,rfl,jN hl1 hl2⟩
 | some kc=>
  obtain⟨k,c⟩:=kc;rw [aKM hsh,aC];dsimp only
  rw [a0l,a1P];by_cases hk:(x.AW.length:Int)≠(k:Int)
  ·rw [a1V hk,aC,aC,v2 (by rintro⟨⟨k',c',g,g2,_⟩,_⟩;rw [hsh]at g;cases g;omega)];exact⟨_,rfl,jN hl1 hl2⟩
  ·rw [a1U hk];have hfin:(if x.Ag.all (okE z)=true/\kL p s x z then rest p f s n z x else none)=vis p (f+1) s n z\/¬ pX c x.Ag.length:=by
    by_cases ha:pX c x.Ag.length
    ·left
     by_cases hq:x.Ag.all (okE z)=true/\kL p s x z
     ·rw [a1V hq,v1 ⟨⟨k,c,hsh,by omega,(aBM hsh).2 ⟨hq.2,ha⟩⟩,hq.1⟩]
     ·rw [a1U hq,v2];rintro⟨⟨k',c',g,_,g3⟩,g4⟩
      rw [hsh]at g;cases g
      exact hq ⟨g4,((aBM hsh).1 g3).1⟩
    ·exact .inr ha
   have hbad:¬ pX c x.Ag.length->vis p (f+1) s n z=none:=fun ha=>v2 (by
    rintro⟨⟨k',c',g,_,g3⟩,_⟩
    rw [hsh]at g;cases g
    exact ha ((aBM hsh).1 g3).2)
   obtain⟨L,e1,e2⟩:=hgo;by_cases ha:pX c x.Ag.length
   ·rw [hfin.resolve_right (fun q=>q ha)]at e2;refine⟨L,?_,e2⟩;rw [<- e1];unfold pX at ha;by_cases c1:c=1
    ·rw [a1V c1]at ha ⊢;rw [a1V (by omega),a1U (by omega),a1U (by omega),aC];rfl
    ·rw [a1U c1]at ha ⊢;by_cases c2:c=2
     ·rw [a1V c2]at ha ⊢;rw [a1U (by omega),a1V (by omega),a1U (by omega),aC];rfl
     ·rw [a1U c2]at ha ⊢;rw [a1U (by omega),a1V (by omega),a1U (by omega),aC];rfl
   ·rw [hbad ha];refine⟨⟨p,s.sz.set n.toNat z,(ob s.AT).set n.toNat 1,ob s.AX,true⟩,?_,jN hl1 hl2⟩;unfold pX at ha;by_cases c1:c=1
    ·rw [a1V c1]at ha ⊢;rw [a1V (by omega),a1V (by omega),aC,aC];rfl
    ·rw [a1U c1]at ha ⊢;by_cases c2:c=2
     ·rw [a1V c2]at ha ⊢;rw [a1U (by omega),a1V (by omega),a1V (by omega),aC,aC];rfl
     ·rw [a1U c2]at ha ⊢;rw [a1U (by omega),a1V (by omega),a1V (by omega),aC,aC];rfl
theorem aHe {s:VS} (hs:WS p s) {n z:Int} (h:¬ (0<=n/\n<(p.AH.length:Int)/\idx s.AT n=some false)):∃ L,fH (m+1) ⟨p,s.sz,ob s.AT,ob s.AX,false⟩ n z=some L/\ROut p none L:=by
 have hl1:(ob s.AT).length=p.AH.length:=by rw [jL,hs.AT]
 have hl2:(ob s.AX).length=p.AE.length:=by rw [jL,hs.AX]
 refine⟨⟨p,s.sz,ob s.AT,ob s.AX,true⟩,?_,jN hl1 hl2⟩
 rw [fH]
 dsimp only
 by_cases h0:n<0
 ·rw [a1V h0]
 ·rw [a1U h0];by_cases h1:(p.AH.length:Int)<=n
  ·rw [a1V h1]
  ·rw [a1U h1];obtain⟨b,hb⟩:=gX (xs:=s.AT) (show 0<=n by omega) (by rw [hs.AT];omega)
   cases b with
   | false=>exact absurd ⟨by omega,by omega,hb⟩ h
   | true=>rw [aCO hb,aC,a1V rfl,a1V (by omega)]
end
theorem rvis {p:AL} (hp:SmP p) (hall:∀ d∈p.AE,cR d=true) (f:Nat):∀ g,3000003+2*f<=g->RVis p f (fH g):=by
 induction f with
 | zero=>
  intro g hg;obtain⟨g,rfl⟩:∃ k,g=k+1:=⟨g - 1,by omega⟩
  refine⟨fun s n z hs hu h0 h1=>?_⟩
  have h:¬ (0<=n/\n<(p.AH.length:Int)/\idx s.AT n=some false):=fun q=>by have:=aGR q.2.2;omega
  rw [aAu h];exact aHe hs h
 | succ f ih=>
  intro g hg;obtain⟨g,rfl⟩:∃ k,g=k+1:=⟨g - 1,by omega⟩
  refine⟨fun s n z hs hu h0 h1=>?_⟩
  by_cases h:0<=n/\n<(p.AH.length:Int)/\idx s.AT n=some false
  ·exact rnode_go hp hall (m:=g) (by omega) (ih g (by omega)) (ih (g - 1) (by omega)) hs hu ⟨h0,by omega⟩ h
  ·rw [aAu h];exact aHe hs h
open Go.SX Go.SW Go.Dt
abbrev F:Nat:=4000000
theorem aFY:∀ x y:List UInt8,Op.bytesLess x y=(!(Op.bytesLess y x || decide (y=x)))
 | [],[]=>rfl
 | [],b :: y=>by simp [Op.bytesLess]
 | a :: x,[]=>by simp [Op.bytesLess]
 | a :: x,b :: y=>by
  have ih:=aFY x y;simp only [Op.bytesLess,ih];by_cases h1:a<b
  ·have h2:¬ b<a:=fun h=>by have:=UInt8.lt_trans h1 h;exact absurd this (by simp)
   have h3:b≠a:=fun h=>by subst h;exact absurd h1 (by simp)
   simp [h1,h2,h3]
  ·by_cases h2:b<a
   ·have h3:a≠b:=fun h=>by subst h;exact absurd h2 (by simp)
    simp [h1,h2,h3]
   ·have h3:a=b:=by
     have a1:=UInt8.not_lt.1 h1;have a2:=UInt8.not_lt.1 h2
     exact UInt8.le_antisymm a2 a1
    subst h3;simp
theorem slt_sle (a b:ByteArray):slt a b=!sle b a:=by
 have he:decide (b=a)=decide (b.toList=a.toList):=by
  rw [decide_eq_decide];exact⟨fun h=>by rw [h],fun h=>(by have:=(aCv (i:=b) (j:=a));rw [beq_iff_eq.2 h]at this;exact of_decide_eq_true this.symm)⟩
 unfold sle slt
 rw [he];exact aFY _ _
theorem aFb (s:ByteArray):∀ (k:Nat) (i:Int),tP s k i=jQ s k i
 | 0,_=>rfl
 | k+1,i=>by
  rw [tP,jQ];simp only [aFb s k]
theorem aFL {s:ByteArray} (hs:s.size<=2000000):∀ (k i:Nat),s.size<k+i->i<=s.size->jQ s k (i:Int)=some (.inr false)\/jQ s k (i:Int)=some (.inl ())
 | 0,i,h,h2=>by omega
 | k+1,i,h,h2=>by
  rw [jQ];by_cases hi:i<s.size
  ·have hx:sidx s (i:Int)=some ((s[i]'hi).toNat:Int):=by
    unfold sidx;rw [a1V (by omega)];simp [hi]
   rw [a1V (by omega),hx,aC];by_cases c1:((s[i]'hi).toNat:Int)<97
   ·rw [a1V c1];exact .inl rfl
   ·rw [a1U c1,aC];by_cases c2:122<((s[i]'hi).toNat:Int)
    ·rw [a1V c2];exact .inl rfl
    ·rw [a1U c2,bK (by omega),aC];exact aFL hs k (i+1) (by omega) (by omega)
  ·rw [a1U (by omega)];exact .inr rfl
theorem aE7 {s:ByteArray} (hs:s.size<=2000000):∀ (k k' i:Nat),s.size<k+i->s.size<k'+i->i<=s.size->jQ s k (i:Int)=jQ s k' (i:Int)
 | 0,_,i,h,_,h2=>by omega
 | _,0,i,_,h,h2=>by omega
 | k+1,k'+1,i,h,h',h2=>by
  rw [jQ,jQ];by_cases hi:i<s.size
  ·have e:=aE7 hs k k' (i+1) (by omega) (by omega) (by omega)
   have e2:((i+1:Nat):Int)=(i:Int)+1:=by omega
   rw [e2]at e;simp only [bK (i:=(i:Int)+1) (by omega),aC,e]
  ·rw [a1U (by omega),a1U (by omega)]
open Classical in
theorem aH1 {a:ByteArray} (AD:List ByteArray):∀ (AB:List ByteArray) (k:Nat),AD.length<k->AB.length+AD.length<=3000000->sN (AB++AD) a k AB.length=some (if a∈AD then .inr true else .inl ()):=by
 induction AD with
 | nil=>
  intro AB k hk _;obtain _ | k:=k
  ·omega
  rw [sN,a1U (by simp),a1U (by simp)]
 | cons e AD ih=>
  intro AB k hk hB;obtain _ | k:=k
  ·omega
  simp only [a0M]at hk hB;rw [sN,a1V (dB _ _ _),cY,aC];by_cases he:e=a
  ·rw [a1V he,a1V (by simp [he])];rfl
  ·have hm:(a∈e :: AD) ↔ a∈AD:=by simp [Ne.symm he]
   rw [a1U he,bK (by omega),aC,eI AB AD e,cN AB e,ih (AB++[e]) k (by omega) (by simp;omega)];by_cases hs:a∈AD
   ·rw [a1V hs,a1V (hm.2 hs)]
   ·rw [a1U hs,a1U (fun q=>hs (hm.1 q))]
open Classical in
theorem has_eqq {f:Nat} {l:List ByteArray} {a:ByteArray} (hf:3900000<=f) (h:l.length<=3000000):xI f l a=some (decide (a∈l)):=by
 have:=aH1 (a:=a) l [] f (by omega) (by simp;omega)
 simp only [a1l,a0O,a0n]at this
 rw [xI,this,aC]
 by_cases hs:a∈l
 ·rw [a1V hs];simp [hs]
 ·rw [a1U hs];simp [hs]
theorem upd_get {g:aE ByteArray Bool} {k s:ByteArray}:(aE.upd g k true).get s=if s=k then some true else g.get s:=rfl
theorem aEh {f:Nat} (hf:3900000<=f) {s:ByteArray} (hs:s.size<=2000000):∃ b,qT F s=some b/\tH f s=some b:=by
 have hl:=aFL hs F 0 (by show s.size<4000000+0;omega) (by omega)
 have hle:=aE7 hs f F 0 (by omega) (by show s.size<4000000+0;omega) (by omega)
 simp only [a0n]at hl hle
 rw [qT,tH,aFb,hle]
 by_cases c1:(s.size:Int)<1
 ·rw [a1V c1];refine⟨false,?_,rfl⟩;rcases hl with h | h <;> rw [h,aC]
  dsimp only
  rw [a1U (by omega)];rfl
 ·rw [a1U c1];by_cases c2:8<(s.size:Int)
  ·rw [a1V c2];refine⟨false,?_,rfl⟩;rcases hl with h | h <;> rw [h,aC]
   dsimp only
   rw [a1V (by omega),a1U (by omega)];rfl
  ·rw [a1U c2];rcases hl with h | h
   ·rw [h];exact⟨false,rfl,rfl⟩
   ·rw [h,aC,aC];dsimp only
    rw [a1V (by omega),a1V (by omega),has_eqq hf (by simp),aC];refine⟨_,?_,rfl⟩;rw [aAF,aC,aC];congr 2
    simp only [upd_get,aE.none,a1d,List.not_mem_nil,or_false]
    repeat' split
    all_goals simp_all
def nm (s:ByteArray):Bool:=(qT F s).getD false
theorem nm_p {s:ByteArray} (hs:s.size<=2000000):qT F s=some (nm s):=by
 obtain⟨b,h,_⟩:=aEh (f:=F) (by decide) hs;unfold nm;rw [h];rfl
theorem nm_r {f:Nat} {s:ByteArray} (hs:s.size<=2000000) (hf:3900000<=f:=by decide):tH f s=some (nm s):=by
 obtain⟨b,h,h2⟩:=aEh hf hs;unfold nm;rw [h,h2];rfl
def okF:Option ByteArray->List ByteArray->Bool
 | _,[]=>true
 | q,s :: l=>nm s && (match q with | none=>true | some q=>slt q s) && okF (some s) l
theorem aFW {α:Type} {AB AD:List α} {y:α} (h:0<AB.length):∃ q,AB.getLast? =some q/\idx (AB++y :: AD) ((AB.length:Int) - 1)=some q:=by
 have hne:AB≠[]:=fun e=>by rw [e]at h;simp at h
 have hd:=List.dropLast_concat_getLast hne
 generalize AB.dropLast=d,AB.getLast hne=q at hd
 subst hd
 refine⟨q,by simp,?_⟩
 rw [show(((d++[q]).length:Int) - 1)=(d.length:Int)from by simp]
 exact vJ (by simp)
theorem fl1 {nodes:List Af} {Aa:List AN} {mn:Int} (AD:List ByteArray):∀ (AB:List ByteArray) (k:Nat),AD.length<k->AB.length+AD.length<=3000000->(∀ x∈AD,x.size<=2000000) ->
 pA F ⟨AB++AD,nodes,Aa,mn⟩ k AB.length=some (if okF AB.getLast? AD=true then .inl () else .inr (.inr flaw)):=by
 induction AD with
 | nil=>
  intro AB k hk _ _;obtain _ | k:=k
  ·omega
  rw [pA,a1U (by simp),a1V (by rfl)]
 | cons e AD ih=>
  intro AB k hk hB hx;obtain _ | k:=k
  ·omega
  simp only [a0M]at hk hB;have hgl:(AB++[e]).getLast? =some e:=by simp
  rw [pA,a1V (dB _ _ _)];dsimp only
  rw [cY,aC,nm_p (hx e (.head _)),aC];have hst:okF AB.getLast? (e :: AD)=(nm e && (match AB.getLast? with | none=>true | some q=>slt q e) && okF (some e) AD):=by
   cases AB.getLast? <;> rfl
  cases hn:nm e with
  | false=>rw [hst,hn,Bool.false_and,Bool.false_and];rfl
  | true=>
   rw [a1Q];rw [hn,a0m]at hst;have hnext:=ih (AB++[e]) k (by omega) (by simp;omega) (fun x h=>hx x (.tail _ h))
   rw [hgl]at hnext;by_cases h0:(AB.length:Int)=0
   ·have:AB=[]:=a0w (by omega)
    subst this;have hst:okF ([]:List ByteArray).getLast? (e :: AD)=okF (some e) AD:=by rw [hst];rfl
    rw [a1V h0,eQ,aC,hst];dsimp only
    rw [aC];dsimp only
    rw [bK (by simp),aC,eI [] AD e,cN [] e,hnext]
   ·obtain⟨q,h1,h2⟩:=aFW (AB:=AB) (AD:=AD) (y:=e) (by omega)
    have hst:okF AB.getLast? (e :: AD)=(slt q e && okF (some e) AD):=by rw [hst,h1]
    rw [a1U h0,bK (by omega),aC,h2,aC,hst];cases hl:slt q e with
    | false=>rfl
    | true=>
     rw [eQ,aC,a0m];dsimp only
     rw [aC];dsimp only
     rw [bK (by omega),aC,eI AB AD e,cN AB e,hnext]
theorem fr_bad {f:Nat} {p:AL} (AD:List ByteArray):∀ (AB:List ByteArray) (k:Nat),p.AF=AB++AD->AD.length<k->AB.length+AD.length<=3000000->kU f p k AB.length true=some true:=by
 induction AD with
 | nil=>
  intro AB k he hk _;obtain _ | k:=k
  ·omega
  rw [kU,he,a1U (by simp)]
 | cons e AD ih=>
  intro AB k he hk hB;obtain _ | k:=k
  ·omega
  simp only [a0M]at hk hB;rw [kU,he,a1V (dB _ _ _),a1Q,aC,bK (by omega),aC,cN AB e];exact ih (AB++[e]) k (by rw [he];simp) (by omega) (by simp;omega)
theorem fr1 {f:Nat} (hf:3900000<=f) {p:AL} (AD:List ByteArray):∀ (AB:List ByteArray) (k:Nat),p.AF=AB++AD->AD.length<k->AB.length+AD.length<=3000000->(∀ x∈AD,x.size<=2000000) ->
 kU f p k AB.length false=some (!okF AB.getLast? AD):=by
 induction AD with
 | nil=>
  intro AB k he hk _ _;obtain _ | k:=k
  ·omega
  rw [kU,he,a1U (by simp)];rfl
 | cons e AD ih=>
  intro AB k he hk hB hx;obtain _ | k:=k
  ·omega
  simp only [a0M]at hk hB;have hgl:(AB++[e]).getLast? =some e:=by simp
  have hst:okF AB.getLast? (e :: AD)=(nm e && (match AB.getLast? with | none=>true | some q=>slt q e) && okF (some e) AD):=by
   cases AB.getLast? <;> rfl
  have hnext:=ih (AB++[e]) k (by rw [he];simp) (by omega) (by simp;omega) (fun x h=>hx x (.tail _ h))
  have hbadn:=fr_bad (f:=f) (p:=p) AD (AB++[e]) k (by rw [he];simp) (by omega) (by simp;omega)
  rw [hgl]at hnext;rw [kU,he,a1V (dB _ _ _),a1P,cY,aC,nm_r (hx e (.head _)) hf,aC,hst];cases hn:nm e with
  | false=>
   rw [a0k,a1Q,aC,bK (by omega),aC,cN AB e,hbadn];rfl
  | true=>
   rw [a0l,a1P,a0m];by_cases h0:0<(AB.length:Int)
   ·obtain⟨q,h1,h2⟩:=aFW (AB:=AB) (AD:=AD) (y:=e) (by omega)
    have hst2:(match AB.getLast? with | none=>true | some q=>slt q e)=!sle e q:=by rw [h1];exact slt_sle q e
    rw [hst2,a1V h0,aC,bK (by omega),aC,h2,aC,aC,bK (by omega),aC,cN AB e];cases hl:sle e q with
    | true=>rw [hbadn];rfl
    | false=>rw [hnext];rfl
   ·have:AB=[]:=a0w (by omega)
    subst this;rw [a1U h0,aC,bK (by simp),aC,cN [] e,hnext];simp
open Go.SX Go.SW Go.Dt
def eF (p:AL):VS:=⟨List.replicate p.AH.length 0,List.replicate p.AH.length false,List.replicate p.AE.length false⟩
open Classical in
noncomputable def eO (p:AL):Option VS:=
 if p.AF.length<=12/\p.AH.length<=60/\p.AE.length<=12/\okF none p.AF=true then
  (vis p p.AH.length (eF p) p.AG p.AF.length).bind fun s=>if s.AT.all id=true/\s.AX.all id=true then some s else none
 else none
theorem xX {p:AL}:WS p (eF p):=⟨by simp [eF],by simp [eF],by simp [eF]⟩
theorem xQ {p:AL}:unm (eF p)=p.AH.length:=by simp [unm,eF,List.countP_replicate]
def GD (p:AL) (s:VS):Prop:=∀ i:Nat,s.AX[i]? =some true->∃ d,p.AE[i]? =some d/\cR d=true
theorem wH {p:AL} {g:VS->Int->Int->Option VS} (h:∀ s n z s',g s n z=some s'->GD p s->GD p s'):∀ (l:List (Int × Int)) (s s':VS),cL g s l=some s'->GD p s->GD p s'
 | [],s,s',e,h0=>by cases e;exact h0
 | x :: l,s,s',e,h0=>by
  obtain⟨s1,e1,e2⟩:=bind_some e;exact wH h l s1 s' e2 (h _ _ _ _ e1 h0)
theorem vis_gd {p:AL} (f:Nat):∀ (s:VS) (n z:Int) (s':VS),vis p f s n z=some s'->GD p s->GD p s':=by
 induction f with
 | zero=>intro s n z s' h;simp [vis]at h
 | succ f ih=>
  intro s n z s' h h0;simp only [vis]at h;split at h
  ·obtain⟨x,_,h⟩:=bind_some h;split at h
   ·split at h
    ·obtain⟨d,hd,h⟩:=bind_some h;split at h
     ·rename_i hok;obtain⟨s1,e1,h⟩:=bind_some h;obtain⟨s2,e2,e3⟩:=bind_some h;refine wH ih _ _ _ e3 (wH ih _ _ _ e2 (wH ih _ _ _ e1 ?_));intro i hi;by_cases hn:x.N.toNat=i
      ·obtain⟨j,hj,hj2,_⟩:=uL hd;rw [<- hn,hj];simp only [a0o];exact⟨d,hj2,hok⟩
      ·simp only [a0I hn]at hi;exact h0 i hi
     ·cases h
    ·exact wH ih _ _ _ h h0
   ·cases h
  ·cases h
theorem aDS {p:AL} {s:VS} (h:eO p=some s):∀ d∈p.AE,cR d=true:=by
 unfold eO at h
 split at h
 ·obtain⟨s1,h1,h2⟩:=bind_some h;split at h2
  ·rename_i hc;cases h2;have hg:=vis_gd _ _ _ _ _ h1 (fun i hi=>by simp [eF,List.getElem?_replicate]at hi)
   have hw:=((visO p p.AH.length).out _ _ _ _ xX (by rw [xQ];exact a1A _) h1).1
   intro d hd;obtain⟨i,hi⟩:=a1g.1 hd;have hlt:=(a0F.1 hi).1;have hlt2:i<s.AX.length:=by rw [hw.AX];exact hlt
   have ht:s.AX[i]=true:=a0p.1 hc.2 _ (List.getElem_mem hlt2);obtain⟨d',h3,h4⟩:=hg i (by rw [a0E hlt2,ht])
   rw [hi]at h3;cases h3;exact h4
  ·cases h2
 ·cases h
theorem aJi (AD:List Bool):∀ (AB:List Bool) (k:Nat),AD.length<k->AB.length+AD.length<=3000000->∃ r,sD (AB++AD) false k AB.length=some r/\((AD.all id=false/\∃ i:Int,r= .inr i/\0<=i)\/(AD.all id=true/\r= .inl ())):=by
 induction AD with
 | nil=>
  intro AB k hk _;obtain _ | k:=k
  ·omega
  exact⟨_,by rw [sD,a1U (by simp)], .inr ⟨rfl,rfl⟩⟩
 | cons e AD ih=>
  intro AB k hk hB;obtain _ | k:=k
  ·omega
  simp only [a0M]at hk hB;rw [sD,a1V (dB _ _ _),cY,aC];cases e with
  | false=>exact⟨_,rfl, .inl ⟨rfl,_,rfl,by omega⟩⟩
  | true=>
   rw [show(false==true)=false from rfl,a1P,bK (by omega),aC,eI AB AD true,cN AB true];obtain⟨r,h1,h2⟩:=ih (AB++[true]) k (by omega) (by simp;omega)
   exact⟨r,h1,by simpa using h2⟩
theorem aD4 {l:List Bool} (h:l.length<=3000000):uQ F l false=some (!l.all id):=by
 obtain⟨r,h1,h2⟩:=aJi l [] F (by show l.length<4000000;omega) (by simp;omega)
 simp only [a1l,a0O,a0n]at h1
 rw [uQ,aBg,h1]
 rcases h2 with⟨h2,i,rfl,h3⟩ | ⟨h2,rfl⟩
 ·rw [h2];simp [h3]
 ·rw [h2];rfl
theorem aHd {p:AL} (hp:SmP p):zN F p=some (kK p (eO p)):=by
 obtain⟨fr,nodes,Aa,mn⟩:=p
 have hf:=hp.free;have hn:=hp.nodes;have hd:=hp.Aa
 dsimp only at hf hn hd
 rw [zN]
 dsimp only
 unfold eO
 dsimp only
 by_cases l1:fr.length<=12
 ·rw [a1V (by omega)];by_cases l2:nodes.length<=60
  ·rw [a1V (by omega)];by_cases l3:Aa.length<=12
   ·rw [a1S (by omega),eQ,aC,aC];dsimp only
    have e1:pA F ⟨fr,nodes,Aa,mn⟩ F 0=some (if okF none fr=true then .inl () else .inr (.inr flaw)):=fl1 (nodes:=nodes) (Aa:=Aa) (mn:=mn) fr [] F (by show fr.length<4000000;omega) (by simp;omega) hp.names
    rw [e1,aC];by_cases hok:okF none fr=true
    ·rw [a1V hok,a1V ⟨l1,l2,l3,hok⟩];dsimp only
     have hmk:∀ {α:Type} (a:α) (k:Nat),k<=60->mk a (k:Int)=some (List.replicate k a):=fun a k hk=>by unfold mk;rw [a1V (by omega)];simp
     rw [hmk 0 _ l2,aC,hmk false _ l2,aC,hmk false _ (by omega),aC];have hv:=pvis hp (b:=4000000 - nodes.length - 1) (by omega) nodes.length
     rw [show 4000000 - nodes.length - 1+nodes.length+1=F from by show _=4000000;omega]at hv
     have hrun:=hv.run (eF ⟨fr,nodes,Aa,mn⟩) mn fr.length xX (by rw [xQ];exact a1A _) (by omega) (by omega)
     rw [show(⟨⟨fr,nodes,Aa,mn⟩,List.replicate nodes.length 0,List.replicate nodes.length false,List.replicate Aa.length false⟩:Ap)=⟨⟨fr,nodes,Aa,mn⟩,(eF ⟨fr,nodes,Aa,mn⟩).sz,(eF ⟨fr,nodes,Aa,mn⟩).AT,(eF ⟨fr,nodes,Aa,mn⟩).AX⟩from rfl,hrun,aC];cases hc:vis ⟨fr,nodes,Aa,mn⟩ nodes.length (eF ⟨fr,nodes,Aa,mn⟩) mn fr.length with
     | none=>rfl
     | some s=>
      obtain⟨w,_⟩:=(visO _ _).out _ _ _ _ xX (by rw [xQ];exact a1A _) hc
      have wm:s.AT.length=nodes.length:=w.AT;have wd:s.AX.length=Aa.length:=w.AX;simp only [kK];rw [aC,aD4 (by omega),aC];cases hm:s.AT.all id with
      | false=>rw [a1U (fun q=>by cases q.1)];rfl
      | true=>
       rw [a0l,a0k,a1Q,aD4 (by omega),aC];cases hm2:s.AX.all id with
       | false=>rw [a1U (fun q=>by cases q.2)];rfl
       | true=>rw [a1V ⟨rfl,rfl⟩];rfl
    ·rw [a1U hok,a1U (fun q=>hok q.2.2.2)];rfl
   ·rw [a1R (by omega),dC,a1U (fun q=>l3 q.2.2.1)];rfl
  ·rw [a1U (by omega),dC,a1U (fun q=>l2 q.2.1)];rfl
 ·rw [a1U (by omega),dC,a1U (fun q=>l1 q.1)];rfl
theorem aHJ {f:Nat} {p:AL} (AD:List AN):∀ (AB:List AN) (k:Nat),p.AE=AB++AD->AD.length<k->AB.length+AD.length<=3000000->mM f p k AB.length true=some true:=by
 induction AD with
 | nil=>
  intro AB k he hk _;obtain _ | k:=k
  ·omega
  rw [mM,he,a1U (by simp)]
 | cons e AD ih=>
  intro AB k he hk hB;obtain _ | k:=k
  ·omega
  simp only [a0M]at hk hB;rw [mM,he,a1V (dB _ _ _),a1Q,aC,bK (by omega),aC,cN AB e];exact ih (AB++[e]) k (by rw [he];simp) (by omega) (by simp;omega)
theorem al2 {f:Nat} (hf:3900000<=f) {p:AL} (hp:SmP p) (AD:List AN):∀ (AB:List AN) (k:Nat),p.AE=AB++AD->AD.length<k->AB.length+AD.length<=3000000->mM f p k AB.length false=some (!AD.all cR):=by
 induction AD with
 | nil=>
  intro AB k he hk _;obtain _ | k:=k
  ·omega
  rw [mM,he,a1U (by simp)];rfl
 | cons e AD ih=>
  intro AB k he hk hB;obtain _ | k:=k
  ·omega
  simp only [a0M]at hk hB;have hmem:e∈p.AE:=by rw [he];simp
  rw [mM,he,a1V (dB _ _ _),a1P,cY,aC,rdef_eq (by omega) (hp.AX e hmem),aC,aC,bK (by omega),aC,cN AB e];cases h:cR e with
  | false=>rw [a0k,aHJ AD (AB++[e]) k (by rw [he];simp) (by omega) (by simp;omega),show(e :: AD).all cR=(cR e && AD.all cR)from rfl,h];rfl
  | true=>rw [a0l,ih (AB++[e]) k (by rw [he];simp) (by omega) (by simp;omega),show(e :: AD).all cR=(cR e && AD.all cR)from rfl,h,a0m]
theorem aEc {L:Aj} (AD:List Int):∀ (AB:List Int) (k:Nat),L.An=AB++AD->AD.length<k->AB.length+AD.length<=3000000->mE L k AB.length true=some true:=by
 induction AD with
 | nil=>
  intro AB k he hk _;obtain _ | k:=k
  ·omega
  rw [mE,he,a1U (by simp)]
 | cons e AD ih=>
  intro AB k he hk hB;obtain _ | k:=k
  ·omega
  simp only [a0M]at hk hB;rw [mE,he,a1V (dB _ _ _),a1Q,aC,bK (by omega),aC,cN AB e];exact ih (AB++[e]) k (by rw [he];simp) (by omega) (by simp;omega)
theorem aC9 {L:Aj} (AD:List Int):∀ (AB:List Int) (k:Nat),L.Am=AB++AD->AD.length<k->AB.length+AD.length<=3000000->mH L k AB.length true=some true:=by
 induction AD with
 | nil=>
  intro AB k he hk _;obtain _ | k:=k
  ·omega
  rw [mH,he,a1U (by simp)]
 | cons e AD ih=>
  intro AB k he hk hB;obtain _ | k:=k
  ·omega
  simp only [a0M]at hk hB;rw [mH,he,a1V (dB _ _ _),a1Q,aC,bK (by omega),aC,cN AB e];exact ih (AB++[e]) k (by rw [he];simp) (by omega) (by simp;omega)
theorem al3 {L:Aj} (AD:List Bool):∀ (AB:List Int) (k:Nat),L.An=AB++ob AD->AD.length<k->AB.length+AD.length<=3000000->mE L k AB.length false=some (!AD.all id):=by
 induction AD with
 | nil=>
  intro AB k he hk _;obtain _ | k:=k
  ·omega
  rw [mE,he,a1U (by simp [ob])];rfl
 | cons e AD ih=>
  intro AB k he hk hB;obtain _ | k:=k
  ·omega
  simp only [a0M]at hk hB;have hob:ob (e :: AD)=(if e=true then 1 else 0) :: ob AD:=rfl
  rw [hob]at he;have he2:=he;rw [eI]at he2;rw [mE,he,a1V (dB _ _ _),a1P,cY,aC,aC,bK (by omega),aC,cN AB (if e=true then 1 else 0)];cases e with
  | false=>
   rw [a1U a0j]at he2 ⊢;rw [a1S (by omega),aEc (ob AD) (AB++[0]) k he2 (by rw [jL];omega) (by rw [jL];simp;omega)];rfl
  | true=>
   rw [a1V rfl]at he2 ⊢;rw [a1R (by omega),ih (AB++[1]) k he2 (by omega) (by simp;omega)];simp
theorem al4 {L:Aj} (AD:List Bool):∀ (AB:List Int) (k:Nat),L.Am=AB++ob AD->AD.length<k->AB.length+AD.length<=3000000->mH L k AB.length false=some (!AD.all id):=by
 induction AD with
 | nil=>
  intro AB k he hk _;obtain _ | k:=k
  ·omega
  rw [mH,he,a1U (by simp [ob])];rfl
 | cons e AD ih=>
  intro AB k he hk hB;obtain _ | k:=k
  ·omega
  simp only [a0M]at hk hB;have hob:ob (e :: AD)=(if e=true then 1 else 0) :: ob AD:=rfl
  rw [hob]at he;have he2:=he;rw [eI]at he2;rw [mH,he,a1V (dB _ _ _),a1P,cY,aC,aC,bK (by omega),aC,cN AB (if e=true then 1 else 0)];cases e with
  | false=>
   rw [a1U a0j]at he2 ⊢;rw [a1S (by omega),aC9 (ob AD) (AB++[0]) k he2 (by rw [jL];omega) (by rw [jL];simp;omega)];rfl
  | true=>
   rw [a1V rfl]at he2 ⊢;rw [a1R (by omega),ih (AB++[1]) k he2 (by omega) (by simp;omega)];simp
def AOut (p:AL) (o:Option VS) (L:Aj):Prop:=match o with
 | some s=>L=⟨p,s.sz,ob s.AT,ob s.AX,false⟩
 | none=>L.bad=true
theorem nW {f:Nat} {p:AL} (hp:SmP p) (hfu:3900000<=f:=by decide):∃ L,xC f p=some L/\AOut p (eO p) L:=by
 have hdefs:eO p≠none->∀ d∈p.AE,cR d=true:=fun h=>by
  cases hc:eO p with
  | none=>exact absurd hc h
  | some s=>exact aDS hc
 obtain⟨fr,nodes,Aa,mn⟩:=p
 have hf:=hp.free;have hn:=hp.nodes;have hd:=hp.Aa
 dsimp only at hf hn hd
 rw [xC]
 dsimp only
 have hno:∀ (q:¬ (fr.length<=12/\nodes.length<=60/\Aa.length<=12/\okF none fr=true)),eO ⟨fr,nodes,Aa,mn⟩=none:=fun q=>by unfold eO;rw [a1U q]
 by_cases l1:12<fr.length
 ·rw [a1V (by omega),hno (fun q=>by omega)];exact⟨_,rfl,rfl⟩
 ·rw [a1U (by omega)];by_cases l2:60<nodes.length
  ·rw [a1V (by omega),hno (fun q=>by omega)];exact⟨_,rfl,rfl⟩
  ·rw [a1U (by omega)];by_cases l3:12<Aa.length
   ·rw [a1V (by omega),hno (fun q=>by omega)];exact⟨_,rfl,rfl⟩
   ·rw [a1U (by omega)];have e1:kU f ⟨fr,nodes,Aa,mn⟩ f 0 false=some (!okF none fr):=fr1 hfu (p:=⟨fr,nodes,Aa,mn⟩) fr [] f rfl (by omega) (by simp;omega) hp.names
    have hmk:∀ (k:Nat),k<=60->mk (0:Int) (k:Int)=some (List.replicate k 0):=fun k hk=>by unfold mk;rw [a1V (by omega)];simp
    rw [e1,aC];cases hok:okF none fr with
    | false=>
     have e2:=aHJ (f:=f) (p:=⟨fr,nodes,Aa,mn⟩) Aa [] f rfl (by omega) (by simp;omega)
     simp only [a0O,a0n]at e2;rw [a0k,e2,aC,hmk _ (by omega),aC,aC,hmk _ (by omega),aC,a1Q,hno (fun q=>by rw [hok]at q;cases q.2.2.2)]
     exact⟨_,rfl,rfl⟩
    | true=>
     have e2:=al2 hfu hp (p:=⟨fr,nodes,Aa,mn⟩) Aa [] f rfl (by omega) (by simp;omega)
     simp only [a0O,a0n]at e2;rw [a0l,e2,aC,hmk _ (by omega),aC,aC,hmk _ (by omega),aC];cases had:Aa.all cR with
     | false=>
      have:eO ⟨fr,nodes,Aa,mn⟩=none:=by
       cases hc:eO ⟨fr,nodes,Aa,mn⟩with
       | none=>rfl
       | some s=>
        have:=a0p.2 (hdefs (by rw [hc];simp))
        dsimp only at this
        rw [had]at this;cases this
      rw [this,a0k,a1Q];exact⟨_,rfl,rfl⟩
     | true=>
      rw [a0l,a1P];have hv:=rvis hp (a0p.1 had) nodes.length f (by omega)
      obtain⟨L,h1,h2⟩:=hv.run (eF ⟨fr,nodes,Aa,mn⟩) mn fr.length xX (by rw [xQ];exact a1A _) (by omega) (by omega)
      have hst:(⟨⟨fr,nodes,Aa,mn⟩,List.replicate nodes.length 0,List.replicate nodes.length 0,List.replicate Aa.length 0,false⟩:Aj)=⟨⟨fr,nodes,Aa,mn⟩,(eF ⟨fr,nodes,Aa,mn⟩).sz,ob (eF ⟨fr,nodes,Aa,mn⟩).AT,ob (eF ⟨fr,nodes,Aa,mn⟩).AX,false⟩:=by
       simp [eF,ob_rep]
      rw [hst,h1,aC];have hcv:eO ⟨fr,nodes,Aa,mn⟩=(vis ⟨fr,nodes,Aa,mn⟩ nodes.length (eF ⟨fr,nodes,Aa,mn⟩) mn fr.length).bind fun s=>if s.AT.all id=true/\s.AX.all id=true then some s else none:=by
       unfold eO;rw [a1V ⟨by show fr.length<=12;omega,by show nodes.length<=60;omega,by show Aa.length<=12;omega,hok⟩]
      rw [hcv];cases hc:vis ⟨fr,nodes,Aa,mn⟩ nodes.length (eF ⟨fr,nodes,Aa,mn⟩) mn fr.length with
      | none=>
       rw [hc]at h2;obtain⟨g1,g2,g3⟩:=h2;dsimp only at g2 g3
       have e3:=aEc (L:=L) L.An [] f rfl (by rw [g2];omega) (by simp;omega)
       have e4:=aC9 (L:=L) L.Am [] f rfl (by rw [g3];omega) (by simp;omega)
       simp only [a0O,a0n]at e3 e4;rw [g1,e3,aC,e4,aC];exact⟨_,rfl,rfl⟩
      | some s=>
       rw [hc]at h2;have h2:L=_:=h2;subst h2;obtain⟨w,_⟩:=(visO _ _).out _ _ _ _ xX (by rw [xQ];exact a1A _) hc
       have wm:s.AT.length=nodes.length:=w.AT;have wd:s.AX.length=Aa.length:=w.AX;have e3:=al3 (L:=⟨⟨fr,nodes,Aa,mn⟩,s.sz,ob s.AT,ob s.AX,false⟩) s.AT [] f rfl (by omega) (by simp;omega)
       simp only [a0O,a0n]at e3;dsimp only
       rw [e3,aC,aC];cases hm:s.AT.all id with
       | false=>
        have e4:=aC9 (L:=⟨⟨fr,nodes,Aa,mn⟩,s.sz,ob s.AT,ob s.AX,false⟩) (ob s.AX) [] f rfl (by rw [jL];omega) (by rw [jL];simp;omega)
        simp only [a0O,a0n]at e4;rw [a0k,e4,aC,a1U (fun q=>by cases q.1)]
        exact⟨_,rfl,rfl⟩
       | true=>
        have e4:=al4 (L:=⟨⟨fr,nodes,Aa,mn⟩,s.sz,ob s.AT,ob s.AX,false⟩) s.AX [] f rfl (by omega) (by simp;omega)
        simp only [a0O,a0n]at e4;rw [a0l,e4,aC];cases hm2:s.AX.all id with
        | false=>rw [a1U (fun q=>by cases q.2)];exact⟨_,rfl,rfl⟩
        | true=>rw [a1V ⟨rfl,rfl⟩];exact⟨_,rfl,rfl⟩
theorem aIM {p:AL} (hp:SmP p):yH F p=some (if (eO p).isSome=true then 0 else 2):=by
 obtain⟨L,h1,h2⟩:=nW (f:=F) hp
 rw [yH,show(⟨p.AF,p.AH,p.AE,p.AG⟩:AL)=p from rfl,h1,aC]
 cases hc:eO p with
 | none=>rw [hc]at h2;have h2:L.bad=true:=h2;rw [h2];rfl
 | some s=>rw [hc]at h2;have h2:L=_:=h2;subst h2;rfl
open Go.SX Go.SW Go.Dt
theorem aFO {p:AL} {sz:List Int} {AT AX:List Bool} (hl:sz.length=p.AH.length) (hB:sz.length<=1000):∀ (d i k:Nat),i+d=sz.length->d<k->oR ⟨p,sz,AT,AX⟩ p (fun x=>qI x.1 x.2) k (sz.take i) i=some sz
 | 0,i,k,h,hk=>by
  obtain _ | k:=k
  ·omega
  rw [oR,a1U (by omega),a1s (by omega)]
 | d+1,i,k,h,hk=>by
  obtain _ | k:=k
  ·omega
  have hi:i<sz.length:=by omega
  rw [oR,a1V (by omega)];dsimp only
  rw [qI,show idx sz (i:Int)=some sz[i]from vJ (a0E hi),aC,aC];have hr:eP (sz.take i++[sz[i]])=some (sz.take (i+1)):=by
   have:sz.take i++[sz[i]]=sz.take (i+1):=by rw [List.take_add_one,a0E hi];rfl
   rw [this];unfold eP;rw [a1V (by simp;omega)]
  rw [hr,aC,bK (by omega),aC];exact aFO hl hB d (i+1) k (by omega) (by omega)
theorem sizes_eq {p:AL} (hp:SmP p) {s:VS} (h:eO p=some s) (hl:s.sz.length=p.AH.length) (hB:p.AH.length<=60):sQ F p=some (s.sz,0):=by
 have e:=aFO (p:=p) (sz:=s.sz) (AT:=s.AT) (AX:=s.AX) hl (by omega) s.sz.length 0 F (by omega) (by rw [hl];show _<4000000;omega)
 rw [List.take_zero]at e
 rw [sQ,zG,xP,show(⟨p.AF,p.AH,p.AE,p.AG⟩:AL)=p from rfl,aHd hp,aC,h]
 simp only [kK]
 rw [xW]
 have e':oR ⟨p,s.sz,s.AT,s.AX⟩ p (fun x=>qI x.1 x.2) F [] 0=some s.sz:=e
 rw [e',aC,aC,aC,aC]
abbrev E:=List (Option (Int × Int))
def chs (m:Int) (d:AN):E:=(List.range d.AQ.length).map fun c:Nat=>some (m,(c:Int))
def inE (e:E) (m:Int) (d:AN):E:=e++chs m d++List.replicate d.AP.length none
def ruE (e:E) (m:Int) (d:AN) (r:Al):E:=inE e m d++List.replicate (brs d.AQ r.AZ).toNat none
def cX (p:AL) (x:Af) (e:E):List (Int × E):=
 if x.Op=4 then match idx p.AE x.N with
  | some d=>d.AO.map (fun r=>(r.AU,ruE e x.N d r))++(d.AP.map (fun y=>(y.AU,inE e x.N d))++x.AW.map (fun k=>(k,inE e x.N d)))
  | none=>[]
 else x.AW.map (fun k=>(k,e))
def LN (p:AL):Nat->Int × E->List (Int × E)
 | 0,_=>[]
 | h+1,q=>q :: (match idx p.AH q.1 with | some x=>(cX p x q.2).flatMap (LN p h) | none=>[])
def HN (p:AL):Nat->Int × E->List (Int × Int)
 | 0,_=>[]
 | h+1,q=>match idx p.AH q.1 with | some x=>(if x.Op=4 then [(x.N,q.1)] else [])++(cX p x q.2).flatMap (HN p h) | none=>[]
def okT (p:AL) (x:Af) (size:Int):Prop:=
 ((x.Op=1\/x.Op=7)/\x.AW.length=0)\/((x.Op=3\/x.Op=5)/\x.AW.length=2)\/(x.Op=2/\x.Ag.length<=3/\x.AW.length=0/\0<=x.N/\x.N<size)\/((x.Op=6\/x.Op=8)/\x.AW.length=1)\/(x.Op=4/\x.AW.length=1/\0<=x.N/\∃ d,idx p.AE x.N=some d/\cR d=true)
def Tr (p:AL):Nat->Int × E->Prop
 | 0,_=>False
 | h+1,q=>∃ x,idx p.AH q.1=some x/\0<=q.1/\okT p x q.2.length/\∀ k∈cX p x q.2,Tr p h k
structure Chg (s s':VS) (N:List (Int × E)) (D:List (Int × Int)):Prop where
 nn:(N.map (·.1)).Nodup
 dn:(D.map (·.1)).Nodup
 new:∀ q∈N,idx s.AT q.1=some false/\idx s'.AT q.1=some true/\idx s'.sz q.1=some (q.2.length:Int)
 newd:∀ q∈D,idx s.AX q.1=some false/\idx s'.AX q.1=some true
 old:∀ i,i ∉ N.map (·.1)->idx s'.AT i=idx s.AT i/\idx s'.sz i=idx s.sz i
 oldd:∀ i,i ∉ D.map (·.1)->idx s'.AX i=idx s.AX i
 ls:s'.sz.length=s.sz.length
 lm:s'.AT.length=s.AT.length
theorem Chg.nil {s:VS}:Chg s s [] []:=⟨List.nodup_nil,List.nodup_nil,fun i h=>(by cases h),fun i h=>(by cases h),fun i _=>⟨rfl,rfl⟩,fun i _=>rfl,rfl,rfl⟩
theorem Chg.trans {s s1 s2:VS} {N N':List (Int × E)} {D D':List (Int × Int)} (h:Chg s s1 N D) (k:Chg s1 s2 N' D'):Chg s s2 (N++N') (D++D'):=by
 have hd:∀ i∈N.map (·.1),i ∉ N'.map (·.1):=fun i hi hi'=>by
  obtain⟨q,hq,rfl⟩:=a1h.1 hi;obtain⟨q',hq',e⟩:=a1h.1 hi';have a:=(h.new q hq).2.1;have b:=(k.new q' hq').1;rw [e,a]at b;cases b
 have hdd:∀ i∈D.map (·.1),i ∉ D'.map (·.1):=fun i hi hi'=>by
  obtain⟨q,hq,rfl⟩:=a1h.1 hi;obtain⟨q',hq',e⟩:=a1h.1 hi';have a:=(h.newd q hq).2;have b:=(k.newd q' hq').1;rw [e,a]at b;cases b
 refine⟨?_,?_,fun q hq=>?_,fun q hq=>?_,fun i hi=>?_,fun i hi=>?_,by rw [k.ls,h.ls],by rw [k.lm,h.lm]⟩
 ·rw [a0U];exact a1m.2 ⟨h.nn,k.nn,fun a ha b hb e=>hd a ha (e ▸ hb)⟩
 ·rw [a0U];exact a1m.2 ⟨h.dn,k.dn,fun a ha b hb e=>hdd a ha (e ▸ hb)⟩
 ·rcases a1a.1 hq with hq | hq
  ·have o:=k.old q.1 (hd _ (a1h.2 ⟨q,hq,rfl⟩));obtain⟨a,b,c⟩:=h.new q hq;exact⟨a,by rw [o.1,b],by rw [o.2,c]⟩
  ·have o:=h.old q.1 (fun z=>hd _ z (a1h.2 ⟨q,hq,rfl⟩))
   obtain⟨a,b,c⟩:=k.new q hq;exact⟨by rw [<- o.1,a],b,c⟩
 ·rcases a1a.1 hq with hq | hq
  ·have o:=k.oldd q.1 (hdd _ (a1h.2 ⟨q,hq,rfl⟩));obtain⟨a,b⟩:=h.newd q hq;exact⟨a,by rw [o,b]⟩
  ·have o:=h.oldd q.1 (fun z=>hdd _ z (a1h.2 ⟨q,hq,rfl⟩))
   obtain⟨a,b⟩:=k.newd q hq;exact⟨by rw [<- o,a],b⟩
 ·rw [a0U,a1a,not_or]at hi;have a:=h.old i hi.1;have b:=k.old i hi.2;exact⟨by rw [b.1,a.1],by rw [b.2,a.2]⟩
 ·rw [a0U,a1a,not_or]at hi;rw [k.oldd i hi.2,h.oldd i hi.1]
def mark (s:VS) (n z:Int) (x:Af):VS:=⟨s.sz.set n.toNat z,s.AT.set n.toNat true,if x.Op=4 then s.AX.set x.N.toNat true else s.AX⟩
theorem aCU {g:VS->Int->Int->Option VS}:∀ (l m:List (Int × Int)) (s:VS),cL g s (l++m)=(cL g s l).bind fun s=>cL g s m
 | [],m,s=>rfl
 | x :: l,m,s=>by
  simp only [a0s,cL];cases g s x.1 x.2 with
  | none=>rfl
  | some s1=>exact aCU l m s1
theorem chs_len {m:Int} {d:AN}:(chs m d).length=d.AQ.length:=by simp [chs]
theorem sI {e:E} {m:Int} {d:AN}:((inE e m d).length:Int)=e.length+own d:=by simp only [inE,own,a0L,chs_len,a0Q];omega
theorem ruE_len {e:E} {m:Int} {d:AN} {r:Al} (h:cR d=true) (hr:r∈d.AO):((ruE e m d r).length:Int)=e.length+own d+brs d.AQ r.AZ:=by
 have b:=aBf (ch:=d.AQ) (js:=r.AZ) ((pL h).2.2.2.2 r hr).2
 rw [ruE,a0L,a0Q]
 have:=sI (e:=e) (m:=m) (d:=d)
 omega
theorem aDC {p:AL} {f:Nat} {s s':VS} {n:Int} {e:E} (h:vis p (f+1) s n e.length=some s'):
 ∃ x,idx p.AH n=some x/\0<=n/\idx s.AT n=some false/\okT p x e.length/\(x.Op=4->idx s.AX x.N=some false)/\cL (vis p f) (mark s n e.length x) ((cX p x e).map fun q=>(q.1,(q.2.length:Int)))=some s':=by
 simp only [vis]at h
 split at h
 ·rename_i h1;cases hx:idx p.AH n with
  | none=>rw [hx]at h;cases h
  | some x=>
   rw [hx,aC]at h;split at h
   ·rename_i h2;refine⟨x,rfl,h1.1,h1.2.2,?_⟩;obtain⟨⟨k,c,hk,hl,hm⟩,_⟩:=h2;split at h
    ·rename_i h4;have hm':(0<=x.N/\x.N<(p.AE.length:Int)/\idx s.AX x.N=some false)/\x.Ag.length=0:=by
      rw [h4]at hk;simp [shp]at hk;obtain⟨rfl,rfl⟩:=hk;exact hm
     have hk1:x.AW.length=1:=by
      rw [h4]at hk;simp [shp]at hk;omega
     cases hd:idx p.AE x.N with
     | none=>rw [hd]at h;cases h
     | some d=>
      rw [hd,aC]at h;split at h
      ·rename_i h5;refine⟨Or.inr (Or.inr (Or.inr (Or.inr ⟨h4,hk1,hm'.1.1,d,hd,h5⟩))),fun _=>hm'.1.2.2,?_⟩
       rw [cX,a1V h4,hd,mark,a1V h4];dsimp only
       rw [a0U,a0U,aCU];have e1:(d.AO.map (fun r=>(r.AU,ruE e x.N d r))).map (fun q=>(q.1,(q.2.length:Int)))=d.AO.map fun r=>(r.AU,(e.length:Int)+own d+brs d.AQ r.AZ):=by
        rw [a0Y];exact a0V fun r hr=>by show(r.AU,((ruE e x.N d r).length:Int))=_;rw [ruE_len h5 hr]
       have e2:(d.AP.map (fun y=>(y.AU,inE e x.N d))).map (fun q=>(q.1,(q.2.length:Int)))=d.AP.map fun y=>(y.AU,(e.length:Int)+own d):=by
        rw [a0Y];exact a0V fun r hr=>by show(r.AU,((inE e x.N d).length:Int))=_;rw [sI]
       have e3:(x.AW.map (fun y=>(y,inE e x.N d))).map (fun q=>(q.1,(q.2.length:Int)))=x.AW.map fun y=>(y,(e.length:Int)+own d):=by
        rw [a0Y];exact a0V fun r hr=>by show(r,((inE e x.N d).length:Int))=_;rw [sI]
       rw [e1,e2,e3];obtain⟨s1,a1,h⟩:=bind_some h;rw [a1,aC,aCU];exact h
      ·cases h
    ·rename_i h4;refine⟨?_,fun q=>absurd q h4,?_⟩
     ·unfold shp at hk
      repeat' split at hk
      all_goals first | (cases hk;done) | skip
      all_goals cases hk
      ·left;exact⟨‹_›,hl⟩
      ·right;left;exact⟨Or.inl ‹_›,hl⟩
      ·right;right;left;exact⟨‹_›,hm.2,hl,hm.1.1,hm.1.2⟩
      ·right;left;exact⟨Or.inr ‹_›,hl⟩
      ·right;right;right;left;exact⟨‹_›,hl⟩
     ·rw [cX,a1U h4,mark,a1U h4,a0Y];exact h
   ·cases h
 ·cases h
theorem aFc {p:AL} {f:Nat} (g:Nat) (ih:∀ (s s':VS) (q:Int × E),vis p f s q.1 q.2.length=some s'->s.sz.length=s.AT.length->Chg s s' (LN p g q) (HN p g q)/\Tr p g q):∀ (l:List (Int × E)) (s s':VS),cL (vis p f) s (l.map fun q=>(q.1,(q.2.length:Int)))=some s'->s.sz.length=s.AT.length->Chg s s' (l.flatMap (LN p g)) (l.flatMap (HN p g))/\∀ q∈l,Tr p g q
 | [],s,s',h,_=>by cases h;exact⟨Chg.nil,fun q h=>by cases h⟩
 | q :: l,s,s',h,w=>by
  simp only [a0W,cL]at h;obtain⟨s1,h1,h2⟩:=bind_some h;obtain⟨a,b⟩:=ih s s1 q h1 w;obtain⟨c,d⟩:=aFc g ih l s1 s' h2 (by rw [a.ls,a.lm,w])
  refine⟨?_,fun q' hq'=>?_⟩
  ·simp only [a0z];exact a.trans c
  ·cases hq' with
   | head=>exact b
   | tail _ hq'=>exact d q' hq'
theorem aBJ {α:Type} {l:List α} {n:Int} {b:α} (h0:0<=n) (h:n<l.length):idx (l.set n.toNat b) n=some b:=by
 have:idx (l.set n.toNat b) (n.toNat:Int)=some b:=vJ (by rw [a0H,a1V rfl,a1V (by omega)])
 rwa [Int.toNat_of_nonneg h0]at this
theorem aDv {α:Type} {l:List α} {n i:Int} {b:α} (h0:0<=n) (h:i≠n):idx (l.set n.toNat b) i=idx l i:=by
 unfold idx
 split
 ·rename_i hi;exact a0I (by omega)
 ·rfl
theorem nT {α:Type} {l:List α} {n:Int} {a:α} (h:idx l n=some a):0<=n/\n<l.length:=by
 by_cases c:0<=n/\n<l.length
 ·exact c
 ·rw [aDX c]at h;cases h
theorem mark_chg {s:VS} {n:Int} {e:E} {x:Af} (h0:0<=n) (hm:idx s.AT n=some false) (hd:x.Op=4->idx s.AX x.N=some false) (w:s.sz.length=s.AT.length):Chg s (mark s n e.length x) [(n,e)] (if x.Op=4 then [(x.N,n)] else []):=by
 have l:=nT hm
 refine⟨(by simp),?_,fun q hq=>?_,fun q hq=>?_,fun i hi=>?_,fun i hi=>?_,by simp [mark],by simp [mark]⟩
 ·split
  ·simp
  ·simp
 ·cases hq with
  | head=>exact⟨hm,aBJ h0 l.2,aBJ h0 (by omega)⟩
  | tail _ hq=>cases hq
 ·split at hq
  ·rename_i h4;cases hq with
   | head=>exact⟨hd h4,by rw [mark,a1V h4];exact aBJ (nT (hd h4)).1 (nT (hd h4)).2⟩
   | tail _ hq=>cases hq
  ·cases hq
 ·have:i≠n:=fun q=>hi (by rw [q];exact a1k.2 rfl)
  exact⟨aDv h0 this,aDv h0 this⟩
 ·rw [mark];split at hi
  ·rename_i h4;have:i≠x.N:=fun q=>hi (by rw [q];exact a1k.2 rfl)
   rw [a1V h4];exact aDv (nT (hd h4)).1 this
  ·rename_i h4;rw [a1U h4]
theorem aHw {p:AL}:∀ (f:Nat) (s s':VS) (q:Int × E),vis p f s q.1 q.2.length=some s'->s.sz.length=s.AT.length->Chg s s' (LN p f q) (HN p f q)/\Tr p f q
 | 0,s,s',q,h,_=>by cases h
 | f+1,s,s',⟨n,e⟩,h,w=>by
  obtain⟨x,hx,h0,hm,hT,hD,hv⟩:=aDC h;have c:=mark_chg (e:=e) h0 hm hD w;obtain⟨a,b⟩:=aFc f (aHw f) _ _ _ hv (by rw [c.ls,c.lm,w])
  refine⟨?_,⟨x,hx,h0,hT,b⟩⟩;have t:=c.trans a;simp only [LN,HN,hx];exact t
open Go.SX Go.SW Go.Dt
variable {p:AL}
def cD (p:AL):Int × E:=(p.AG,List.replicate p.AF.length none)
theorem ok_def {x:Af} {z:Int} (hT:okT p x z) (h4:x.Op=4):0<=x.N/\x.AW.length=1/\∃ d,idx p.AE x.N=some d/\cR d=true:=by
 rcases hT with h | h | h | h | ⟨_,h1,h0,h⟩
 ·omega
 ·omega
 ·omega
 ·omega
 ·exact⟨h0,h1,h⟩
theorem aAr {s:VS} (h:eO p=some s):∃ H,p.AH.length=H/\H<=60/\p.AE.length<=12/\p.AF.length<=12/\Tr p H (cD p)/\s.sz.length=p.AH.length/\((LN p H (cD p)).map (·.1)).Nodup/\((HN p H (cD p)).map (·.1)).Nodup/\(∀ q∈LN p H (cD p),idx s.sz q.1=some (q.2.length:Int)) /\
 (∀ n:Int,0<=n->n<p.AH.length->∃ e,(n,e)∈LN p H (cD p))/\∀ d:Int,0<=d->d<p.AE.length->∃ n,(d,n)∈HN p H (cD p):=by
 unfold eO at h
 split at h
 ·rename_i hb;obtain⟨s1,h1,h⟩:=bind_some h;split at h
  ·rename_i hm;cases h;have e1:(p.AF.length:Int)=((cD p).2.length:Int):=by simp [cD]
   rw [e1]at h1;obtain⟨c,t⟩:=aHw p.AH.length (eF p) s (cD p) h1 (by simp [eF])
   refine⟨_,rfl,hb.2.1,hb.2.2.1,hb.1,t,by rw [c.ls];simp [eF],c.nn,c.dn,fun q hq=>(c.new q hq).2.2,fun n h0 hn=>?_,fun d h0 hn=>?_⟩
   ·apply Classical.byContradiction
    intro q;have hi:n ∉ (LN p p.AH.length (cD p)).map (·.1):=fun z=>by obtain⟨⟨a,e⟩,hq,rfl⟩:=a1h.1 z;exact q ⟨e,hq⟩
    have o:=(c.old n hi).1;obtain⟨y,hy⟩:=gX (xs:=s.AT) h0 (by rw [c.lm];simp [eF];exact hn)
    have y1:y=true:=by have:=a0p.1 hm.1 y (kD hy);exact this
    rw [hy,y1]at o;have:=kD o.symm;simp [eF]at this
   ·apply Classical.byContradiction
    intro q;have hi:d ∉ (HN p p.AH.length (cD p)).map (·.1):=fun z=>by obtain⟨⟨a,e⟩,hq,rfl⟩:=a1h.1 z;exact q ⟨e,hq⟩
    have o:=c.oldd d hi;have hs:idx (eF p).AX d=some false:=by
     obtain⟨y,hy⟩:=gX (xs:=(eF p).AX) h0 (by simp [eF];exact hn)
     have:=kD hy;simp [eF]at this;rw [hy,this.2]
    rw [hs]at o;have:=a0p.1 hm.2 false (kD o);cases this
  ·cases h
 ·cases h
open Go.SX Go.SW Go.Dt
theorem b1q {α γ:Type} {T:Option α} {G:α->Option γ} {z:α} {r:Option γ} (h:T=some z) (k:G z=r):T.bind G=r:=by rw [h,aC];exact k
theorem mG {α:Type} {xs:List α} (h:xs.length<=1000000000):eP xs=some xs:=by unfold eP;rw [a1V h]
def okA (x:Af) (z:Int):Prop:=x.Ag.all (okE z)=true/\(x.Op=5->x.Ag.length=1)/\(x.Op=6\/x.Op=8->0<=x.N/\x.N<z)
def Ta (p:AL):Nat->Int × E->Prop
 | 0,_=>False
 | h+1,q=>∃ x,idx p.AH q.1=some x/\okA x q.2.length/\∀ k∈cX p x q.2,Ta p h k
theorem vis_args {p:AL} {f:Nat} {s s':VS} {n z:Int} (h:vis p (f+1) s n z=some s') {x:Af} (hx:idx p.AH n=some x):okA x z:=by
 simp only [vis]at h
 split at h
 ·rw [hx,aC]at h;split at h
  ·rename_i h2;obtain⟨⟨k,c,hk,hl,hm⟩,ha⟩:=h2;refine⟨ha,fun h5=>?_,fun h6=>?_⟩
   ·rw [h5]at hk;simp [shp]at hk;obtain⟨rfl,rfl⟩:=hk;exact(show x.N=0/\x.Ag.length=1 from hm).2
   ·have:c=3:=by
     rcases h6 with h6 | h6
     ·rw [h6]at hk;simp [shp]at hk;omega
     ·rw [h6]at hk;simp [shp]at hk;omega
    subst this;exact hm.1
  ·cases h
 ·cases h
theorem aHV {p:AL} {f:Nat} (ih:∀ (s s':VS) (q:Int × E),vis p f s q.1 q.2.length=some s'->Ta p f q):∀ (l:List (Int × E)) (s s':VS),cL (vis p f) s (l.map fun q=>(q.1,(q.2.length:Int)))=some s'->∀ q∈l,Ta p f q
 | [],_,_,_,q,hq=>by cases hq
 | q :: l,s,s',h,r,hr=>by
  simp only [a0W,cL]at h;obtain⟨s1,h1,h2⟩:=bind_some h;cases hr with
  | head=>exact ih s s1 q h1
  | tail _ hr=>exact aHV ih l s1 s' h2 r hr
theorem vis_ta {p:AL}:∀ (f:Nat) (s s':VS) (q:Int × E),vis p f s q.1 q.2.length=some s'->Ta p f q
 | 0,s,s',q,h=>by cases h
 | f+1,s,s',⟨n,e⟩,h=>by
  obtain⟨x,hx,_,_,_,_,hv⟩:=aDC h;exact⟨x,hx,vis_args h hx,aHV (vis_ta f) _ _ _ hv⟩
theorem chk_ta {p:AL} {s:VS} (h:eO p=some s):Ta p p.AH.length (cD p):=by
 unfold eO at h
 split at h
 ·obtain⟨s1,h1,h⟩:=bind_some h;have e1:(p.AF.length:Int)=((cD p).2.length:Int):=by simp [cD]
  rw [e1]at h1;exact vis_ta _ _ _ _ h1
 ·cases h
mutual
def bX:Ah->List AI
 | ⟨op,n,ks⟩=>if op=1 then [⟨1,n,0⟩] else if op=2 then [⟨2,n,0⟩] else uW ks++[⟨op,0,0⟩]
def uW:List Ah->List AI
 | []=>[]
 | k :: ks=>bX k++uW ks
end
theorem aAo {s op n:Int} {ks:List Ah} (h:fE s ⟨op,n,ks⟩=true) (h1:op≠1) (h2:op≠2):3<=op/\op<=7/\∃ a b,ks=[a,b]/\fE s a=true/\fE s b=true:=by
 simp only [fE,a0g,loc,a1U h1,a1U h2,a1T]at h
 obtain⟨⟨a1,a2,_,a4⟩,h⟩:=h
 match ks,a4,h with
 | [a,b],_,h=>
  simp only [fL,a0g,and_true]at h;exact⟨a1,a2,a,b,rfl,h.1,h.2⟩
theorem mZ:∀ (n:Nat) (s:Int) (e:Ah),nE e<=n->fE s e=true->(bX e).length<=nE e
 | 0,_,e,h,_=>by have:=pC e;omega
 | n+1,s,⟨op,m,ks⟩,h,hf=>by
  simp only [bX];by_cases h1:op=1
  ·rw [a1V h1];exact pC _
  rw [a1U h1];by_cases h2:op=2
  ·rw [a1V h2];exact pC _
  rw [a1U h2];obtain⟨_,_,a,b,rfl,fa,fb⟩:=aAo hf h1 h2;simp only [nE,nL]at h ⊢;have i1:=mZ n s a (by omega) fa
  have i2:=mZ n s b (by omega) fb
  simp only [uW,a0L,a0M,a0O];omega
theorem tL:∀ (n:Nat) (s:Int) (e:Ah),nE e<=n->fE s e=true->∀ i∈bX e,1<=i.Op/\i.Op<=7
 | 0,_,e,h,_=>by have:=pC e;omega
 | n+1,s,⟨op,m,ks⟩,h,hf=>by
  intro i hi;simp only [bX]at hi;by_cases h1:op=1
  ·rw [a1V h1]at hi;rw [a1k.1 hi];exact⟨by simp,by simp⟩
  rw [a1U h1]at hi;by_cases h2:op=2
  ·rw [a1V h2]at hi;rw [a1k.1 hi];exact⟨by simp,by simp⟩
  rw [a1U h2]at hi;obtain⟨q1,q2,a,b,rfl,fa,fb⟩:=aAo hf h1 h2;simp only [nE,nL]at h;simp only [uW,a0r,a1a,a1k]at hi;rcases hi with(hi | hi) | hi
  ·exact tL n s a (by omega) fa i hi
  ·exact tL n s b (by omega) fb i hi
  ·rw [hi];exact⟨by dsimp only;omega,q2⟩
def sh (n:Int) (l:List AI):List AI:=l.map fun i=>if i.Op=9\/i.Op=10 then⟨i.Op,i.A+n,i.B⟩ else i
def bh (a b:List AI):List AI:=a++sh a.length b
theorem kX (n:Int) (l:List AI):(sh n l).length=l.length:=by simp [sh]
theorem tU (n:Int) (a b:List AI):sh n (a++b)=sh n a++sh n b:=by simp [sh]
theorem sh_nil (n:Int):sh n []=[]:=rfl
theorem sh_sh (n m:Int) (l:List AI):sh n (sh m l)=sh (m+n) l:=by
 simp only [sh,a0Y]
 refine a0V fun i _=>?_
 simp only [Function.comp]
 by_cases h:i.Op=9\/i.Op=10
 ·rw [a1V h,a1V h,a1V h];simp only [AI.mk.injEq,true_and,and_true];omega
 ·rw [a1U h,a1U h,a1U h]
theorem sU {n:Int} {l:List AI} (h:∀ i∈l,i.Op≠9/\i.Op≠10):sh n l=l:=by
 have:sh n l=l.map id:=a0V fun i hi=>a1U (by have:=h i hi;omega)
 rw [this,List.map_id]
theorem gN (a b:List AI):(bh a b).length=a.length+b.length:=by rw [bh,a0L,kX]
theorem sh_bh (n:Int) (a b:List AI):sh n (bh a b)=sh n a++sh (n+a.length) b:=by rw [bh,tU,sh_sh,Int.add_comm]
theorem exp_no {s:Int} {e:Ah} (h:fE s e=true):∀ i∈bX e,i.Op≠9/\i.Op≠10:=fun i hi=>by have:=tL (nE e) s e (a1A _) h i hi;omega
theorem yD {op a b:Int} (h:op≠9/\op≠10):∀ i∈[(⟨op,a,b⟩:AI)],i.Op≠9/\i.Op≠10:=fun i hi=>by rw [a1k.1 hi];exact h
def wc (x:Ai) (l:List AI):Ai:=⟨⟨l⟩,x.p,x.AS,x.Aq⟩
theorem kM {x:Ai} {a b c:Int} (h:x.tape.code.length<=900000000):iJ x a b c=some (wc x (x.tape.code++[⟨a,b,c⟩])):=by
 rw [iJ]
 exact b1q (mG (by simp;omega)) rfl
theorem aBc:∀ (AA:Nat) (s:Int) (e:Ah) (x:Ai),fE s e=true->nE e<AA->x.tape.code.length+nE e<=800000000->mU AA x e=some (wc x (x.tape.code++bX e))
 | 0,_,e,_,_,h,_=>by omega
 | AA+1,s,⟨op,m,ks⟩,x,hf,hn,hB=>by
  have np:=pC ⟨op,m,ks⟩;rw [mU];simp only [bX];by_cases h1:op=1
  ·rw [a1V h1,a1V h1];exact b1q (kM (x:=x) (by omega)) rfl
  rw [a1U h1,a1U h1];by_cases h2:op=2
  ·rw [a1V h2,a1V h2];exact b1q (kM (x:=x) (by omega)) rfl
  rw [a1U h2,a1U h2];obtain⟨q1,q2,a,b,rfl,fa,fb⟩:=aAo hf h1 h2;simp only [nE,nL]at hn hB;have la:=mZ (nE a) s a (a1A _) fa;have lb:=mZ (nE b) s b (a1A _) fb;refine b1q rfl ?_;refine b1q (aBc AA s a x fa (by omega) (by omega)) ?_
  refine b1q rfl ?_;refine b1q (aBc AA s b (wc x (x.tape.code++bX a)) fb (by omega) (by show(x.tape.code++bX a).length+_<=_;rw [a0L];omega)) ?_
  refine b1q (z:=op) ?_ ?_
  ·rw [aAv];refine b1q (bK (by omega)) ?_
   refine b1q (bK (by omega)) ?_
   rw [show 3+(op - 3)=op by omega]
  refine b1q (kM (x:=wc (wc x (x.tape.code++bX a)) (x.tape.code++bX a++bX b)) (by show(x.tape.code++bX a++bX b).length<=_;rw [a0L,a0L];omega)) ?_
  simp [uW,wc]
open Go.SX Go.SW Go.Dt
def kid (x:Af) (i:Nat):Int:=x.AW.getD i 0
def ownN (p:AL) (m:Int):Int:=match idx p.AE m with | some d=>own d | none=>0
def dJ (c:List AI × Bool) (z:Int):List AI:=if c.2=true then c.1++[⟨12,z,0⟩] else c.1
def ifC (e a b:List AI):List AI:=bh (bh (e++[⟨9,e.length+2+a.length,0⟩]) a++[⟨10,e.length+2+a.length+b.length,0⟩]) b
def arg0 (x:Af):List AI:=match x.Ag with | []=>[] | e :: _=>bX e
def cG (p:AL):Nat->Int->Int->List AI × Bool
 | 0,_,_=>([],false)
 | h+1,n,z=>match idx p.AH n with
  | none=>([],false)
  | some x=>
   if x.Op=2 then(x.Ag.flatMap bX++[⟨8,x.N,x.Ag.length⟩],false)
   else if x.Op=3 then(bh (dJ (cG p h (kid x 0) z) z) (cG p h (kid x 1) z).1,(cG p h (kid x 1) z).2)
   else if x.Op=4 then(bh [⟨11,x.N,0⟩] (cG p h (kid x 0) (z+ownN p x.N)).1,true)
   else if x.Op=5 then(ifC (arg0 x) (dJ (cG p h (kid x 0) z) z) (dJ (cG p h (kid x 1) z) z),false)
   else if x.Op=6 then([⟨13,x.N,kid x 0⟩],false)
   else if x.Op=8 then([⟨15,x.N,kid x 0⟩],false)
   else if x.Op=7 then([⟨14,0,0⟩],false)
   else ([],false)
def J (l:List AI):Prop:=∀ i∈l,i.Op=9\/i.Op=10->0<=i.A/\i.A<=(l.length:Int)
theorem aCd (c:List AI × Bool) (z:Int):(dJ c z).length<=c.1.length+1:=by
 unfold dJ
 split
 ·simp
 ·omega
theorem zE (e a b:List AI):(ifC e a b).length=e.length+a.length+b.length+2:=by
 rw [ifC,gN,a0L,gN,a0L];simp;omega
theorem aBE {α:Type} (AB AD:List α) (y z:α):(AB++y :: AD).set AB.length z=AB++z :: AD:=by simp
theorem fm_len {s:Int}:∀ l:List Ah,l.all (okE s)=true->(l.flatMap bX).length<=60*l.length
 | [],_=>by simp
 | e :: l,h=>by
  simp only [List.all_cons,a0g]at h;have ih:=fm_len l h.2;have he:=h.1;unfold okE at he;simp only [a0g,a1T]at he;have:=mZ (nE e) s e (a1A _) he.1.1;simp only [a0z,a0L,a0M];omega
theorem nI {s:Int} {e:Ah} (h:okE s e=true):fE s e=true/\nE e<=60:=by
 unfold okE at h
 simp only [a0g,a1T]at h
 exact⟨h.1.1,h.2⟩
theorem fm_no {s:Int} {l:List Ah} (h:l.all (okE s)=true):∀ i∈l.flatMap bX,i.Op≠9/\i.Op≠10:=fun i hi=>by
 obtain⟨e,he,hi⟩:=a1e.1 hi
 exact exp_no (nI (a0p.1 h e he)).1 i hi
theorem pargs {AA:Nat} {x:Af} {s:Int} {c:Ai} (hf:1000<=AA) (AD:List Ah):∀ (AB:List Ah) (k:Nat) (l:List AI),x.Ag=AB++AD->AD.length<k->AB.length+AD.length<=1000->l.length+60*AD.length<=700000000->AD.all (okE s)=true ->
 qX AA x k (AB.length:Int) l c.p.AF c.p.AH c.p.AE c.p.AG c.AS c.Aq=some (l++AD.flatMap bX,c.p.AF,c.p.AH,c.p.AE,c.p.AG,c.AS,c.Aq):=by
 induction AD with
 | nil=>
  intro AB k l h hk _ _ _;obtain _ | k:=k
  ·omega
  rw [qX,h,a1U (by simp)];simp
 | cons e AD ih=>
  intro AB k l h hk hB hl ha;obtain _ | k:=k
  ·omega
  simp only [a0M]at hk hB hl;simp only [List.all_cons,a0g]at ha;obtain⟨fe,ne⟩:=nI ha.1;have le:=mZ (nE e) s e (a1A _) fe;rw [qX,a1V (by rw [h];exact dB _ _ _)];refine b1q (by rw [h];exact cY _ _ _) ?_
  refine b1q (z:=wc ⟨⟨l⟩,c.p,c.AS,c.Aq⟩ (l++bX e)) (by rw [zO];exact aBc AA s e ⟨⟨l⟩,c.p,c.AS,c.Aq⟩ fe (by omega) (by dsimp only;omega)) ?_
  refine b1q (bK (by omega)) ?_
  rw [cN AB e];have:=ih (AB++[e]) k (l++bX e) (by rw [h];simp) (by omega) (by simp;omega) (by rw [a0L];omega) ha.2
  rw [a0z,<- a0q];exact this
theorem sh9 (n x:Int):sh n [(⟨9,x,0⟩:AI)]=[⟨9,x+n,0⟩]:=by simp [sh]
theorem sh10 (n x:Int):sh n [(⟨10,x,0⟩:AI)]=[⟨10,x+n,0⟩]:=by simp [sh]
theorem if_at {C e a b C1 D A0 B0:List AI} (hno:∀ i∈e,i.Op≠9/\i.Op≠10) (h1:C1=C++e) (hA:A0=sh ((C1++[(⟨9,0,0⟩:AI)]).length:Int) a) (hD:D=C1++(⟨9,(C1.length:Int)+2+A0.length,0⟩:AI) :: A0) (hB:B0=sh ((D++[(⟨10,0,0⟩:AI)]).length:Int) b):
 C++sh C.length (ifC e a b)=D++(⟨10,(D.length:Int)+1+B0.length,0⟩:AI) :: B0:=by
 have lC1:C1.length=C.length+e.length:=by rw [h1,a0L]
 have lA0:A0.length=a.length:=by rw [hA,kX]
 have lD:D.length=C1.length+1+A0.length:=by rw [hD,a0L,a0M];omega
 have lB0:B0.length=b.length:=by rw [hB,kX]
 have q1:(e.length:Int)+2+a.length+C.length=(C1.length:Int)+2+A0.length:=by omega
 have q2:(C.length:Int)+((e++[(⟨9,(e.length:Int)+2+a.length,0⟩:AI)]).length:Int)=((C1++[(⟨9,0,0⟩:AI)]).length:Int):=by simp only [a0L,a0S];omega
 have q3:(e.length:Int)+2+a.length+b.length+C.length=(D.length:Int)+1+B0.length:=by omega
 have q4:(C.length:Int)+((bh (e++[(⟨9,(e.length:Int)+2+a.length,0⟩:AI)]) a++[(⟨10,(e.length:Int)+2+a.length+b.length,0⟩:AI)]).length:Int)=((D++[(⟨10,0,0⟩:AI)]).length:Int):=by simp only [a0L,a0S,gN];omega
 rw [ifC,sh_bh,q4,<- hB,tU,sh_bh,q2,<- hA,tU,sU hno,sh9,sh10,q1,q3,hD,h1]
 simp
structure oP (p:AL) (sz:List Int) (h:Nat) (q:Int × E) (c:List AI × Bool):Prop where
 len:c.1.length+1<=250*(LN p h q).length
 prog:∀ AA (x:Ai),3000000+2*h<=AA->x.p=p->x.AS=sz->x.tape.code.length+c.1.length<=100000000->gM AA x q.1=some (wc x (x.tape.code++sh x.tape.code.length c.1))
 grow:∀ AA (x:Ai),h<=AA->x.p=p->kF AA x q.1=some (x,c.2)
theorem oP.kept {p:AL} {sz:List Int} {h:Nat} {q:Int × E} {c:List AI × Bool} (H:oP p sz h q c) {AA:Nat} {z:Int} {x:Ai} (hf:3000000+2*h<=AA) (hp:x.p=p) (hz:x.AS=sz) (hl:x.tape.code.length+(dJ c z).length<=100000000):pM (AA+1) x q.1 z=some (wc x (x.tape.code++sh x.tape.code.length (dJ c z))):=by
 have hlen:x.tape.code.length+c.1.length<=100000000:=by
  unfold dJ at hl;split at hl
  ·rw [a0L]at hl;omega
  ·exact hl
 rw [pM]
 refine b1q (H.prog AA x hf hp hz hlen) ?_
 refine b1q (H.grow AA _ (by omega) hp) ?_
 unfold dJ
 cases hc:c.2 with
 | true=>
  dsimp only
  rw [a1Q,a1V rfl];refine b1q (kM (x:=wc x (x.tape.code++sh x.tape.code.length c.1)) (by show(x.tape.code++sh x.tape.code.length c.1).length<=_;rw [a0L,kX];omega)) ?_
  rw [tU,sU (yD (by omega)),<- a0q];rfl
 | false=>dsimp only;rw [a1P,a1U (by simp)]
theorem uP {x:Af} (h:x.AW.length=2):idx x.AW 0=some (kid x 0)/\idx x.AW 1=some (kid x 1)/\x.AW=[kid x 0,kid x 1]:=by
 unfold kid
 match x.AW,h with
 | [a,b],_=>exact⟨rfl,rfl,rfl⟩
theorem lW {x:Af} (h:x.AW.length=1):idx x.AW 0=some (kid x 0)/\x.AW=[kid x 0]:=by
 unfold kid
 match x.AW,h with
 | [a],_=>exact⟨rfl,rfl⟩
theorem aHc {p:AL} {sz:List Int}:∀ (h:Nat) (q:Int × E),Tr p h q->Ta p h q->(∀ b∈LN p h q,idx sz b.1=some (b.2.length:Int))->(LN p h q).length<=1000->oP p sz h q (cG p h q.1 q.2.length)
 | 0,q,hT,_,_,_=>hT.elim
 | h+1,⟨n,e⟩,⟨x,hx,h0,hT,hK⟩,⟨x',hx',hA,hKA⟩,hsz,hlen=>by
  dsimp only at hx hT hx' hA hK hKA
  have exx:x'=x:=by rw [hx]at hx';exact(a1L hx').symm
  subst exx;have hLN:LN p (h+1) (n,e)=(n,e) :: (cX p x' e).flatMap (LN p h):=by simp only [LN,hx]
  have hself:idx sz n=some (e.length:Int):=hsz (n,e) (by rw [hLN];exact .head _)
  rw [hLN,a0M]at hlen;have hsub:∀ k∈cX p x' e,(∀ b∈LN p h k,idx sz b.1=some (b.2.length:Int))/\(LN p h k).length<=((cX p x' e).flatMap (LN p h)).length:=fun k hk=>
   ⟨fun b hb=>hsz b (by rw [hLN];exact .tail _ (a1e.2 ⟨k,hk,hb⟩)),by
    obtain⟨a,b,hab⟩:=List.append_of_mem hk;rw [hab,a0y,a0z,a0L,a0L];omega⟩
  have IH:∀ k∈cX p x' e,oP p sz h k (cG p h k.1 k.2.length):=fun k hk=>aHc h k (hK k hk) (hKA k hk) (hsub k hk).1 (by have:=(hsub k hk).2;omega)
  have hns:x'.Op≠4->cX p x' e=x'.AW.map fun k=>(k,e):=fun g=>by rw [cX,a1U g]
  have small:∀ (l:List AI),(∀ i∈l,i.Op≠9/\i.Op≠10)->l.length+1<=250->l.length+1<=250*(LN p (h+1) (n,e)).length:=fun l h1 h2=>by rw [hLN,a0M];omega
  have one:∀ (op a b:Int),op≠9/\op≠10->([(⟨op,a,b⟩:AI)].length+1<=250*(LN p (h+1) (n,e)).length):=fun op a b g=>small _ (yD g) (by simp)
  rw [cG];dsimp only
  rw [hx];dsimp only
  by_cases o2:x'.Op=2
  ·rw [a1V o2];have hargs:x'.Ag.length<=3:=by rcases hT with g | g | g | g | g <;> omega
   have hno:=fm_no hA.1;have hl:=fm_len x'.Ag hA.1;have hno2:∀ i∈x'.Ag.flatMap bX++[(⟨8,x'.N,(x'.Ag.length:Int)⟩:AI)],i.Op≠9/\i.Op≠10:=fun i hi=>by
    rcases a1a.1 hi with hi | hi
    ·exact hno i hi
    ·rw [a1k.1 hi];exact⟨by simp,by simp⟩
   have s1:=small _ hno2 (by rw [a0L,a0S];omega)
   refine⟨s1,fun AA y hf hp hz hB=>?_,fun AA y hf hp=>?_⟩
   ·obtain _ | AA:=AA
    ·omega
    rw [a0L,a0S]at hB;rw [gM];refine b1q (by rw [hp];exact hx) ?_
    rw [a1V o2];refine b1q (pargs (AA:=AA) (x:=x') (s:=e.length) (c:=y) (by omega) x'.Ag [] AA y.tape.code rfl (by omega) (by simp;omega) (by omega) hA.1) ?_
    refine b1q (kM (x:=wc y (y.tape.code++x'.Ag.flatMap bX)) (by show(y.tape.code++x'.Ag.flatMap bX).length<=_;rw [a0L];omega)) ?_
    rw [sU hno2,<- a0q];rfl
   ·obtain _ | AA:=AA
    ·omega
    rw [kF];refine b1q (by rw [hp];exact hx) ?_
    rw [a1U (by omega),a1U (by omega)];rfl
  rw [a1U o2];by_cases o3:x'.Op=3
  ·rw [a1V o3];have hk2:x'.AW.length=2:=by rcases hT with g | g | g | g | g <;> omega
   obtain⟨k0,k1,kk⟩:=uP hk2;have hsb:cX p x' e=[(kid x' 0,e),(kid x' 1,e)]:=by rw [hns (by omega),kk];simp [kid]
   rw [hsb]at IH hlen hLN;have i0:=IH _ (.head _);have i1:=IH _ (.tail _ (.head _));dsimp only at i0 i1
   simp only [a0z,List.flatMap_nil,a0r,a0L]at hlen hLN;generalize cG p h (kid x' 0) e.length=c0 at i0
   generalize cG p h (kid x' 1) e.length=c1 at i1
   have l0:=i0.len;have l1:=i1.len;have lc:=aCd c0 e.length
   refine⟨?_,fun AA y hf hp hz hB=>?_,fun AA y hf hp=>?_⟩
   ·dsimp only;rw [gN,hLN,a0M,a0L];omega
   ·obtain _ | AA:=AA
    ·omega
    obtain _ | AA:=AA
    ·omega
    dsimp only at hB
    rw [gN]at hB;rw [gM];refine b1q (by rw [hp];exact hx) ?_
    rw [a1U o2,a1V o3];refine b1q k0 ?_;refine b1q (by rw [hz];exact hself) ?_
    refine b1q (i0.kept (z:=e.length) (x:=y) (by omega) hp hz (by omega)) ?_
    refine b1q k1 ?_;refine b1q (i1.prog (AA+1) (wc y (y.tape.code++sh y.tape.code.length (dJ c0 e.length))) (by omega) hp hz (by show(y.tape.code++sh y.tape.code.length (dJ c0 e.length)).length+_<=_;rw [a0L,kX];omega)) ?_
    dsimp only
    rw [sh_bh,<- a0q];show some (wc y _)=some (wc y _)
    congr 2
    show _++sh ((y.tape.code++sh y.tape.code.length (dJ c0 e.length)).length:Int) c1.1=_
    rw [a0L,kX,Int.natCast_add];rfl
   ·obtain _ | AA:=AA
    ·omega
    rw [kF];refine b1q (by rw [hp];exact hx) ?_
    rw [a1U (by omega),a1V o3];refine b1q (z:=(c1.2,y.tape.code,y.p.AF,y.p.AH,y.p.AE,y.p.AG,y.AS,y.Aq)) ?_ rfl;refine b1q k1 ?_;exact b1q (i1.grow AA y (by omega) hp) rfl
  rw [a1U o3];by_cases o4:x'.Op=4
  ·rw [a1V o4];have ⟨hk1,d,hd,hdo⟩:x'.AW.length=1/\∃ d,idx p.AE x'.N=some d/\cR d=true:=by
    rcases hT with g | g | g | g | ⟨_,g2,_,g3⟩
    ·omega
    ·omega
    ·omega
    ·omega
    ·exact⟨g2,g3⟩
   obtain⟨k0,kk⟩:=lW hk1;have hmem:(kid x' 0,inE e x'.N d)∈cX p x' e:=by
    rw [cX,a1V o4,hd];exact a1c _ (a1c _ (a1h.2 ⟨kid x' 0,by rw [kk];simp [kid],rfl⟩))
   have i0:=IH _ hmem;have hl0:=(hsub _ hmem).2;dsimp only at i0
   have ez:((inE e x'.N d).length:Int)=e.length+ownN p x'.N:=by rw [sI,ownN,hd]
   rw [ez]at i0;generalize cG p h (kid x' 0) (e.length+ownN p x'.N)=c0 at i0
   have l0:=i0.len;refine⟨?_,fun AA y hf hp hz hB=>?_,fun AA y hf hp=>?_⟩
   ·simp only [gN,hLN,a0M,a0O];omega
   ·obtain _ | AA:=AA
    ·omega
    dsimp only at hB
    rw [gN,a0S]at hB;rw [gM];refine b1q (by rw [hp];exact hx) ?_
    rw [a1U o2,a1U o3,a1V o4];refine b1q (kM (x:=y) (by omega)) ?_
    refine b1q k0 ?_;refine b1q (i0.prog AA (wc y (y.tape.code++[⟨11,x'.N,0⟩])) (by omega) hp hz (by show(y.tape.code++[_]).length+_<=_;rw [a0L,a0S];omega)) ?_
    dsimp only
    rw [sh_bh,sU (yD (by omega)),<- a0q];show some (wc y _)=some (wc y _)
    congr 2
    show _++sh ((y.tape.code++[(⟨11,x'.N,0⟩:AI)]).length:Int) c0.1=_
    rw [a0L,Int.natCast_add];rfl
   ·obtain _ | AA:=AA
    ·omega
    rw [kF];refine b1q (by rw [hp];exact hx) ?_
    rw [a1V o4];rfl
  rw [a1U o4];by_cases o5:x'.Op=5
  ·rw [a1V o5];have hk2:x'.AW.length=2:=by rcases hT with g | g | g | g | g <;> omega
   obtain⟨k0,k1,kk⟩:=uP hk2;have hsb:cX p x' e=[(kid x' 0,e),(kid x' 1,e)]:=by rw [hns (by omega),kk];simp [kid]
   rw [hsb]at IH hlen hLN;have i0:=IH _ (.head _);have i1:=IH _ (.tail _ (.head _));dsimp only at i0 i1
   simp only [a0z,List.flatMap_nil,a0r,a0L]at hlen hLN;obtain⟨a,ha⟩:∃ a,x'.Ag=[a]:=by
    have:=hA.2.1 o5;match x'.Ag,this with
    | [a],_=>exact⟨a,rfl⟩
   have hall:=hA.1;rw [ha]at hall;simp only [List.all_cons,List.all_nil,Bool.and_true]at hall;obtain⟨fa,na⟩:=nI hall;have la:=mZ (nE a) _ a (a1A _) fa;have hno:=exp_no fa;have harg:arg0 x'=bX a:=by rw [arg0,ha]
   have hia:idx x'.Ag 0=some a:=by rw [ha];rfl
   rw [harg];generalize cG p h (kid x' 0) e.length=c0 at i0
   generalize cG p h (kid x' 1) e.length=c1 at i1
   have l0:=i0.len;have l1:=i1.len;have lc0:=aCd c0 e.length;have lc1:=aCd c1 e.length
   refine⟨?_,fun AA y hf hp hz hB=>?_,fun AA y hf hp=>?_⟩
   ·dsimp only;rw [zE,hLN,a0M,a0L];omega
   ·obtain _ | AA:=AA
    ·omega
    obtain _ | AA:=AA
    ·omega
    dsimp only at hB
    rw [zE]at hB;rw [gM];refine b1q (by rw [hp];exact hx) ?_
    rw [a1U o2,a1U o3,a1U o4,a1V o5];refine b1q hia ?_;refine b1q (aBc _ _ a y fa (by omega) (by omega)) ?_
    generalize hC1:y.tape.code++bX a=C1
    have lC1:C1.length=y.tape.code.length+(bX a).length:=by rw [<- hC1,a0L]
    refine b1q (z:=(wc y (C1++[⟨9,0,0⟩]),(C1.length:Int))) ?_ ?_
    ·rw [tW];exact b1q (kM (x:=wc y C1) (by show C1.length<=_;omega)) rfl
    refine b1q k0 ?_;refine b1q (by show idx y.AS n=_;rw [hz];exact hself) ?_
    have lC2:(C1++[(⟨9,0,0⟩:AI)]).length=C1.length+1:=by simp
    refine b1q (i0.kept (z:=e.length) (x:=wc y (C1++[⟨9,0,0⟩])) (by omega) hp hz (by show(C1++[_]).length+_<=_;omega)) ?_
    generalize hA0:sh ((C1++[(⟨9,0,0⟩:AI)]).length:Int) (dJ c0 e.length)=A0
    have lA0:A0.length=(dJ c0 e.length).length:=by rw [<- hA0,kX]
    have e3:wc (wc y (C1++[⟨9,0,0⟩])) ((wc y (C1++[⟨9,0,0⟩])).tape.code++sh ((wc y (C1++[⟨9,0,0⟩])).tape.code.length:Int) (dJ c0 e.length))=wc y (C1++⟨9,0,0⟩ :: A0):=by
     show wc y (C1++[⟨9,0,0⟩]++sh ((C1++[(⟨9,0,0⟩:AI)]).length:Int) (dJ c0 e.length))=_
     rw [hA0,a0q];rfl
    rw [e3];refine b1q (z:=(wc y (C1++⟨9,0,0⟩ :: (A0++[⟨10,0,0⟩])),(C1.length:Int)+1+A0.length)) ?_ ?_
    ·rw [tW];refine b1q (kM (x:=wc y (C1++⟨9,0,0⟩ :: A0)) (by show(C1++_ :: A0).length<=_;rw [a0L,a0M];omega)) ?_
     have:((C1++(⟨9,0,0⟩:AI) :: A0).length:Int)=(C1.length:Int)+1+A0.length:=by rw [a0L,a0M];omega
     show some (wc y (C1++⟨9,0,0⟩ :: A0++[⟨10,0,0⟩]),((C1++(⟨9,0,0⟩:AI) :: A0).length:Int))=_
     rw [this,a0q];rfl
    have lC4:(C1++(⟨9,0,0⟩:AI) :: (A0++[(⟨10,0,0⟩:AI)])).length=C1.length+2+A0.length:=by rw [a0L,a0M,a0L,a0S];omega
    refine b1q (z:=wc y (C1++⟨9,(C1.length:Int)+2+A0.length,0⟩ :: (A0++[⟨10,0,0⟩]))) ?_ ?_
    ·rw [tG];refine b1q (cY C1 (A0++[(⟨10,0,0⟩:AI)]) ⟨9,0,0⟩) ?_;show some (wc y ((C1++(⟨9,0,0⟩:AI) :: (A0++[(⟨10,0,0⟩:AI)])).set ((C1.length:Int)).toNat _))=_
     rw [a0o,aBE];show some (wc y (C1++⟨9,((C1++(⟨9,0,0⟩:AI) :: (A0++[(⟨10,0,0⟩:AI)])).length:Int),0⟩ :: _))=_
     rw [lC4];have:((C1.length+2+A0.length:Nat):Int)=(C1.length:Int)+2+A0.length:=by omega
     rw [this]
    generalize hD:C1++(⟨9,(C1.length:Int)+2+A0.length,0⟩:AI) :: A0=D
    have lD:D.length=C1.length+1+A0.length:=by rw [<- hD,a0L,a0M];omega
    have eD:C1++(⟨9,(C1.length:Int)+2+A0.length,0⟩:AI) :: (A0++[⟨10,0,0⟩])=D++[⟨10,0,0⟩]:=by rw [<- hD,a0q];rfl
    rw [eD];refine b1q k1 ?_;refine b1q (by show idx y.AS n=_;rw [hz];exact hself) ?_
    have lD1:(D++[(⟨10,0,0⟩:AI)]).length=D.length+1:=by simp
    refine b1q (i1.kept (z:=e.length) (x:=wc y (D++[⟨10,0,0⟩])) (by omega) hp hz (by show(D++[_]).length+_<=_;omega)) ?_
    generalize hB0:sh ((D++[(⟨10,0,0⟩:AI)]).length:Int) (dJ c1 e.length)=B0
    have lB0:B0.length=(dJ c1 e.length).length:=by rw [<- hB0,kX]
    have e6:wc (wc y (D++[⟨10,0,0⟩])) ((wc y (D++[⟨10,0,0⟩])).tape.code++sh ((wc y (D++[⟨10,0,0⟩])).tape.code.length:Int) (dJ c1 e.length))=wc y (D++⟨10,0,0⟩ :: B0):=by
     show wc y (D++[⟨10,0,0⟩]++sh ((D++[(⟨10,0,0⟩:AI)]).length:Int) (dJ c1 e.length))=_
     rw [hB0,a0q];rfl
    rw [e6];refine b1q (z:=wc y (D++⟨10,(D.length:Int)+1+B0.length,0⟩ :: B0)) ?_ ?_
    ·have hat:(C1.length:Int)+1+A0.length=(D.length:Int):=by omega
     rw [tG];dsimp only
     rw [hat];refine b1q (cY D B0 ⟨10,0,0⟩) ?_;show some (wc y ((D++(⟨10,0,0⟩:AI) :: B0).set ((D.length:Int)).toNat _))=_
     rw [a0o,aBE];show some (wc y (D++⟨10,((D++(⟨10,0,0⟩:AI) :: B0).length:Int),0⟩ :: _))=_
     have:((D++(⟨10,0,0⟩:AI) :: B0).length:Int)=(D.length:Int)+1+B0.length:=by rw [a0L,a0M];omega
     rw [this]
    rw [if_at (D:=D) hno hC1.symm hA0.symm hD.symm hB0.symm]
   ·obtain _ | AA:=AA
    ·omega
    rw [kF];refine b1q (by rw [hp];exact hx) ?_
    rw [a1U (by omega),a1U (by omega)];rfl
  rw [a1U o5];have plain:∀ (op a b:Int),op≠9/\op≠10->(∀ AA (y:Ai),3000000+2*(h+1)<=AA->y.p=p->y.tape.code.length<=100000000->gM AA y n=some (wc y (y.tape.code++[⟨op,a,b⟩])))->oP p sz (h+1) (n,e) ([⟨op,a,b⟩],false):=fun op a b g1 g3=>
   ⟨one op a b g1,fun AA y hf hp hz hB=>by rw [sU (yD g1)];exact g3 AA y hf hp (by omega),fun AA y hf hp=>by
    obtain _ | AA:=AA
    ·omega
    rw [kF];refine b1q (by rw [hp];exact hx) ?_
    rw [a1U (by omega),a1U (by omega)];rfl⟩
  by_cases o6:x'.Op=6
  ·rw [a1V o6];have hk1:x'.AW.length=1:=by rcases hT with g | g | g | g | g <;> omega
   obtain⟨k0,kk⟩:=lW hk1;refine plain _ _ _ (by omega) (fun AA y hf hp hB=>?_)
   ·obtain _ | AA:=AA
    ·omega
    rw [gM];refine b1q (by rw [hp];exact hx) ?_
    rw [a1U o2,a1U o3,a1U o4,a1U o5,a1V o6];refine b1q k0 ?_;exact b1q (kM (x:=y) (by omega)) rfl
  rw [a1U o6];by_cases o8:x'.Op=8
  ·rw [a1V o8];have hk1:x'.AW.length=1:=by rcases hT with g | g | g | g | g <;> omega
   obtain⟨k0,kk⟩:=lW hk1;refine plain _ _ _ (by omega) (fun AA y hf hp hB=>?_)
   ·obtain _ | AA:=AA
    ·omega
    rw [gM];refine b1q (by rw [hp];exact hx) ?_
    rw [a1U o2,a1U o3,a1U o4,a1U o5,a1U o6,a1V o8];refine b1q k0 ?_;exact b1q (kM (x:=y) (by omega)) rfl
  rw [a1U o8];by_cases o7:x'.Op=7
  ·rw [a1V o7];refine plain _ _ _ (by omega) (fun AA y hf hp hB=>?_)
   ·obtain _ | AA:=AA
    ·omega
    rw [gM];refine b1q (by rw [hp];exact hx) ?_
    rw [a1U o2,a1U o3,a1U o4,a1U o5,a1U o6,a1U o8,a1V o7];exact b1q (kM (x:=y) (by omega)) rfl
  rw [a1U o7];refine⟨small [] (fun i hi=>by cases hi) (by simp),fun AA y hf hp hz hB=>?_,fun AA y hf hp=>?_⟩
  ·obtain _ | AA:=AA
   ·omega
   rw [gM];refine b1q (by rw [hp];exact hx) ?_
   rw [a1U o2,a1U o3,a1U o4,a1U o5,a1U o6,a1U o8,a1U o7,sh_nil,a0r];rfl
  ·obtain _ | AA:=AA
   ·omega
   rw [kF];refine b1q (by rw [hp];exact hx) ?_
   rw [a1U (by omega),a1U (by omega)];rfl
open Go.SX Go.SW Go.Dt
def fW (d:AN):List Int:=d.AO.map (·.AU)++d.AP.map (·.AU)
def goN (x:Af):List Int:=if x.Op=6\/x.Op=8 then [kid x 0] else []
def bN (p:AL):List Int:=p.AG :: (p.AE.flatMap fW++p.AH.flatMap goN)
def dR (p:AL) (x:Af) (e:E):List (Int × E):=
 if x.Op=4 then match idx p.AE x.N with
  | some d=>d.AO.map (fun r=>(r.AU,ruE e x.N d r))++d.AP.map (fun y=>(y.AU,inE e x.N d))
  | none=>[]
 else if x.Op=6\/x.Op=8 then x.AW.map (fun k=>(k,e)) else []
def eY (p:AL) (x:Af) (e:E):List (Int × E):=
 if x.Op=4 then match idx p.AE x.N with
  | some d=>x.AW.map (fun k=>(k,inE e x.N d))
  | none=>[]
 else if x.Op=6\/x.Op=8 then [] else x.AW.map (fun k=>(k,e))
theorem rN (p:AL) (x:Af) (e:E):cX p x e=dR p x e++eY p x e:=by
 unfold cX dR eY
 by_cases h:x.Op=4
 ·rw [a1V h,a1V h,a1V h];cases idx p.AE x.N with
  | none=>rfl
  | some d=>dsimp only;rw [a0q]
 ·rw [a1U h,a1U h,a1U h];by_cases g:x.Op=6\/x.Op=8
  ·rw [a1V g,a1V g,a0r]
  ·rw [a1U g,a1U g];rfl
def bgAt (p:AL) (m:Int):List Int:=(idx p.AE m).elim [] fW
def goAt (p:AL) (n:Int):List Int:=(idx p.AH n).elim [] goN
def rcX (p:AL) (x:Af):List Int:=if x.Op=4 then bgAt p x.N else if x.Op=6\/x.Op=8 then x.AW else []
def rcq (p:AL) (n:Int):List Int:=match idx p.AH n with | some x=>rcX p x | none=>[]
theorem aHu (p:AL) (x:Af) (e:E):(dR p x e).map (·.1)=rcX p x:=by
 unfold dR rcX bgAt
 by_cases h:x.Op=4
 ·rw [a1V h,a1V h];cases idx p.AE x.N with
  | none=>rfl
  | some d=>simp [fW,Function.comp_def,Option.elim]
 ·rw [a1U h,a1U h];by_cases g:x.Op=6\/x.Op=8
  ·rw [a1V g,a1V g];simp [Function.comp_def]
  ·rw [a1U g,a1U g];rfl
def RT (p:AL) (h:Nat) (q:Int × E):List Int:=((LN p h q).map (·.1)).flatMap (rcq p)
theorem iD {p:AL} {h:Nat} {q:Int × E} {x:Af} (hx:idx p.AH q.1=some x):LN p (h+1) q=q :: (cX p x q.2).flatMap (LN p h):=by simp only [LN,hx]
theorem aGh {p:AL} {h:Nat} {q:Int × E} {x:Af} (hx:idx p.AH q.1=some x):RT p (h+1) q=rcX p x++(cX p x q.2).flatMap (RT p h):=by
 unfold RT
 rw [iD hx,a0W,a0z,a0X,List.flatMap_assoc]
 congr 1
 unfold rcq;rw [hx]
theorem aFk {p:AL} {h:Nat} {a:Int} (l:List (Int × E)) (ih:∀ k∈l,(k.1 :: RT p h k).count a<=((LN p h k).map (·.1)).count a):(l.map (·.1)).count a+(l.flatMap (RT p h)).count a<=((l.flatMap (LN p h)).map (·.1)).count a:=by
 induction l with
 | nil=>simp
 | cons k l ihl=>
  have h1:=ih k (.head _);have h2:=ihl fun q hq=>ih q (.tail _ hq)
  rw [a0u]at h1;rw [a0W,a0u,a0z,a0z,a0U,a0t,a0t];omega
theorem aCL {p:AL} (a:Int):∀ (h:Nat) (q:Int × E),Tr p h q->(q.1 :: RT p h q).count a<=((LN p h q).map (·.1)).count a
 | 0,q,hT=>hT.elim
 | h+1,q,⟨x,hx,_,_,hK⟩=>by
  have hs:=rN p x q.2;have hr:=aFk (a:=a) (h:=h) (dR p x q.2) (fun k hk=>aCL a h k (hK k (by rw [hs];exact a1b _ hk)))
  have hi:=aFk (a:=a) (h:=h) (eY p x q.2) (fun k hk=>aCL a h k (hK k (by rw [hs];exact a1c _ hk)))
  rw [aGh hx,iD hx,a0W,a0u,a0u,hs,a0y,a0y,a0U,a0t,a0t,a0t,<- aHu p x q.2];omega
theorem aGl {l:List Int}:l.Nodup ↔ ∀ a,l.count a<=1:=by
 induction l with
 | nil=>simp
 | cons b l ih=>
  rw [a1n,ih];constructor
  ·rintro⟨h1,h2⟩ a
   rw [a0u];by_cases e:b=a
   ·subst e;rw [List.count_eq_zero.2 h1];simp
   ·have:=h2 a;rw [a1U (by simpa using e)];omega
  ·intro h;refine⟨fun hb=>?_,fun a=>?_⟩
   ·have h1:=h b;have:=List.count_pos_iff.2 hb;rw [List.count_cons_self]at h1;omega
   ·have h1:=h a;rw [a0u]at h1;omega
def hd (p:AL) (n:Int):List Int:=match idx p.AH n with | some x=>if x.Op=4 then [x.N] else [] | none=>[]
theorem HN_hd {p:AL}:∀ (h:Nat) (q:Int × E),(HN p h q).map (·.1)=((LN p h q).map (·.1)).flatMap (hd p)
 | 0,q=>rfl
 | h+1,q=>by
  cases hx:idx p.AH q.1 with
  | none=>simp [HN,LN,hx,hd]
  | some x=>
   rw [iD hx,a0W,a0z,a0X,List.flatMap_assoc];have:HN p (h+1) q=(if x.Op=4 then [(x.N,q.1)] else [])++(cX p x q.2).flatMap (HN p h):=by simp only [HN,hx]
   rw [this,a0U,a0X];congr 1
   ·unfold hd;rw [hx];dsimp only;split <;> rfl
   ·congr 1;funext k;exact HN_hd h k
def fB (n:Nat):List Int:=(List.range n).map fun i:Nat=>(i:Int)
theorem vH {n:Nat} {a:Int}:a∈fB n ↔ 0<=a/\a<(n:Int):=by
 unfold fB
 rw [a1h]
 constructor
 ·rintro⟨i,hi,rfl⟩;have:=List.mem_range.1 hi;omega
 ·rintro⟨h1,h2⟩;exact⟨a.toNat,List.mem_range.2 (by omega),by omega⟩
theorem aAz (n:Nat):(fB n).Nodup:=by
 unfold fB
 rw [List.Nodup,List.pairwise_map]
 exact List.nodup_range.imp fun h e=>h (by omega)
theorem aCT {α β:Type} (f:α->List β):∀ (l:List α),(fB l.length).flatMap (fun i=>(idx l i).elim [] f)=l.flatMap f:=by
 intro l
 have key:∀ (AD AB:List α),(((List.range' AB.length AD.length).map fun i:Nat=>(i:Int)).flatMap (fun i=>(idx (AB++AD) i).elim [] f))=AD.flatMap f:=by
  intro AD;induction AD with
  | nil=>intro AB;rfl
  | cons e AD ih=>
   intro AB;have:=ih (AB++[e]);rw [a0L,a0S,<- eI AB AD e]at this;rw [a0M,List.range'_succ,a0W,a0z,a0z,this,cY];rfl
 have:=key l []
 rw [a0O,a1l]at this
 unfold fB
 rw [List.range_eq_range']
 exact this
theorem zT {α β:Type} {f g:α->List β}:∀ {l:List α},(∀ a∈l,f a=g a)->l.flatMap f=l.flatMap g
 | [],_=>rfl
 | a :: l,h=>by rw [a0z,a0z,h a (.head _),zT fun b hb=>h b (.tail _ hb)]
theorem aEp {α β:Type} (f g:α->List β):∀ l:List α,(l.flatMap fun x=>f x++g x).Perm (l.flatMap f++l.flatMap g)
 | []=> .nil
 | a :: l=>by
  rw [a0z,a0z,a0z];have ih:=aEp f g l;have h1:(f a++g a++(l.flatMap fun x=>f x++g x)).Perm (f a++g a++(l.flatMap f++l.flatMap g)):=ih.append_left _
  refine h1.trans ?_;rw [a0q,a0q];refine List.Perm.append_left _ ?_;rw [<- a0q,<- a0q];exact(List.perm_append_comm).append_right _
theorem aEE {p:AL} {s:VS} (h:eO p=some s):((bN p).Nodup/\∀ b∈bN p,0<=b/\b<(p.AH.length:Int))/\((LN p p.AH.length (cD p)).map (·.1)).Perm (fB p.AH.length)/\((HN p p.AH.length (cD p)).map (·.1)).Perm (fB p.AE.length)/\(p.AG :: RT p p.AH.length (cD p)).Perm (bN p):=by
 obtain⟨H,hH,_,_,_,hT,_,hn,hd1,_,hc,hcd⟩:=aAr h
 subst hH
 have hmem:∀ b∈LN p p.AH.length (cD p),0<=b.1/\b.1<(p.AH.length:Int):=by
  have go:∀ (h:Nat) (q:Int × E),Tr p h q->∀ b∈LN p h q,0<=b.1/\b.1<(p.AH.length:Int):=by
   intro h;induction h with
   | zero=>intro q hT;exact hT.elim
   | succ h ih=>
    rintro q ⟨x,hx,h0,_,hK⟩ b hb
    rw [iD hx]at hb;cases hb with
    | head=>exact nT hx
    | tail _ hb=>
     obtain⟨k,hk,hb⟩:=a1e.1 hb;exact ih k (hK k hk) b hb
  exact go p.AH.length _ hT
 have hall:((LN p p.AH.length (cD p)).map (·.1)).Perm (fB p.AH.length):=(a1q hn (aAz _)).2 fun a=>by
  rw [vH];constructor
  ·intro ha;obtain⟨b,hb,rfl⟩:=a1h.1 ha;exact hmem b hb
  ·rintro⟨h1,h2⟩;obtain⟨e,he⟩:=hc a h1 h2;exact a1h.2 ⟨_,he,rfl⟩
 have hhead:((HN p p.AH.length (cD p)).map (·.1)).Perm (fB p.AE.length):=(a1q hd1 (aAz _)).2 fun a=>by
  rw [vH];constructor
  ·intro ha;rw [HN_hd]at ha;obtain⟨n,hn,ha⟩:=a1e.1 ha;obtain⟨b,hb,rfl⟩:=a1h.1 hn;have go:∀ (h:Nat) (q:Int × E),Tr p h q->∀ b∈LN p h q,∀ a∈hd p b.1,0<=a/\a<(p.AE.length:Int):=by
    intro h;induction h with
    | zero=>intro q hT;exact hT.elim
    | succ h ih=>
     rintro q ⟨x,hx,h0,hok,hK⟩ b hb a ha
     rw [iD hx]at hb;cases hb with
     | head=>
      unfold hd at ha;rw [hx]at ha;dsimp only at ha
      split at ha
      ·rename_i h4;rw [a1k.1 ha];obtain⟨_,_,d,hd,_⟩:=ok_def hok h4;exact nT hd
      ·cases ha
     | tail _ hb=>
      obtain⟨k,hk,hb⟩:=a1e.1 hb;exact ih k (hK k hk) b hb a ha
   exact go p.AH.length _ hT b hb a ha
  ·rintro⟨h1,h2⟩;obtain⟨e,he⟩:=hcd a h1 h2;exact a1h.2 ⟨_,he,rfl⟩
 have hgo:∀ (h:Nat) (q:Int × E),Tr p h q->∀ b∈LN p h q,rcq p b.1=(hd p b.1).flatMap (bgAt p)++goAt p b.1:=by
  intro h;induction h with
  | zero=>intro q hT;exact hT.elim
  | succ h ih=>
   rintro q ⟨x,hx,h0,hok,hK⟩ b hb
   rw [iD hx]at hb;cases hb with
   | head=>
    unfold rcq hd goAt;rw [hx];dsimp only [Option.elim];unfold rcX goN;by_cases h4:x.Op=4
    ·rw [a1V h4,a1V h4,a1U (by omega)];simp
    ·rw [a1U h4,a1U h4];by_cases h6:x.Op=6\/x.Op=8
     ·rw [a1V h6,a1V h6];have:x.AW.length=1:=by rcases hok with g | g | g | g | g <;> omega
      exact(lW this).2
     ·rw [a1U h6,a1U h6];rfl
   | tail _ hb=>
    obtain⟨k,hk,hb⟩:=a1e.1 hb;exact ih k (hK k hk) b hb
 have hRT:(RT p p.AH.length (cD p)).Perm (p.AE.flatMap fW++p.AH.flatMap goN):=by
  have e1:RT p p.AH.length (cD p)=((LN p p.AH.length (cD p)).map (·.1)).flatMap fun n=>(hd p n).flatMap (bgAt p)++goAt p n:=by
   unfold RT;refine zT fun n hn=>?_
   obtain⟨b,hb,rfl⟩:=a1h.1 hn;exact hgo p.AH.length _ hT b hb
  rw [e1];refine(aEp _ _ _).trans (List.Perm.append ?_ ?_)
  ·rw [<- List.flatMap_assoc,<- HN_hd];have:=hhead.flatMap_right (bgAt p);refine this.trans ?_;rw [<- aCT fW p.AE];exact .refl _
  ·refine(hall.flatMap_right _).trans ?_;rw [<- aCT goN p.AH];exact .refl _
 have hP:(p.AG :: RT p p.AH.length (cD p)).Perm (bN p):=hRT.cons _
 have hcnt:∀ a,(bN p).count a<=((LN p p.AH.length (cD p)).map (·.1)).count a:=fun a=>by
  rw [<- hP.count_eq a];exact aCL a p.AH.length (cD p) hT
 refine⟨⟨aGl.2 fun a=>a1B (hcnt a) (aGl.1 hn a),fun b hb=>?_⟩,hall,hhead,hP⟩
 have h1:=List.count_pos_iff.2 hb
 have h2:=hcnt b
 have h3:=List.count_pos_iff.1 (show 0<((LN p p.AH.length (cD p)).map (·.1)).count b by omega)
 obtain⟨c,hc,rfl⟩:=a1h.1 h3
 exact hmem c hc
theorem roots_ok {p:AL} {s:VS} (h:eO p=some s):(bN p).Nodup/\∀ b∈bN p,0<=b/\b<(p.AH.length:Int):=(aEE h).1
open Go.SX Go.SW Go.Dt
theorem Tr.up {p:AL}:∀ {h:Nat} {q:Int × E},Tr p h q->Tr p (h+1) q
 | 0,q,hT=>hT.elim
 | h+1,q,⟨x,hx,h0,hok,hK⟩=>⟨x,hx,h0,hok,fun k hk=>Tr.up (hK k hk)⟩
theorem Ta.up {p:AL}:∀ {h:Nat} {q:Int × E},Ta p h q->Ta p (h+1) q
 | 0,q,hT=>hT.elim
 | h+1,q,⟨x,hx,hok,hK⟩=>⟨x,hx,hok,fun k hk=>Ta.up (hK k hk)⟩
theorem LN_up {p:AL}:∀ {h:Nat} {q:Int × E},Tr p h q->LN p (h+1) q=LN p h q
 | 0,q,hT=>hT.elim
 | h+1,q,⟨x,hx,h0,hok,hK⟩=>by
  rw [iD (h:=h+1) hx,iD (h:=h) hx,zT fun k hk=>LN_up (hK k hk)]
theorem below {p:AL}:∀ (h:Nat) (q:Int × E),Tr p h q->Ta p h q->∀ b∈LN p h q,Tr p h b/\Ta p h b/\(∀ c∈LN p h b,c∈LN p h q)/\(LN p h b).length<=(LN p h q).length
 | 0,q,hT,_,_,_=>hT.elim
 | h+1,q,hT,hA,b,hb=>by
  have hT':=hT;have hA':=hA
  obtain⟨x,hx,h0,hok,hK⟩:=hT;obtain⟨x',hx',_,hKA⟩:=hA;have exx:x'=x:=by rw [hx]at hx';exact(a1L hx').symm
  subst exx;rw [iD hx]at hb;cases hb with
  | head=>exact⟨hT',hA',fun c hc=>hc,a1A _⟩
  | tail _ hb=>
   obtain⟨k,hk,hb⟩:=a1e.1 hb;obtain⟨a1,a2,a3,a4⟩:=below h k (hK k hk) (hKA k hk) b hb;refine⟨a1.up,a2.up,fun c hc=>?_,?_⟩
   ·rw [LN_up a1]at hc;rw [iD hx];exact .tail _ (a1e.2 ⟨k,hk,a3 c hc⟩)
   ·rw [LN_up a1,iD hx];obtain⟨u,v,huv⟩:=List.append_of_mem hk;rw [a0M,huv,a0y,a0z,a0L,a0L];omega
theorem aDZ {p:AL} {h:Nat} {q:Int × E} (hT:Tr p h q):∃ x,idx p.AH q.1=some x/\okT p x q.2.length:=by
 cases h with
 | zero=>exact hT.elim
 | succ h=>obtain⟨x,hx,_,hok,_⟩:=hT;exact⟨x,hx,hok⟩
structure Fd (p:AL) (sz:List Int) (H:Nat):Prop where
 sm:SmP p
 h60:H<=60
 nl:p.AH.length=H
 dl:p.AE.length<=12
 fl:p.AF.length<=12
 node:∀ n:Int,0<=n->n<p.AH.length->∃ e:E,Tr p H (n,e)/\Ta p H (n,e)/\oP p sz H (n,e) (cG p H n e.length)/\idx sz n=some (e.length:Int)/\(LN p H (n,e)).length<=60
 nd:(bN p).Nodup
 rg:∀ b∈bN p,0<=b/\b<(p.AH.length:Int)
 ok:∀ d∈p.AE,cR d=true
 kd:∀ x∈p.AH,(x.Op=6\/x.Op=8)->x.AW.length=1
theorem chk_fd {p:AL} {s:VS} (hp:SmP p) (h:eO p=some s):∃ H,Fd p s.sz H:=by
 have hta:=chk_ta h
 obtain⟨hr1,hr2⟩:=roots_ok h
 have hdefs:=aDS h
 obtain⟨H,hH,h60,hdl,hfl,hT,_,hn,_,hsz,hc,_⟩:=aAr h
 rw [hH]at hta
 have hlen:(LN p H (cD p)).length<=60:=by
  have hsub:∀ a∈(LN p H (cD p)).map (·.1),a∈fB p.AH.length:=fun a ha=>by
   obtain⟨b,hb,rfl⟩:=a1h.1 ha;obtain⟨x,hx,_⟩:=aDZ (below H _ hT hta b hb).1;rw [vH];exact nT hx
  have hp:((LN p H (cD p)).map (·.1)).Perm (fB p.AH.length):=(a1q hn (aAz _)).2 fun a=>⟨hsub a,fun ha=>by
   rw [vH]at ha;obtain⟨e,he⟩:=hc a ha.1 ha.2;exact a1h.2 ⟨_,he,rfl⟩⟩
  have:=hp.length_eq;unfold fB at this;simp only [a0N,a0P]at this;omega
 have hnode:∀ n:Int,0<=n->n<p.AH.length->∃ e:E,Tr p H (n,e)/\Ta p H (n,e)/\oP p s.sz H (n,e) (cG p H n e.length)/\idx s.sz n=some (e.length:Int)/\(LN p H (n,e)).length<=60:=fun n h0 h1=>by
  obtain⟨e,he⟩:=hc n h0 h1;obtain⟨a1,a2,a3,a4⟩:=below H _ hT hta (n,e) he;exact⟨e,a1,a2,aHc H (n,e) a1 a2 (fun b hb=>hsz b (a3 b hb)) (by omega),hsz _ he,by omega⟩
 refine⟨H,hp,h60,hH,hdl,hfl,hnode,hr1,hr2,hdefs,fun x hx h6=>?_⟩
 obtain⟨n,hn⟩:=a1g.1 hx
 have hnl:=(a0F.1 hn).1
 obtain⟨e,hT,_⟩:=hnode n (by omega) (by omega)
 obtain⟨x',hx',hok⟩:=aDZ hT
 have:idx p.AH (n:Int)=some x:=vJ hn
 rw [this]at hx'
 cases hx'
 rcases hok with g | g | g | g | g <;> omega
theorem pr2 {d:AN} (AD:List Al):∀ (AB:List Al) (k:Nat) (acc:List Int),d.AO=AB++AD->AD.length<k->AB.length+AD.length<=3000000->acc.length+AD.length<=4000000->rM d k acc (AB.length:Int)=some (acc++AD.map (·.AU)):=by
 induction AD with
 | nil=>
  intro AB k acc h hk _ _;obtain _ | k:=k
  ·omega
  rw [rM,h,a1U (by simp)];simp
 | cons e AD ih=>
  intro AB k acc h hk hB hl;obtain _ | k:=k
  ·omega
  simp only [a0M]at hk hB hl;rw [rM,a1V (by rw [h];exact dB _ _ _)];refine b1q (by rw [h];exact cY _ _ _) ?_
  refine b1q (mG (by simp;omega)) ?_
  refine b1q (bK (by omega)) ?_
  rw [cN AB e,ih (AB++[e]) k _ (by rw [h];simp) (by omega) (by simp;omega) (by simp;omega)];simp
theorem pr3 {d:AN} (AD:List As):∀ (AB:List As) (k:Nat) (acc:List Int),d.AP=AB++AD->AD.length<k->AB.length+AD.length<=3000000->acc.length+AD.length<=4000000->qK d k acc (AB.length:Int)=some (acc++AD.map (·.AU)):=by
 induction AD with
 | nil=>
  intro AB k acc h hk _ _;obtain _ | k:=k
  ·omega
  rw [qK,h,a1U (by simp)];simp
 | cons e AD ih=>
  intro AB k acc h hk hB hl;obtain _ | k:=k
  ·omega
  simp only [a0M]at hk hB hl;rw [qK,a1V (by rw [h];exact dB _ _ _)];refine b1q (by rw [h];exact cY _ _ _) ?_
  refine b1q (mG (by simp;omega)) ?_
  refine b1q (bK (by omega)) ?_
  rw [cN AB e,ih (AB++[e]) k _ (by rw [h];simp) (by omega) (by simp;omega) (by simp;omega)];simp
theorem aDq {d:AN} (h:cR d=true):(fW d).length<=60/\d.AO.length<=30/\d.AP.length<=30:=by
 have:=pL h
 unfold fW
 rw [a0L,a0N,a0N];omega
theorem pr1 {AA:Nat} {p:AL} (hf:1000<=AA) (AD:List AN):∀ (AB:List AN) (k:Nat) (acc:List Int),p.AE=AB++AD->AD.length<k->AB.length+AD.length<=3000->acc.length+60*AD.length<=3000000->(∀ d∈AD,cR d=true)->rA AA p k acc (AB.length:Int)=some (acc++AD.flatMap fW):=by
 induction AD with
 | nil=>
  intro AB k acc h hk _ _ _;obtain _ | k:=k
  ·omega
  rw [rA,h,a1U (by simp)];simp
 | cons e AD ih=>
  intro AB k acc h hk hB hl ho;obtain _ | k:=k
  ·omega
  simp only [a0M]at hk hB hl;obtain⟨d0,d1,d2⟩:=aDq (ho e (.head _));have e2:=pr2 (d:=e) e.AO [] AA acc rfl (by omega) (by simp;omega) (by omega)
  have e3:=pr3 (d:=e) e.AP [] AA (acc++e.AO.map (·.AU)) rfl (by omega) (by simp;omega) (by simp;omega)
  simp only [a0O,a0n]at e2 e3;rw [rA,a1V (by rw [h];exact dB _ _ _)];refine b1q (z:=acc++fW e) ?_ ?_
  ·refine b1q (by rw [h];exact cY _ _ _) ?_
   refine b1q e2 ?_;rw [e3];simp [fW]
  refine b1q (bK (by omega)) ?_
  rw [cN AB e,ih (AB++[e]) k _ (by rw [h];simp) (by omega) (by simp;omega) (by rw [a0L];omega) (fun d hd=>ho d (.tail _ hd))];simp
theorem pr4 {p:AL} (AD:List Af):∀ (AB:List Af) (k:Nat) (acc:List Int),p.AH=AB++AD->AD.length<k->AB.length+AD.length<=3000->acc.length+AD.length<=3000000->(∀ x∈AD,(x.Op=6\/x.Op=8)->x.AW.length=1)->qF p k acc (AB.length:Int)=some (acc++AD.flatMap goN):=by
 induction AD with
 | nil=>
  intro AB k acc h hk _ _ _;obtain _ | k:=k
  ·omega
  rw [qF,h,a1U (by simp)];simp
 | cons e AD ih=>
  intro AB k acc h hk hB hl ho;obtain _ | k:=k
  ·omega
  simp only [a0M]at hk hB hl;have hg:(goN e).length<=1:=by unfold goN;split <;> simp
  rw [qF,a1V (by rw [h];exact dB _ _ _)];refine b1q (z:=acc++goN e) ?_ ?_
  ·refine b1q (by rw [h];exact cY _ _ _) ?_
   unfold goN;by_cases h6:e.Op=6
   ·have:=(lW (ho e (.head _) (.inl h6))).1;rw [a1V h6,a1V (.inl h6)];refine b1q this ?_;exact b1q (mG (by simp;omega)) rfl
   rw [a1U h6];by_cases h8:e.Op=8
   ·have:=(lW (ho e (.head _) (.inr h8))).1;rw [a1V h8,a1V (.inr h8)];refine b1q this ?_;exact b1q (mG (by simp;omega)) rfl
   rw [a1U h8,a1U (by omega),a0r]
  refine b1q (bK (by omega)) ?_
  rw [cN AB e,ih (AB++[e]) k _ (by rw [h];simp) (by omega) (by simp;omega) (by rw [a0L];omega) (fun d hd=>ho d (.tail _ hd))];simp
theorem kT {α β:Type} {f:α->List β} {n:Nat}:∀ {l:List α},(∀ a∈l,(f a).length<=n)->(l.flatMap f).length<=n*l.length
 | [],_=>by simp
 | a :: l,h=>by
  have h1:=h a (.head _);have h2:=kT fun b hb=>h b (.tail _ hb)
  rw [a0z,a0L,a0M,Nat.mul_add];omega
theorem aKn {p:AL} {sz:List Int} {H AA:Nat} (h:Fd p sz H) (hf:3000000<=AA):wG AA p=some (bI (bN p)):=by
 have h1:=h.nl;have h2:=h.h60;have h3:=h.dl
 have hl:=kT (f:=fW) (n:=60) fun d hd=>(aDq (h.ok d hd)).1
 have e1:=pr1 (AA:=AA) (p:=p) (by omega) p.AE [] AA [p.AG] rfl (by omega) (by simp;omega) (by simp;omega) h.ok
 have e4:=pr4 (p:=p) p.AH [] AA ([p.AG]++p.AE.flatMap fW) rfl (by omega) (by simp;omega) (by rw [a0L,a0S];omega) h.kd
 simp only [a0O,a0n]at e1 e4
 rw [wG]
 refine b1q e1 ?_
 refine b1q e4 ?_
 refine b1q rfl ?_
 simp [bN]
def setB (u:List Bool) (l:List Int):List Bool:=l.foldl (fun u j=>u.set j.toNat true) u
open Go.SX Go.SW Go.Dt
def dF (p:AL) (H:Nat) (sz:List Int) (n:Int):List AI:=(cG p H n ((idx sz n).getD 0)).1++[⟨16,0,0⟩]
def dM (bk:Int->List AI):List AI->List Int->List AI
 | c,[]=>c
 | c,n :: l=>dM bk (bh c (bk n)) l
def stM (bk:Int->List AI):aE Int Int->List AI->List Int->aE Int Int
 | g,_,[]=>g
 | g,c,n :: l=>stM bk (aE.upd g n c.length) (bh c (bk n)) l
theorem blk_ok {p:AL} {sz:List Int} {H:Nat} (h:Fd p sz H) {n:Int} (h0:0<=n/\n<(p.AH.length:Int)):∃ q c,q.1=n/\oP p sz H q c/\dF p H sz n=c.1++[⟨16,0,0⟩]/\c.1.length<=15000/\(LN p H q).length<=60:=by
 obtain⟨e,_,_,hn,hz,hl⟩:=h.node n h0.1 h0.2
 refine⟨(n,e),_,rfl,hn,?_,?_,hl⟩
 ·grind [dF]
 ·have:=hn.len;omega
theorem end_no:∀ i∈[(⟨16,0,0⟩:AI)],i.Op≠9/\i.Op≠10:=yD (by omega)
theorem pc1 {p:AL} {sz:List Int} {H AA:Nat} (h:Fd p sz H) (hf:3900000<=AA) {rts:List Int} (AD:List Int):∀ (AB:List Int) (k:Nat) (c:List AI) (g:aE Int Int),rts=AB++AD->AD.length<k->AB.length+AD.length<=3000->c.length+15001*AD.length<=100000000->(∀ b∈AD,0<=b/\b<(p.AH.length:Int)) ->
 sP AA rts k (AB.length:Int) c p.AF p.AH p.AE p.AG sz g=some (dM (dF p H sz) c AD,p.AF,p.AH,p.AE,p.AG,sz,stM (dF p H sz) g c AD):=by
 have h60:=h.h60
 induction AD with
 | nil=>
  intro AB k c g hr hk _ _ _;obtain _ | k:=k
  ·omega
  rw [sP,hr,a1U (by simp)];rfl
 | cons n AD ih=>
  intro AB k c g hr hk hB hc hn;obtain _ | k:=k
  ·omega
  simp only [a0M]at hk hB hc;obtain⟨q,r,rfl,hok,hb,hl,_⟩:=blk_ok h (hn n (.head _));rw [sP,a1V (by rw [hr];exact dB _ _ _)];refine b1q (by rw [hr];exact cY _ _ _) ?_
  refine b1q (hok.prog AA ⟨⟨c⟩,p,sz,aE.upd g q.1 c.length⟩ (by omega) rfl rfl (by dsimp only;omega)) ?_
  refine b1q (kM (x:=wc ⟨⟨c⟩,p,sz,aE.upd g q.1 c.length⟩ (c++sh c.length r.1)) (by show(c++sh c.length r.1).length<=_;rw [a0L,kX];omega)) ?_
  refine b1q (bK (by omega)) ?_
  have e1:c++sh c.length r.1++[(⟨16,0,0⟩:AI)]=bh c (dF p H sz q.1):=by rw [hb,bh,tU,sU end_no,a0q]
  rw [cN AB q.1,dM,stM,<- e1];have:=ih (AB++[q.1]) k (c++sh c.length r.1++[⟨16,0,0⟩]) (aE.upd g q.1 c.length) (by rw [hr];simp) (by omega) (by simp;omega) (by rw [a0L,a0L,kX,a0S];omega) (fun b hb=>hn b (.tail _ hb))
  exact this
def pat (v:Int->Int) (i:AI):AI:=if i.Op=13\/i.Op=15 then{ i with B:=v i.B } else i
theorem on_eqq (a:Int):oM a=some (decide (a=13\/a=15)):=by
 grind [oM]
theorem pc2 {x1:List AI} {g:aE Int Int} (AD:List AI):∀ (AB:List AI) (k:Nat),x1.length=AB.length+AD.length->AD.length<k->AB.length+AD.length<=1000000000 ->
 rL x1 g k (AB.length:Int) (AB.map (pat fun b=>(g.get b).getD 0)++AD)=some ((AB++AD).map (pat fun b=>(g.get b).getD 0)):=by
 induction AD with
 | nil=>
  intro AB k h hk _;obtain _ | k:=k
  ·omega
  grind [rL]
 | cons e AD ih=>
  intro AB k h hk hB;obtain _ | k:=k
  ·omega
  simp only [a0M]at h hk hB;have hix:idx (AB.map (pat fun b=>(g.get b).getD 0)++e :: AD) (AB.length:Int)=some e:=by
   grind [idx]
  rw [rL,a1V (by omega)];refine b1q (z:=(AB++[e]).map (pat fun b=>(g.get b).getD 0)++AD) ?_ ?_
  ·refine b1q hix ?_;refine b1q (on_eqq _) ?_;by_cases o:e.Op=13\/e.Op=15
   ·rw [a1S o,a1Q];refine b1q hix ?_;refine b1q hix ?_;rw [a0o];have:=aBE (AB.map (pat fun b=>(g.get b).getD 0)) AD e ({ e with B:=(g.get e.B).getD 0 })
    rw [a0N]at this
    grind [pat]
   ·rw [a1R o,a1P,a0U,a0W,a0Z,a0q]
    grind [pat]
  refine b1q (bK (by omega)) ?_
  rw [cN AB e,ih (AB++[e]) k (by simp;omega) (by omega) (by simp;omega),a0q];rfl
def OnB (p:AL) (l:List AI):Prop:=∀ i∈l,i.Op=13\/i.Op=15->i.B∈bN p
theorem aH0 {bk:Int->List AI} {B:Nat}:∀ (l:List Int) (c:List AI),(∀ n∈l,(bk n).length<=B)->(dM bk c l).length<=c.length+B*l.length
 | [],c,_=>by simp [dM]
 | n :: l,c,h=>by
  have h1:=aH0 l (bh c (bk n)) fun b hb=>h b (.tail _ hb)
  grind [dM,Nat.mul_add,gN]
def ptS (v:Int->Int) (s:As):As:=⟨s.In,v s.AU⟩
def ptR (v:Int->Int) (r:Al):Al:=⟨r.At,r.AZ,v r.AU⟩
def ptD (v:Int->Int) (d:AN):AN:=⟨d.AQ,d.AP.map (ptS v),d.AO.map (ptR v)⟩
theorem pc4 {g:aE Int Int} {d:AN} (AD:List As):∀ (AB:List As) (k:Nat),d.AP=AB++AD->AD.length<k->AB.length+AD.length<=3000000->sW g d k (AB.length:Int) (AB.map (ptS fun b=>(g.get b).getD 0))=some (d.AP.map (ptS fun b=>(g.get b).getD 0)):=by
 induction AD with
 | nil=>
  intro AB k h hk _;obtain _ | k:=k
  ·omega
  grind [sW]
 | cons e AD ih=>
  intro AB k h hk hB;obtain _ | k:=k
  ·omega
  simp only [a0M]at hk hB;rw [sW,a1V (by grind)];refine b1q (by rw [h];exact cY _ _ _) ?_
  refine b1q (mG (by simp;omega)) ?_
  refine b1q (bK (by omega)) ?_
  have:=ih (AB++[e]) k (by rw [h];simp) (by omega) (by simp;omega)
  rw [a0U]at this;rw [cN AB e];exact this
theorem clI_eq {l:List Int} (h:l.length<=1000000000):nQ l=some l:=by
 rw [nQ,a1l,mG h,aC]
theorem clC_eq {l:List Ar} (h:l.length<=1000000000):vW l=some l:=by
 rw [vW,a1l,mG h,aC]
theorem pc5 {g:aE Int Int} {d:AN} (AD:List Al):∀ (AB:List Al) (k:Nat),d.AO=AB++AD->(∀ r∈AD,r.AZ.length<=2000000)->AD.length<k->AB.length+AD.length<=3000000->sV g d k (AB.length:Int) (AB.map (ptR fun b=>(g.get b).getD 0))=some (d.AO.map (ptR fun b=>(g.get b).getD 0)):=by
 induction AD with
 | nil=>
  intro AB k h _ hk _;obtain _ | k:=k
  ·omega
  grind [sV]
 | cons e AD ih=>
  intro AB k h hj hk hB;obtain _ | k:=k
  ·omega
  simp only [a0M]at hk hB;rw [sV,a1V (by grind)];refine b1q (by rw [h];exact cY _ _ _) ?_
  refine b1q (clI_eq (by have:=hj e (.head _);omega)) ?_
  refine b1q (mG (by simp;omega)) ?_
  refine b1q (bK (by omega)) ?_
  have:=ih (AB++[e]) k (by rw [h];simp) (fun r hr=>hj r (.tail _ hr)) (by omega) (by simp;omega)
  rw [a0U]at this;rw [cN AB e];exact this
theorem pc3 {AA:Nat} {p:AL} {g:aE Int Int} (hf:3000000<AA) (AD:List AN):∀ (AB:List AN) (k:Nat),p.AE=AB++AD->(∀ d∈AD,smDq d)->AD.length<k->AB.length+AD.length<=3000000->tD AA p g k (AB.length:Int) (AB.map (ptD fun b=>(g.get b).getD 0))=some (p.AE.map (ptD fun b=>(g.get b).getD 0)):=by
 induction AD with
 | nil=>
  intro AB k h _ hk _;obtain _ | k:=k
  ·omega
  grind [tD]
 | cons e AD ih=>
  intro AB k h hs hk hB;obtain _ | k:=k
  ·omega
  simp only [a0M]at hk hB;obtain⟨s1,s2,s3,s4⟩:=hs e (.head _);have e4:=pc4 (g:=g) (d:=e) e.AP [] AA rfl (by omega) (by simp;omega)
  have e5:=pc5 (g:=g) (d:=e) e.AO [] AA rfl s4 (by omega) (by simp;omega)
  simp only [a0O,a0n,a0Z]at e4 e5;rw [tD,a1V (by grind)];refine b1q (z:=(AB++[e]).map (ptD fun b=>(g.get b).getD 0)) ?_ ?_
  ·refine b1q (by rw [h];exact cY _ _ _) ?_
   refine b1q (clC_eq (by omega)) ?_
   refine b1q e4 ?_;refine b1q e5 ?_;refine b1q (mG (by simp;omega)) ?_
   rw [a0U];rfl
  refine b1q (bK (by omega)) ?_
  rw [cN AB e];exact ih (AB++[e]) k (by rw [h];simp) (fun d hd=>hs d (.tail _ hd)) (by omega) (by simp;omega)
def codeG (p:AL) (G:aE Int Int) (L:List AI):AC:=⟨p.AF.length,p.AE.map (ptD fun b=>(G.get b).getD 0),L.map (pat fun b=>(G.get b).getD 0),(G.get p.AG).getD 0⟩
def cJ (p:AL) (sz:List Int) (H:Nat):AC:=codeG p (stM (dF p H sz) aE.none [] (bI (bN p))) (dM (dF p H sz) [] (bI (bN p)))
theorem aCk:∀ {l m:List Int},l.Nodup->(∀ x∈l,x∈m)->l.length<=m.length
 | [],m,_,_=>a1F _
 | a :: l,m,hn,hs=>by
  have hp:=List.perm_cons_erase (hs a (.head _));have hn2:=a1n.1 hn;have:=aCk (l:=l) (m:=m.erase a) hn2.2 (by grind)
  grind
theorem psz_none {p:AL} (hp:SmP p) (h:eO p=none):sQ F p=some ([],2):=by
 rw [sQ,zG,xP,show(⟨p.AF,p.AH,p.AE,p.AG⟩:AL)=p from rfl,aHd hp,aC,h];rfl
open Go.SX Go.SW Go.Dt
theorem code_sm {p:AL} {sz:List Int} {H:Nat} (hp:SmP p):∀ d∈(cJ p sz H).AE,smDq d:=fun d hd=>by
 obtain⟨e,he,rfl⟩:=a1h.1 hd
 obtain⟨s1,s2,s3,s4⟩:=hp.AX e he
 refine⟨s1,by unfold ptD;simp;omega,by unfold ptD;simp;omega,fun r hr=>?_⟩
 obtain⟨q,hq,rfl⟩:=a1h.1 hr
 exact s4 q hq
open Go.SX Go.SW Go.Dt
def tot {α:Type} (f:α->Nat):List α->Nat
 | []=>0
 | a :: l=>f a+tot f l
theorem jJ {α:Type} (f:α->Nat):∀ l m:List α,tot f (l++m)=tot f l+tot f m
 | [],m=>by simp [tot]
 | a :: l,m=>by rw [a0s,tot,tot,jJ f l m];omega
theorem qQ {α β:Type} (f:β->Nat) (g:α->List β):∀ l:List α,tot f (l.flatMap g)=tot (fun a=>tot f (g a)) l
 | []=>rfl
 | a :: l=>by rw [a0z,jJ,qQ f g l];rfl
theorem qO {α β:Type} (f:β->Nat) (g:α->β):∀ l:List α,tot f (l.map g)=tot (fun a=>f (g a)) l
 | []=>rfl
 | a :: l=>by rw [a0W,tot,tot,qO f g l]
theorem gF {α:Type} {f g:α->Nat}:∀ {l:List α},(∀ a∈l,f a=g a)->tot f l=tot g l
 | [],_=>rfl
 | a :: l,h=>by rw [tot,tot,h a (.head _),gF fun b hb=>h b (.tail _ hb)]
theorem uU {α:Type} (f g:α->Nat):∀ l:List α,tot (fun a=>f a+g a) l=tot f l+tot g l
 | []=>rfl
 | a :: l=>by rw [tot,tot,tot,uU f g l];omega
theorem aBN {α:Type} (f:α->Nat) {l m:List α} (h:l.Perm m):tot f l=tot f m:=by
 induction h with
 | nil=>rfl
 | cons a _ ih=>rw [tot,tot,ih]
 | swap a b l=>simp only [tot];omega
 | trans _ _ ih1 ih2=>rw [ih1,ih2]
theorem vA {α:Type} (c:Nat):∀ l:List α,tot (fun _=>c) l=c*l.length
 | []=>rfl
 | a :: l=>by rw [tot,vA c l,a0M,Nat.mul_add];omega
theorem aDh {α:Type} {f:α->Nat} {l:List α} (h:∀ a∈l,f a=0):tot f l=0:=by
 rw [gF (g:=fun _=>0) h,vA];omega
theorem aCA {α:Type} {f g:α->Nat}:∀ {l:List α},(∀ a∈l,f a<=g a)->tot f l<=tot g l
 | [],_=>a1A _
 | a :: l,h=>by have:=h a (.head _);have:=aCA fun b hb=>h b (.tail _ hb);simp only [tot];omega
theorem aKl {α:Type} (f:α->Nat) (l:List α):tot (fun i:Int=>(idx l i).elim 0 f) (fB l.length)=tot f l:=by
 have:=aCT (fun a=>[f a]) l
 have h2:=qQ (fun n:Nat=>n) (fun i=>(idx l i).elim [] fun a=>[f a]) (fB l.length)
 rw [this,qQ]at h2
 have e1:tot (fun a=>tot (fun n:Nat=>n) [f a]) l=tot f l:=gF fun a _=>by simp [tot]
 rw [e1]at h2
 rw [h2]
 refine gF fun i _=>?_
 cases idx l i <;> simp [tot]
structure Msr (μ:AI->Nat):Prop where
 sh:∀ i a,(i.Op=9\/i.Op=10)->μ ⟨i.Op,a,i.B⟩=μ i
 ex:∀ i,(1<=i.Op/\i.Op<=7)\/i.Op=12->μ i=0
theorem Msr.tsh {μ:AI->Nat} (h:Msr μ) (n:Int) (l:List AI):tot μ (Go.Proofs.YtjahnkcjbglnoaaGreatDoor.sh n l)=tot μ l:=by
 unfold Go.Proofs.YtjahnkcjbglnoaaGreatDoor.sh
 rw [qO]
 refine gF fun i _=>?_
 by_cases q:i.Op=9\/i.Op=10
 ·rw [a1V q];exact h.sh i _ q
 ·rw [a1U q]
theorem Msr.tbh {μ:AI->Nat} (h:Msr μ) (a b:List AI):tot μ (bh a b)=tot μ a+tot μ b:=by rw [bh,jJ,h.tsh]
theorem Msr.tcut {μ:AI->Nat} (h:Msr μ) (c:List AI × Bool) (z:Int):tot μ (dJ c z)=tot μ c.1:=by
 unfold dJ
 split
 ·rw [jJ];have:μ ⟨12,z,0⟩=0:=h.ex _ (.inr rfl);simp [tot,this]
 ·rfl
theorem Msr.texp {μ:AI->Nat} (h:Msr μ) {s:Int} {e:Ah} (he:fE s e=true):tot μ (bX e)=0:=aDh fun i hi=>h.ex i (.inl (tL (nE e) s e (a1A _) he i hi))
def ow (μ:AI->Nat) (x:Af):Nat:=
 if x.Op=2 then μ ⟨8,x.N,x.Ag.length⟩ else if x.Op=4 then μ ⟨11,x.N,0⟩ else if x.Op=5 then μ ⟨9,0,0⟩+μ ⟨10,0,0⟩ else if x.Op=6 then μ ⟨13,x.N,kid x 0⟩ else if x.Op=8 then μ ⟨15,x.N,kid x 0⟩ else if x.Op=7 then μ ⟨14,0,0⟩ else 0
def cq (p:AL) (h:Nat) (q:Int × E):List AI:=(cG p h q.1 q.2.length).1
theorem aG0 {p:AL} {x:Af} {z:Int} (hT:okT p x z) (h4:x.Op=4):x.AW.length=1/\∃ d,idx p.AE x.N=some d/\cR d=true:=by
 obtain⟨_,h1,h2⟩:=ok_def hT h4;exact⟨h1,h2⟩
inductive Lay (p:AL) (h:Nat) (x:Af) (e:E):List AI × Bool->Prop
 | send:x.Op=2->eY p x e=[]->Lay p h x e (x.Ag.flatMap bX++[⟨8,x.N,x.Ag.length⟩],false)
 | par:x.Op=3->eY p x e=[(kid x 0,e),(kid x 1,e)]->Lay p h x e (bh (dJ (cG p h (kid x 0) e.length) e.length) (cG p h (kid x 1) e.length).1,(cG p h (kid x 1) e.length).2)
 | def_ {d:AN}:x.Op=4->idx p.AE x.N=some d->cR d=true->eY p x e=[(kid x 0,inE e x.N d)]->Lay p h x e (bh [⟨11,x.N,0⟩] (cG p h (kid x 0) (inE e x.N d).length).1,true)
 | if_ {a:Ah}:x.Op=5->x.Ag=[a]->okE e.length a=true->eY p x e=[(kid x 0,e),(kid x 1,e)]->Lay p h x e (ifC (bX a) (dJ (cG p h (kid x 0) e.length) e.length) (dJ (cG p h (kid x 1) e.length) e.length),false)
 | go:x.Op=6->eY p x e=[]->x.AW=[kid x 0]->Lay p h x e ([⟨13,x.N,kid x 0⟩],false)
 | watch:x.Op=8->eY p x e=[]->x.AW=[kid x 0]->Lay p h x e ([⟨15,x.N,kid x 0⟩],false)
 | stop:x.Op=7->eY p x e=[]->Lay p h x e ([⟨14,0,0⟩],false)
 | nil:x.Op=1->eY p x e=[]->Lay p h x e ([],false)
theorem aCz {p:AL} {h:Nat} {n:Int} {e:E} {x:Af} (hx:idx p.AH n=some x) (hT:okT p x e.length) (hA:okA x e.length):Lay p h x e (cG p (h+1) n e.length):=by
 have hi:x.Op≠4->¬ (x.Op=6\/x.Op=8)->eY p x e=x.AW.map fun k=>(k,e):=fun a b=>by unfold eY;rw [a1U a,a1U b]
 rw [cG]
 try dsimp only
 rw [hx]
 dsimp only
 by_cases o2:x.Op=2
 ·rw [a1V o2];have hk:x.AW=[]:=a0w (by rcases hT with g | g | g | g | g <;> omega)
  exact .send o2 (by rw [hi (by omega) (by omega),hk];rfl)
 rw [a1U o2]
 by_cases o3:x.Op=3
 ·rw [a1V o3];obtain⟨_,_,kk⟩:=uP (x:=x) (by rcases hT with g | g | g | g | g <;> omega)
  exact .par o3 (by rw [hi (by omega) (by omega),kk];simp [kid])
 rw [a1U o3]
 by_cases o4:x.Op=4
 ·rw [a1V o4];obtain⟨hk,d,hd,hdo⟩:=aG0 hT o4;obtain⟨_,kk⟩:=lW hk;have ez:((inE e x.N d).length:Int)=e.length+ownN p x.N:=by rw [sI,ownN,hd]
  rw [<- ez];exact .def_ o4 hd hdo (by unfold eY;rw [a1V o4,hd];dsimp only;rw [kk];simp [kid])
 rw [a1U o4]
 by_cases o5:x.Op=5
 ·rw [a1V o5];obtain⟨_,_,kk⟩:=uP (x:=x) (by rcases hT with g | g | g | g | g <;> omega)
  obtain⟨a,ha⟩:∃ a,x.Ag=[a]:=by
   have:=hA.2.1 o5;match x.Ag,this with
   | [a],_=>exact⟨a,rfl⟩
  have hall:=hA.1;rw [ha]at hall;simp only [List.all_cons,List.all_nil,Bool.and_true]at hall;have harg:arg0 x=bX a:=by rw [arg0,ha]
  rw [harg];exact .if_ o5 ha hall (by rw [hi (by omega) (by omega),kk];simp [kid])
 rw [a1U o5]
 by_cases o6:x.Op=6
 ·rw [a1V o6];obtain⟨_,kk⟩:=lW (x:=x) (by rcases hT with g | g | g | g | g <;> omega)
  exact .go o6 (by unfold eY;rw [a1U (by omega),a1V (.inl o6)]) kk
 rw [a1U o6]
 by_cases o8:x.Op=8
 ·rw [a1V o8];obtain⟨_,kk⟩:=lW (x:=x) (by rcases hT with g | g | g | g | g <;> omega)
  exact .watch o8 (by unfold eY;rw [a1U (by omega),a1V (.inr o8)]) kk
 rw [a1U o8]
 by_cases o7:x.Op=7
 ·rw [a1V o7];have hk:x.AW=[]:=a0w (by rcases hT with g | g | g | g | g <;> omega)
  exact .stop o7 (by rw [hi (by omega) (by omega),hk];rfl)
 rw [a1U o7]
 have o1:x.Op=1:=by rcases hT with g | g | g | g | g <;> omega
 have hk:x.AW=[]:=a0w (by rcases hT with g | g | g | g | g <;> omega)
 exact .nil o1 (by rw [hi (by omega) (by omega),hk];rfl)
theorem node_tot {p:AL} {μ:AI->Nat} (hμ:Msr μ) {h:Nat} {x:Af} {e:E} {L:List AI × Bool} (hA:okA x e.length) (hL:Lay p h x e L):tot μ L.1=ow μ x+tot (fun k=>tot μ (cq p h k)) (eY p x e):=by
 have nd:∀ a,μ ⟨9,a,0⟩=μ ⟨9,0,0⟩:=fun a=>hμ.sh ⟨9,0,0⟩ a (.inl rfl)
 have nt:∀ a,μ ⟨10,a,0⟩=μ ⟨10,0,0⟩:=fun a=>hμ.sh ⟨10,0,0⟩ a (.inr rfl)
 cases hL with
 | send o hi=>
  rw [hi,jJ,qQ,aDh fun a ha=>hμ.texp (nI (a0p.1 hA.1 a ha)).1,ow,a1V o];simp [tot]
 | par o hi=>
  rw [hi,hμ.tbh,hμ.tcut,ow,a1U (by omega),a1U (by omega),a1U (by omega),a1U (by omega),a1U (by omega),a1U (by omega)];simp [tot,cq]
 | def_ o hd ho hi=>
  rw [hi,hμ.tbh,ow,a1U (by omega),a1V o];simp [tot,cq]
 | if_ o ha hall hi=>
  rw [hi,ow,a1U (by omega),a1U (by omega),a1V o,ifC,hμ.tbh,jJ,hμ.tbh,jJ,hμ.tcut,hμ.tcut,hμ.texp (nI hall).1];simp only [tot,cq];rw [nd (_+_+_),nt (_+_+_+_)];omega
 | go o hi=>rw [hi,ow,a1U (by omega),a1U (by omega),a1U (by omega),a1V o];simp [tot]
 | watch o hi=>rw [hi,ow,a1U (by omega),a1U (by omega),a1U (by omega),a1U (by omega),a1V o];simp [tot]
 | stop o hi=>rw [hi,ow,a1U (by omega),a1U (by omega),a1U (by omega),a1U (by omega),a1U (by omega),a1V o];simp [tot]
 | nil o hi=>rw [hi,ow,a1U (by omega),a1U (by omega),a1U (by omega),a1U (by omega),a1U (by omega),a1U (by omega)];simp [tot]
theorem isub_mem {p:AL} {x:Af} {e:E}:∀ k∈eY p x e,k∈cX p x e:=fun k hk=>by rw [rN];exact a1c _ hk
theorem kR {p:AL} {x:Af} {e:E}:∀ k∈dR p x e,k∈cX p x e:=fun k hk=>by rw [rN];exact a1b _ hk
theorem cq_up {p:AL}:∀ {h:Nat} {q:Int × E},Tr p h q->Ta p h q->cG p (h+1) q.1 q.2.length=cG p h q.1 q.2.length
 | 0,q,hT,_=>hT.elim
 | h+1,⟨n,e⟩,⟨x,hx,h0,hT,hK⟩,⟨x',hx',hA,hKA⟩=>by
  dsimp only at hx hT hx' hA hK hKA
  have exx:x'=x:=by rw [hx]at hx';exact(a1L hx').symm
  subst exx;have IH:∀ k∈cX p x' e,cG p (h+1) k.1 k.2.length=cG p h k.1 k.2.length:=fun k hk=>cq_up (hK k hk) (hKA k hk)
  have hns:x'.Op≠4->cX p x' e=x'.AW.map fun k=>(k,e):=fun g=>by rw [cX,a1U g]
  dsimp only
  rw [cG,cG]
  try dsimp only
  rw [hx]
  try dsimp only
  by_cases o2:x'.Op=2
  ·rw [a1V o2,a1V o2]
  rw [a1U o2,a1U o2];by_cases o3:x'.Op=3
  ·rw [a1V o3,a1V o3];obtain⟨_,_,kk⟩:=uP (x:=x') (by rcases hT with g | g | g | g | g <;> omega)
   have hsb:cX p x' e=[(kid x' 0,e),(kid x' 1,e)]:=by rw [hns (by omega),kk];simp [kid]
   rw [hsb]at IH;have i0:=IH _ (.head _);have i1:=IH _ (.tail _ (.head _));dsimp only at i0 i1
   rw [i0,i1]
  rw [a1U o3,a1U o3];by_cases o4:x'.Op=4
  ·rw [a1V o4,a1V o4];obtain⟨hk,d,hd,hdo⟩:=aG0 hT o4;obtain⟨_,kk⟩:=lW hk;have hmem:(kid x' 0,inE e x'.N d)∈cX p x' e:=by
    rw [cX,a1V o4,hd];exact a1c _ (a1c _ (a1h.2 ⟨kid x' 0,by rw [kk];simp [kid],rfl⟩))
   have i0:=IH _ hmem;have ez:((inE e x'.N d).length:Int)=e.length+ownN p x'.N:=by rw [sI,ownN,hd]
   dsimp only at i0
   rw [ez]at i0;rw [i0]
  rw [a1U o4,a1U o4];by_cases o5:x'.Op=5
  ·rw [a1V o5,a1V o5];obtain⟨_,_,kk⟩:=uP (x:=x') (by rcases hT with g | g | g | g | g <;> omega)
   have hsb:cX p x' e=[(kid x' 0,e),(kid x' 1,e)]:=by rw [hns (by omega),kk];simp [kid]
   rw [hsb]at IH;have i0:=IH _ (.head _);have i1:=IH _ (.tail _ (.head _));dsimp only at i0 i1
   rw [i0,i1]
  rw [a1U o5,a1U o5]
def RTe (p:AL):Nat->Int × E->List (Int × E)
 | 0,_=>[]
 | h+1,q=>match idx p.AH q.1 with
  | some x=>dR p x q.2++(cX p x q.2).flatMap (RTe p h)
  | none=>[]
theorem pS {p:AL} {h:Nat} {q:Int × E} {x:Af} (hx:idx p.AH q.1=some x):RTe p (h+1) q=dR p x q.2++(cX p x q.2).flatMap (RTe p h):=by simp only [RTe,hx]
theorem aEI {p:AL}:∀ (h:Nat) (q:Int × E),(RTe p h q).map (·.1)=RT p h q
 | 0,q=>rfl
 | h+1,q=>by
  cases hx:idx p.AH q.1 with
  | none=>simp [RTe,RT,LN,hx,rcq]
  | some x=>
   rw [pS hx,aGh hx,a0U,aHu,a0X];congr 2;funext k;exact aEI h k
theorem vU {p:AL}:∀ (h:Nat) (q:Int × E),Tr p h q->Ta p h q->∀ r∈RTe p h q,Tr p h r/\Ta p h r/\r∈LN p h q
 | 0,q,hT,_,_,_=>hT.elim
 | h+1,q,⟨x,hx,h0,hT,hK⟩,⟨x',hx',hA,hKA⟩,r,hr=>by
  have exx:x'=x:=by rw [hx]at hx';exact(a1L hx').symm
  subst exx;rw [pS hx]at hr;have self:∀ (h:Nat) (k:Int × E),Tr p h k->k∈LN p h k:=fun h k hT=>by
   cases h with
   | zero=>exact hT.elim
   | succ h=>obtain⟨y,hy,_⟩:=hT;rw [iD hy];exact .head _
  rw [iD hx];rcases a1a.1 hr with hr | hr
  ·have hm:=kR r hr;exact⟨(hK r hm).up,(hKA r hm).up, .tail _ (a1e.2 ⟨r,hm,self h r (hK r hm)⟩)⟩
  ·obtain⟨k,hk,hr⟩:=a1e.1 hr;obtain⟨a,b,c⟩:=vU h k (hK k hk) (hKA k hk) r hr;exact⟨a.up,b.up, .tail _ (a1e.2 ⟨k,hk,c⟩)⟩
theorem aEi {p:AL} {μ:AI->Nat} (hμ:Msr μ):∀ (h:Nat) (q:Int × E),Tr p h q->Ta p h q->tot (fun k:Int × E=>(idx p.AH k.1).elim 0 (ow μ)) (LN p h q)=tot μ (cq p h q)+tot (fun r=>tot μ (cq p h r)) (RTe p h q)
 | 0,q,hT,_=>hT.elim
 | h+1,⟨n,e⟩,hT0,hA0=>by
  obtain⟨x,hx,h0,hT,hK⟩:=hT0;obtain⟨x',hx',hA,hKA⟩:=hA0;dsimp only at hx hT hx' hA hK hKA
  have exx:x'=x:=by rw [hx]at hx';exact(a1L hx').symm
  subst exx;have hup:∀ r,Tr p h r->Ta p h r->cq p (h+1) r=cq p h r:=fun r a b=>by unfold cq;rw [cq_up a b]
  rw [iD (q:=(n,e)) hx,pS (q:=(n,e)) hx,show tot μ (cq p (h+1) (n,e))=_ from node_tot hμ hA (aCz hx hT hA),tot,qQ,jJ,qQ];dsimp only
  rw [hx];have e1:tot (fun k=>tot (fun k:Int × E=>(idx p.AH k.1).elim 0 (ow μ)) (LN p h k)) (cX p x' e)=tot (fun k=>tot μ (cq p h k)+tot (fun r=>tot μ (cq p h r)) (RTe p h k)) (cX p x' e):=gF fun k hk=>aEi hμ h k (hK k hk) (hKA k hk)
  have e2:tot (fun r=>tot μ (cq p (h+1) r)) (dR p x' e)=tot (fun r=>tot μ (cq p h r)) (dR p x' e):=gF fun r hr=>by rw [hup r (hK r (kR r hr)) (hKA r (kR r hr))]
  have e3:tot (fun k=>tot (fun r=>tot μ (cq p (h+1) r)) (RTe p h k)) (cX p x' e)=tot (fun k=>tot (fun r=>tot μ (cq p h r)) (RTe p h k)) (cX p x' e):=gF fun k hk=>gF fun r hr=>by
   obtain⟨a,b,_⟩:=vU h k (hK k hk) (hKA k hk) r hr;rw [hup r a b]
  rw [e1,e2,e3,uU];rw [rN,jJ];simp only [Option.elim];omega
open Go.SX Go.SW Go.Dt
abbrev Rq (c:AC):Int->AM->Prop:=R (scP c) c.AG ⟨0,c.AF⟩
def In (c:AC) (X:Int->AM->Prop) (lv:Nat->AM) (i hi:Nat):Prop:=
 ∃ n s,c.Code[i]? =some n/\n.Op≠16/\(okI c.AE.length c.Code.length i n/\inI c.Code.length n)/\scI c i n (lv i)=some s/\∀ p∈s,(∃ j:Nat,p.1=(j:Int)/\i<j/\j<=hi/\p.2=lv j)\/X p.1 p.2
structure Sg (c:AC) (X:Int->AM->Prop) (lv:Nat->AM) (k hi:Nat):Prop where
 le:k<=hi
 ins:∀ i,k<=i->i<hi->In c X lv i hi
 rch:Rq c k (lv k)->∀ i:Nat,k<=i->i<=hi->Rq c i (lv i)
def Ex (c:AC) (X:Int->AM->Prop) (k hi:Nat) (l l':AM):Prop:=∃ lv,Sg c X lv k hi/\lv k=l/\lv hi=l'
theorem In.congr {c:AC} {X:Int->AM->Prop} {lv lv':Nat->AM} {i hi hi':Nat} (h:In c X lv i hi) (h0:i<hi) (hh:hi<=hi') (e:∀ j,i<=j->j<=hi->lv' j=lv j):In c X lv' i hi':=by
 obtain⟨n,s,h1,h2,h3,h4,h5⟩:=h
 refine⟨n,s,h1,h2,h3,by rw [e i (a1A _) (by omega)];exact h4,fun p hp=>?_⟩
 rcases h5 p hp with⟨j,a,b,d,f⟩ | h
 ·exact .inl ⟨j,a,b,by omega,by rw [e j (by omega) d];exact f⟩
 ·exact .inr h
theorem Ex.nil {c:AC} {X:Int->AM->Prop} {k:Nat} {l:AM}:Ex c X k k l l:=by
 refine⟨fun _=>l,⟨a1A _,fun i a b=>by omega,fun q i a b=>?_⟩,rfl,rfl⟩
 have h:i=k:=by omega
 rw [h];exact q
theorem Ex.trans {c:AC} {X:Int->AM->Prop} {k m hi:Nat} {l l1 l2:AM} (h1:Ex c X k m l l1) (h2:Ex c X m hi l1 l2):Ex c X k hi l l2:=by
 obtain⟨f,s1,a1,b1⟩:=h1
 obtain⟨g,s2,a2,b2⟩:=h2
 have e1:∀ i,i<=m->(if i<=m then f i else g i)=f i:=fun i h=>a1V h
 have e2:∀ i,m<=i->(if i<=m then f i else g i)=g i:=fun i h=>by
  by_cases q:i=m
  ·subst q;rw [a1V (a1A _),a2,b1]
  ·exact a1U (by omega)
 have l1:=s1.le;have l2:=s2.le
 refine⟨fun i=>if i<=m then f i else g i,⟨by omega,fun i hk hh=>?_,fun q i hk hh=>?_⟩,(e1 k l1).trans a1,(e2 hi l2).trans b2⟩
 ·by_cases h:i<m
  ·exact(s1.ins i hk h).congr h l2 fun j _ hj=>e1 j hj
  ·exact(s2.ins i (by omega) hh).congr hh (a1A _) fun j hj _=>e2 j (by omega)
 ·try dsimp only at q ⊢
  rw [e1 k l1]at q;by_cases h:i<=m
  ·rw [e1 i h];exact s1.rch q i hk h
  ·rw [e2 i (by omega)];refine s2.rch ?_ i (by omega) hh
   rw [a2,<- b1];exact s1.rch q m l1 (a1A _)
theorem Ex.q {c:AC} {X:Int->AM->Prop} {k hi:Nat} {l l':AM} (h:Ex c X k hi l l') (q:Rq c k l):Rq c hi l':=by
 obtain⟨f,s,a,b⟩:=h
 rw [<- b];exact s.rch (by rw [a];exact q) hi s.le (a1A _)
theorem Rq.go {c:AC} {k:Nat} {n:AI} {l:AM} {s:List (Int × AM)} (q:Rq c k l) (hc:c.Code[k]? =some n) (hs:scI c k n l=some s):∀ p∈s,Rq c p.1 p.2:=fun p hp=>by
 have h:=aDy (m:=(k:Int)) (by rw [a0o];exact hc) l
 rw [a0o]at h
 exact R.step q (h.trans hs) hp
theorem Ex.one {c:AC} {X:Int->AM->Prop} {k:Nat} {n:AI} {l l':AM} {xs:List (Int × AM)} (hc:c.Code[k]? =some n) (ho:n.Op≠16) (hok:okI c.AE.length c.Code.length k n/\inI c.Code.length n) (hs:scI c k n l=some (xs++[((k:Int)+1,l')])) (hx:∀ p∈xs,X p.1 p.2):Ex c X k (k+1) l l':=by
 have e0:(if k=k then l else l')=l:=a1V rfl
 have e1:(if k+1=k then l else l')=l':=a1U (by omega)
 refine⟨fun i=>if i=k then l else l',⟨by omega,fun i hk hh=>?_,fun q i hk hh=>?_⟩,e0,e1⟩
 ·have:i=k:=by omega
  subst this;refine⟨n,_,hc,ho,hok,by dsimp only;rw [e0];exact hs,fun p hp=>?_⟩
  rcases a1a.1 hp with hp | hp
  ·exact .inr (hx p hp)
  ·rw [a1k.1 hp];exact .inl ⟨i+1,by simp,by omega,a1A _,e1.symm⟩
 ·try dsimp only at q ⊢
  rw [e0]at q;by_cases h:i=k
  ·rw [a1V h,h];exact q
  ·rw [a1U h];have:i=k+1:=by omega
   subst this;exact Rq.go q hc hs _ (a1c _ (.head _))
theorem Ex.if_ {c:AC} {X:Int->AM->Prop} {k k1 k2 k3:Nat} {l:AM} {z:Int} (he:Ex c X k k1 l ⟨1,z⟩) (h9:c.Code[k1]? =some ⟨9,(k2:Int)+1,0⟩) (ha:Ex c X (k1+1) k2 ⟨0,z⟩ ⟨0,z⟩) (h10:c.Code[k2]? =some ⟨10,k3,0⟩) (hb:Ex c X (k2+1) k3 ⟨0,z⟩ ⟨0,z⟩) (hl:k3<c.Code.length):Ex c X k k3 l ⟨0,z⟩/\(Rq c k l->Rq c ((k1+1:Nat):Int) ⟨0,z⟩/\Rq c ((k2+1:Nat):Int) ⟨0,z⟩):=by
 have heq:=he.q
 obtain⟨f,s1,a1,b1⟩:=he
 obtain⟨g,s2,a2,b2⟩:=ha
 obtain⟨w,s3,a3,b3⟩:=hb
 have l1:=s1.le;have l2:=s2.le;have l3:=s3.le
 have e1:∀ i,i<=k1->(if i<=k1 then f i else if i<=k2 then g i else w i)=f i:=fun i h=>a1V h
 have e2:∀ i,k1<i->i<=k2->(if i<=k1 then f i else if i<=k2 then g i else w i)=g i:=fun i h h'=>by rw [a1U (by omega),a1V h']
 have e3:∀ i,k2<i->(if i<=k1 then f i else if i<=k2 then g i else w i)=w i:=fun i h=>by rw [a1U (by omega),a1U (by omega)]
 have ne1:qM c.Code k1 ⟨9,(k2:Int)+1,0⟩:=fun _ j h1 h2 m hm=>by
  dsimp only at h2
  by_cases q1:j=k1
  ·subst q1;rw [h9]at hm;cases hm;simp
  by_cases q2:j=k2
  ·subst q2;rw [h10]at hm;cases hm;simp
  obtain⟨n,_,c1,c2,_⟩:=s2.ins j (by omega) (by omega)
  rw [c1]at hm;cases hm;exact c2
 have ne2:qM c.Code k2 ⟨10,k3,0⟩:=fun _ j h1 h2 m hm=>by
  dsimp only at h2
  by_cases q2:j=k2
  ·subst q2;rw [h10]at hm;cases hm;simp
  obtain⟨n,_,c1,c2,_⟩:=s3.ins j (by omega) (by omega)
  rw [c1]at hm;cases hm;exact c2
 have t9:scI c k1 ⟨9,(k2:Int)+1,0⟩ ⟨1,z⟩=some [((k2:Int)+1,⟨0,z⟩),((k1:Int)+1,⟨0,z⟩)]:=by
  unfold scI;dsimp only
  rw [a1U (by omega),a1U (by omega),a1U (by omega),a1U (by omega),a1V rfl,a1V ⟨by omega,ne1⟩];rfl
 have t10:scI c k2 ⟨10,k3,0⟩ ⟨0,z⟩=some [((k3:Int),⟨0,z⟩)]:=by
  unfold scI;dsimp only
  rw [a1U (by omega),a1U (by omega),a1U (by omega),a1U (by omega),a1U (by omega),a1V rfl,a1V ne2]
 refine⟨⟨fun i=>if i<=k1 then f i else if i<=k2 then g i else w i,⟨by omega,fun i hk hh=>?_,fun q i hk hh=>?_⟩,(e1 k l1).trans a1,(e3 k3 (by omega)).trans b3⟩,fun q=>⟨by have:=Rq.go (heq q) h9 t9 _ (.tail _ (.head _));simpa using this,by have:=Rq.go (heq q) h9 t9 _ (.head _);simpa using this⟩⟩
 ·by_cases i1:i<k1
  ·exact(s1.ins i hk i1).congr i1 (by omega) fun j _ hj=>e1 j hj
  by_cases i2:i=k1
  ·subst i2;refine⟨_,_,h9,by simp,⟨⟨by simp, .inl (by simp [many]), .inr rfl,by simp,by simp,fun _=>⟨by dsimp only;omega,by dsimp only;omega⟩,by simp,fun _=>⟨by dsimp only;omega,by simp⟩⟩,fun h=>by dsimp only at h;omega⟩,by dsimp only;rw [e1 i (a1A _),b1];exact t9,fun p hp=> .inl ?_⟩
   rcases a1d.1 hp with rfl | hp
   ·exact⟨k2+1,by simp,by omega,by omega,by dsimp only;rw [e3 _ (by omega),a3]⟩
   ·rw [a1k.1 hp];exact⟨i+1,by simp,by omega,by omega,by dsimp only;rw [e2 _ (by omega) (by omega),a2]⟩
  by_cases i3:i<k2
  ·exact(s2.ins i (by omega) i3).congr i3 (by omega) fun j h1 hj=>e2 j (by omega) hj
  by_cases i4:i=k2
  ·subst i4;refine⟨_,_,h10,by simp,⟨⟨by simp, .inl (by simp [many]), .inr rfl,by simp,by simp,fun _=>⟨by dsimp only;omega,by dsimp only;omega⟩,by simp,fun _=>⟨by dsimp only;omega,by simp⟩⟩,fun h=>by dsimp only at h;omega⟩,by dsimp only;rw [e2 i (by omega) (a1A _),b2];exact t10,fun p hp=> .inl ?_⟩
   rw [a1k.1 hp];exact⟨k3,rfl,by omega,by omega,by dsimp only;rw [e3 _ (by omega),b3]⟩
  exact(s3.ins i (by omega) hh).congr hh (a1A _) fun j h1 _=>e3 j (by omega)
 ·try dsimp only at q ⊢
  rw [e1 k l1]at q;have q1:=s1.rch q k1 l1 (a1A _);rw [b1]at q1;have q2:=Rq.go q1 h9 t9;by_cases i1:i<=k1
  ·rw [e1 i i1];exact s1.rch q i hk i1
  by_cases i2:i<=k2
  ·rw [e2 i (by omega) i2];exact s2.rch (by rw [a2];have:=q2 _ (.tail _ (.head _));simpa using this) i (by omega) i2
  rw [e3 i (by omega)];exact s3.rch (by rw [a3];have:=q2 _ (.head _);simpa using this) i (by omega) hh
def Pc (c:AC) (k:Nat) (l:List AI):Prop:=∀ (j:Nat) i,l[j]? =some i->c.Code[k+j]? =some i
theorem Pc.left {c:AC} {k:Nat} {a b:List AI} (h:Pc c k (a++b)):Pc c k a:=fun j i hi=>h j i (by rw [a0A (a0F.1 hi).1];exact hi)
theorem Pc.right {c:AC} {k:Nat} {a b:List AI} (h:Pc c k (a++b)):Pc c (k+a.length) b:=fun j i hi=>by
 have:=h (a.length+j) i (by rw [a0B (by omega),Nat.add_sub_cancel_left];exact hi)
 rwa [<- a1u]at this
theorem Pc.head {c:AC} {k:Nat} {i:AI} {l:List AI} (h:Pc c k (i :: l)):c.Code[k]? =some i:=h 0 i rfl
theorem aBw {c:AC} {X:Int->AM->Prop} {z:Int}:∀ (n:Nat) (e:Ah) (s:Int) (k:Nat),nE e<=n->fE z e=true->0<=s->Pc c k (bX e)->Ex c X k (k+(bX e).length) ⟨s,z⟩ ⟨s+1,z⟩
 | 0,e,_,_,h,_,_,_=>by have:=pC e;omega
 | n+1,⟨op,m,ks⟩,s,k,hn,hf,hs,hP=>by
  simp only [bX]at hP ⊢;by_cases h1:op=1
  ·rw [a1V h1]at hP ⊢;subst h1;simp only [fE,loc,a0g]at hf;have hf:=hf.1;rw [a1V trivial,a1T]at hf;refine Ex.one (xs:=[]) hP.head (by simp) ⟨⟨by simp, .inl (by simp [many]), .inr rfl,fun _=>⟨hf.1,hf.2.1⟩,by simp,by simp,by simp,by simp⟩,by simp [inI]⟩ ?_ (fun p hp=>by cases hp)
   unfold scI;rw [a1V rfl];rfl
  rw [a1U h1]at hP ⊢;by_cases h2:op=2
  ·rw [a1V h2]at hP ⊢;subst h2;simp only [fE,loc,a0g]at hf;have hf:=hf.1;rw [a1U (by omega),a1V trivial,a1T]at hf;refine Ex.one (xs:=[]) hP.head (by simp) ⟨⟨by simp, .inl (by simp [many]), .inr rfl,by simp,by simp,by simp,by simp,fun _=>⟨hf.1,by simp⟩⟩,by simp [inI]⟩ ?_ (fun p hp=>by cases hp)
   unfold scI;rw [a1U (by simp),a1V rfl,a1V hf.2.1];rfl
  rw [a1U h2]at hP ⊢;obtain⟨q1,q2,a,b,rfl,fa,fb⟩:=aAo hf h1 h2;simp only [nE,nL]at hn;simp only [uW,a0r]at hP ⊢;have e1:=aBw (X:=X) n a s k (by omega) fa hs hP.left.left
  have e2:=aBw (X:=X) n b (s+1) (k+(bX a).length) (by omega) fb (by omega) hP.left.right
  have e3:Ex c X (k+(bX a++bX b).length) (k+(bX a++bX b).length+1) ⟨s+1+1,z⟩ ⟨s+1,z⟩:=by
   have o3:3<=op/\op<=7:=⟨q1,q2⟩;refine Ex.one (xs:=[]) hP.right.head (by dsimp only;omega) ⟨⟨by dsimp only;omega, .inr rfl, .inr rfl,fun h=>by dsimp only at h;omega,fun h=>by dsimp only at h;omega,fun h=>by dsimp only at h;omega,fun h=>by dsimp only at h;omega,fun _=>⟨by simp,by simp⟩⟩,fun h=>by dsimp only at h;omega⟩ ?_ (fun p hp=>by cases hp)
   unfold scI;dsimp only
   rw [a1U h1,a1U h2,a1V o3,a1V (by omega),show s+1+1 - 1=s+1 by omega];rfl
  have:=(e1.trans e2);rw [a1u,<- a0L]at this;have:=this.trans e3;have hlen:(bX a++bX b++[(⟨op,0,0⟩:AI)]).length=(bX a++bX b).length+1:=by rw [a0L,a0S]
  rw [hlen,<- a1u];exact this
theorem aGC {c:AC} {X:Int->AM->Prop} {z:Int}:∀ (l:List Ah) (s:Int) (k:Nat),(∀ e∈l,fE z e=true)->0<=s->Pc c k (l.flatMap bX)->Ex c X k (k+(l.flatMap bX).length) ⟨s,z⟩ ⟨s+l.length,z⟩
 | [],s,k,_,_,_=>by
  have:s+(([]:List Ah).length:Int)=s:=by simp
  rw [this];exact Ex.nil
 | a :: l,s,k,hf,hs,hP=>by
  rw [a0z]at hP ⊢;have e1:=aBw (X:=X) (nE a) a s k (a1A _) (hf a (.head _)) hs hP.left;have e2:=aGC (X:=X) l (s+1) (k+(bX a).length) (fun e he=>hf e (.tail _ he)) (by omega) hP.right
  have:=e1.trans e2;rw [a1u,<- a0L,show s+1+(l.length:Int)=s+((a :: l).length:Int) by rw [a0M];omega]at this
  exact this
def sh1 (n:Int) (i:AI):AI:=if i.Op=9\/i.Op=10 then⟨i.Op,i.A+n,i.B⟩ else i
theorem sh1_sh1 (n m:Int) (i:AI):sh1 n (sh1 m i)=sh1 (m+n) i:=by
 unfold sh1
 by_cases h:i.Op=9\/i.Op=10
 ·rw [a1V h,a1V h,a1V h];simp only [AI.mk.injEq,true_and,and_true];omega
 ·rw [a1U h,a1U h,a1U h]
theorem sh_get {n:Int} {l:List AI} {j:Nat}:(Go.Proofs.YtjahnkcjbglnoaaGreatDoor.sh n l)[j]? =(l[j]?).map (sh1 n):=by unfold Go.Proofs.YtjahnkcjbglnoaaGreatDoor.sh;rw [a0G];rfl
def At (L:List AI) (k:Nat) (l:List AI):Prop:=∀ (j:Nat) i,l[j]? =some i->L[k+j]? =some (sh1 k i)
theorem At.left {L:List AI} {k:Nat} {a b:List AI} (h:At L k (a++b)):At L k a:=fun j i hi=>h j i (by rw [a0A (a0F.1 hi).1];exact hi)
theorem At.right {L:List AI} {k:Nat} {a b:List AI} (h:At L k (bh a b)):At L (k+a.length) b:=fun j i hi=>by
 have:=h (a.length+j) (sh1 a.length i) (by rw [bh,a0B (by omega),Nat.add_sub_cancel_left,sh_get,hi];rfl)
 rw [sh1_sh1,<- a1u]at this
 rw [this,Int.natCast_add,Int.add_comm]
theorem At.last {L:List AI} {k:Nat} {a:List AI} {i:AI} (h:At L k (a++[i])):L[k+a.length]? =some (sh1 k i):=h a.length i (by rw [a0B (a1A _),Nat.sub_self];rfl)
structure Cx (p:AL) (v:Int->Int) (L:List AI) (c:AC):Prop where
 code:c.Code=L.map (pat v)
 Aa:c.AE=p.AE.map (ptD v)
theorem Cx.get {p:AL} {v:Int->Int} {L:List AI} {c:AC} (h:Cx p v L c) {k:Nat} {i:AI} (hi:L[k]? =some i):c.Code[k]? =some (pat v i):=by rw [h.code,a0G,hi];rfl
theorem Cx.no {p:AL} {v:Int->Int} {L:List AI} {c:AC} (h:Cx p v L c) {k:Nat} {i:AI} (hi:L[k]? =some i) (ho:¬ (i.Op=13\/i.Op=15)):c.Code[k]? =some i:=by rw [h.get hi,pat,a1U ho]
theorem Cx.pc {p:AL} {v:Int->Int} {L:List AI} {c:AC} (h:Cx p v L c) {k:Nat} {l:List AI} (hA:At L k l) (ho:∀ i∈l,i.Op<=8):Pc c k l:=fun j i hi=>by
 have hm:=ho i (a1j hi)
 have:=hA j i hi
 rw [sh1,a1U (by omega)]at this
 exact h.no this (by omega)
theorem Cx.def_ {p:AL} {v:Int->Int} {L:List AI} {c:AC} (h:Cx p v L c) {m:Int} {d:AN} (hd:idx p.AE m=some d):c.AE[m.toNat]? =some (ptD v d)/\0<=m/\m<(c.AE.length:Int):=by
 have hl:=nT hd
 rw [h.Aa,a0G,Go.SW.idx_get hd,a0N]
 exact⟨rfl,hl⟩
open Go.SX Go.SW Go.Dt
theorem RTe_mem {p:AL} {h:Nat} {n:Int} {e:E} {x:Af} (hx:idx p.AH n=some x) {r:Int × E}:r∈RTe p (h+1) (n,e) ↔ r∈dR p x e\/(∃ k∈dR p x e,r∈RTe p h k)\/∃ k∈eY p x e,r∈RTe p h k:=by
 rw [pS (q:=(n,e)) hx,a1a,rN,a0y,a1a,a1e,a1e]
structure Nd (p:AL) (v:Int->Int) (c:AC) (X:Int->AM->Prop) (h:Nat) (q:Int × E) (k:Nat):Prop where
 ex:∃ z:Int,(q.2.length:Int)<=z/\((cG p h q.1 q.2.length).2=false->z=q.2.length)/\Ex c X k (k+(cq p h q).length) ⟨0,q.2.length⟩ ⟨0,z⟩
 rt:Rq c k ⟨0,q.2.length⟩->∀ r∈RTe p h q,Rq c (v r.1) ⟨0,r.2.length⟩
theorem aDc {p:AL} {v:Int->Int} {L:List AI} {c:AC} {X:Int->AM->Prop} {h k:Nat} {q:Int × E} (hC:Cx p v L c) (hN:Nd p v c X h q k) (hA:At L k (dJ (cG p h q.1 q.2.length) q.2.length)):Ex c X k (k+(dJ (cG p h q.1 q.2.length) q.2.length).length) ⟨0,q.2.length⟩ ⟨0,q.2.length⟩:=by
 obtain⟨z,z1,z2,z3⟩:=hN.ex
 unfold cq at z3
 generalize cG p h q.1 q.2.length=c0 at *
 unfold dJ at hA ⊢
 by_cases g:c0.2=true
 ·rw [a1V g]at hA ⊢;have e:c.Code[k+c0.1.length]? =some ⟨12,q.2.length,0⟩:=by
   have:=hC.no hA.last (by simp [sh1])
   simpa [sh1] using this
  rw [a0L,a0S,<- a1u];refine z3.trans (Ex.one (xs:=[]) e (by simp) ⟨⟨by simp, .inl (by simp [many]), .inr rfl,by simp,by simp,by simp,by simp,fun _=>⟨by simp,by simp⟩⟩,by simp [inI]⟩ ?_ (fun p hp=>by cases hp))
  unfold scI;dsimp only
  rw [a1U (by omega),a1U (by omega),a1U (by omega),a1U (by omega),a1U (by omega),a1U (by omega),a1U (by omega),a1V rfl,a1V z1];rfl
 ·rw [a1U g]at hA ⊢;have:z=q.2.length:=z2 (by simpa using g)
  rw [this]at z3;exact z3
theorem aEO {ch:List Ar}:∀ {l:List Int},(∀ c∈l,∃ y,idx ch c=some y)->brs ch l=iO ch l
 | [],_=>rfl
 | j :: l,h=>by
  obtain⟨y,hy⟩:=h j (.head _);rw [brs,iO,hy,Go.SW.idx_get hy,aEO fun c hc=>h c (.tail _ hc)]
theorem aGF {ch:List Ar} (h:∀ c∈ch,0<=c.Au):∀ l:List Int,0<=brs ch l
 | []=>by simp [brs]
 | j :: l=>by
  have:=aGF h l;rw [brs];cases hj:idx ch j with
  | none=>dsimp only;omega
  | some y=>have:=h y (kD hj);dsimp only;omega
theorem aEa {d:AN} (h:cR d=true):(d.AQ.length<=30/\d.AP.length<=30/\d.AO.length<=30)/\(∀ c∈d.AQ,fN d.AP.length c=true)/\iT 0 d.AP=true/\∃ u,gR d.AQ d.AP.length d.AO (List.replicate d.AQ.length false)=some u/\u.all id=true:=by
 unfold cR at h
 simp only [a0g,a1T]at h
 obtain⟨⟨⟨h1,h2⟩,h3⟩,h4⟩:=h
 refine⟨h1,fun c hc=>a0p.1 h2 c hc,h3,?_⟩
 unfold okU at h4
 split at h4
 ·rename_i u hu;exact⟨u,hu,h4⟩
 ·cases h4
theorem aD0 {d:AN} (h:cR d=true):∀ r∈d.AO,brs d.AQ r.AZ=iO d.AQ r.AZ/\0<=brs d.AQ r.AZ:=fun r hr=>by
 obtain⟨_,h2,_,u,h3,_⟩:=aEa h
 obtain⟨_,h4⟩:=aCf _ _ _ h3 r hr
 refine⟨aEO h4,aGF (fun c hc=>?_) _⟩
 have:=h2 c hc
 unfold fN at this
 simp only [a1T]at this
 exact this.2.2.1
theorem aF4 {e:E} {m:Int} {d:AN} {r:Al} (h:0<=brs d.AQ r.AZ):((ruE e m d r).length:Int)=(inE e m d).length+brs d.AQ r.AZ:=by
 unfold ruE;rw [a0L,a0Q];omega
theorem defS_mem {v:Int->Int} {e:E} {m:Int} {d:AN} (h:cR d=true) {z:Int} (hz:z=(inE e m d).length) (q:Int × AM):q∈defS (ptD v d) z ↔ ∃ r∈d.AO.map (fun r=>(r.AU,ruE e m d r))++d.AP.map (fun y=>(y.AU,inE e m d)),q=(v r.1,⟨0,r.2.length⟩):=by
 unfold defS ptD
 simp only [a0Y,a1a,a1h,Function.comp]
 constructor
 ·rintro(⟨s,hs,rfl⟩ | ⟨r,hr,rfl⟩)
  ·exact⟨_, .inr ⟨s,hs,rfl⟩,by rw [hz];rfl⟩
  ·obtain⟨b1,b2⟩:=aD0 h r hr;exact⟨_, .inl ⟨r,hr,rfl⟩,by rw [hz];dsimp only;rw [aF4 b2,b1];rfl⟩
 ·rintro⟨a,⟨r,hr,rfl⟩ | ⟨s,hs,rfl⟩,rfl⟩
  ·obtain⟨b1,b2⟩:=aD0 h r hr;exact .inr ⟨r,hr,by rw [hz];dsimp only;rw [aF4 b2,b1];rfl⟩
  ·exact .inl ⟨s,hs,by rw [hz];rfl⟩
theorem aF5 {p:AL} {v:Int->Int} {L:List AI} {c:AC} {X:Int->AM->Prop} (hC:Cx p v L c):∀ (h:Nat) (q:Int × E),Tr p h q->Ta p h q->(∀ r∈RTe p h q,X (v r.1) ⟨0,r.2.length⟩/\∀ g,Tr p g r->Ta p g r->∃ k:Nat,v r.1=(k:Int)/\At L k (cq p g r)/\k+(cq p g r).length<c.Code.length)->∀ k,At L k (cq p h q)->k+(cq p h q).length<c.Code.length->Nd p v c X h q k
 | 0,q,hT,_,_,_,_,_=>hT.elim
 | h+1,⟨n,e⟩,⟨x,hx,h0,hT,hK⟩,⟨x',hx',hA,hKA⟩,hr,k,hP,hl=>by
  dsimp only at hx hT hx' hA hK hKA
  have exx:x'=x:=by rw [hx]at hx';exact(a1L hx').symm
  subst exx;have hmem:=fun r=>RTe_mem (p:=p) (h:=h) (n:=n) (e:=e) hx (r:=r)
  have IH:∀ kd∈cX p x' e,∀ k,At L k (cq p h kd)->k+(cq p h kd).length<c.Code.length->Nd p v c X h kd k:=fun kd hk=>aF5 hC h kd (hK kd hk) (hKA kd hk) fun r hrr=>hr r ((hmem r).2 (by
   rw [rN]at hk;rcases a1a.1 hk with hk | hk
   ·exact .inr (.inl ⟨kd,hk,hrr⟩)
   ·exact .inr (.inr ⟨kd,hk,hrr⟩)))
  have II:∀ kd∈eY p x' e,∀ k,At L k (cq p h kd)->k+(cq p h kd).length<c.Code.length->Nd p v c X h kd k:=fun kd hk=>IH kd (isub_mem kd hk)
  have fin:(Rq c k ⟨0,e.length⟩->∀ r∈dR p x' e,Rq c (v r.1) ⟨0,r.2.length⟩)->(Rq c k ⟨0,e.length⟩->∀ kd∈eY p x' e,∀ r∈RTe p h kd,Rq c (v r.1) ⟨0,r.2.length⟩)->Rq c k ⟨0,e.length⟩->∀ r∈RTe p (h+1) (n,e),Rq c (v r.1) ⟨0,r.2.length⟩:=fun A B q r hrr=>by
   rcases(hmem r).1 hrr with g | ⟨kd,g,gr⟩ | ⟨kd,g,gr⟩
   ·exact A q r g
   ·obtain⟨k',e1,e2,e3⟩:=(hr kd ((hmem kd).2 (.inl g))).2 h (hK kd (kR kd g)) (hKA kd (kR kd g));have q':=A q kd g;rw [e1]at q';exact(IH kd (kR kd g) k' e2 e3).rt q' r gr
   ·exact B q kd g r gr
  have hX:∀ r∈dR p x' e,X (v r.1) ⟨0,r.2.length⟩:=fun r g=>(hr r ((hmem r).2 (.inl g))).1
  have hlay:=aCz (h:=h) (e:=e) hx hT hA;unfold cq at hP hl;have key:∀ {C:List AI × Bool},cG p (h+1) n e.length=C->(∃ z:Int,(e.length:Int)<=z/\(C.2=false->z=e.length)/\Ex c X k (k+C.1.length) ⟨0,e.length⟩ ⟨0,z⟩)->(Rq c k ⟨0,e.length⟩->∀ r∈dR p x' e,Rq c (v r.1) ⟨0,r.2.length⟩)->(Rq c k ⟨0,e.length⟩->∀ kd∈eY p x' e,∀ r∈RTe p h kd,Rq c (v r.1) ⟨0,r.2.length⟩)->Nd p v c X (h+1) (n,e) k:=fun {C} hC' a b d=>⟨by unfold cq;dsimp only;rw [hC'];exact a,fin b d⟩
  dsimp only at hP hl
  generalize hCC:cG p (h+1) n e.length=CC at hlay hP hl
  have hz0:(0:Int)<=e.length:=by omega
  have on:∀ op:Int,op=13\/op=15->x'.Op=6\/x'.Op=8->eY p x' e=[]->x'.AW=[kid x' 0]->CC=([⟨op,x'.N,kid x' 0⟩],false)->Nd p v c X (h+1) (n,e) k:=fun op ho ho2 hi kk hcc=>by
   subst hcc;have hrs:dR p x' e=[(kid x' 0,e)]:=by unfold dR;rw [a1U (by omega),a1V ho2,kk];rfl
   obtain⟨b1,b2⟩:=hA.2.2 ho2;have hm:(kid x' 0,e)∈dR p x' e:=by rw [hrs];exact .head _
   obtain⟨k',c1,_,c2⟩:=(hr _ ((hmem _).2 (.inl hm))).2 h (hK _ (kR _ hm)) (hKA _ (kR _ hm));dsimp only at c1
   have hcd:c.Code[k]? =some ⟨op,x'.N,(k':Int)⟩:=by
    have h1:=hP 0 _ rfl;have h2:sh1 (k:Int) ⟨op,x'.N,kid x' 0⟩=⟨op,x'.N,kid x' 0⟩:=a1U (by dsimp only;omega)
    rw [h2,a1w]at h1;rw [hC.get h1,pat,a1V ho,<- c1]
   have hsc:scI c k ⟨op,x'.N,(k':Int)⟩ ⟨0,e.length⟩=some ([((k':Int),⟨0,e.length⟩)]++[((k:Int)+1,⟨0,e.length⟩)]):=by
    unfold scI;dsimp only
    rw [a1U (by omega),a1U (by omega),a1U (by omega),a1U (by omega),a1U (by omega),a1U (by omega),a1U (by omega),a1U (by omega),a1V ho,a1V ⟨b2,rfl⟩];rfl
   have hmany:many op=2:=by unfold many;rw [a1V (by omega)]
   refine key hCC ⟨e.length,Int.le_refl _,fun _=>rfl,Ex.one hcd (by dsimp only;omega) ⟨⟨by dsimp only;omega, .inl (by dsimp only;omega), .inl (by dsimp only;omega),fun g=>by dsimp only at g;omega,fun g=>by dsimp only at g;omega,fun g=>by dsimp only at g;omega,fun g=>by dsimp only at g;omega,fun _=>⟨b1,by dsimp only;omega⟩⟩,fun _=>by dsimp only;omega⟩ hsc fun q hq=>?_⟩ (fun q r g=>?_) (fun _ kd hk=>by rw [hi]at hk;cases hk)
   ·rw [a1k.1 hq];have:=hX _ hm;dsimp only at this
    rwa [c1]at this
   ·rw [hrs]at g;rw [a1k.1 g];have:=Rq.go q hcd hsc _ (.head _);dsimp only at this ⊢
    rwa [c1]
  cases hlay with
  | send o hi=>
   have hn:0<=x'.N/\x'.N<(e.length:Int)/\x'.Ag.length<=3:=by rcases hT with g | g | g | g | g <;> omega
   have hno:dR p x' e=[]:=by unfold dR;rw [a1U (by omega),a1U (by omega)]
   have hf:∀ a∈x'.Ag,fE e.length a=true:=fun a ha=>(nI (a0p.1 hA.1 a ha)).1
   refine key hCC ⟨e.length,Int.le_refl _,fun _=>rfl,?_⟩ (fun _ r hr=>by rw [hno]at hr;cases hr) (fun _ kd hk=>by rw [hi]at hk;cases hk)
   dsimp only at hP hl ⊢
   have hp:=hC.pc hP (fun i hi=>by
    rcases a1a.1 hi with hi | hi
    ·obtain⟨a,ha,hi⟩:=a1e.1 hi;have:=tL (nE a) _ a (a1A _) (hf a ha) i hi;omega
    ·rw [a1k.1 hi];simp)
   have e1:=aGC (X:=X) x'.Ag 0 k hf (Int.le_refl _) hp.left;rw [Int.zero_add]at e1;rw [a0L,a0S,<- a1u];refine e1.trans (Ex.one (xs:=[]) hp.right.head (by simp) ⟨⟨by simp, .inl (by simp [many]), .inl (by simp [many]),by simp,fun _=>⟨by dsimp only;omega,by dsimp only;omega⟩,by simp,by simp,fun _=>⟨hn.1,by dsimp only;omega⟩⟩,by simp [inI]⟩ ?_ (fun p hp=>by cases hp))
   unfold scI;dsimp only
   rw [a1U (by omega),a1U (by omega),a1U (by omega),a1V rfl,a1V ⟨hn.2.1,Int.le_refl _⟩,Int.sub_self];rfl
  | par o hi=>
   have hno:dR p x' e=[]:=by unfold dR;rw [a1U (by omega),a1U (by omega)]
   rw [hi]at II;have i0:=II _ (.head _);have i1:=II _ (.tail _ (.head _));unfold cq at i0 i1;dsimp only at i0 i1 hP hl
   rw [gN]at hl;have pl:=hP.left;have pr:=hP.right;have hc0:At L k (cG p h (kid x' 0) e.length).1:=by
    unfold dJ at pl;split at pl
    ·exact pl.left
    ·exact pl
   have hlc:(cG p h (kid x' 0) e.length).1.length<=(dJ (cG p h (kid x' 0) e.length) e.length).length:=by
    unfold dJ;split
    ·rw [a0L];omega
    ·exact a1A _
   have n0:=i0 k hc0 (by omega)
   have x0:=aDc (q:=(kid x' 0,e)) hC n0 pl;have n1:=i1 _ pr (by omega)
   obtain⟨z,z1,z2,z3⟩:=n1.ex;refine key hCC ⟨z,z1,z2,?_⟩ (fun _ r hr=>by rw [hno]at hr;cases hr) (fun q kd hk=>?_)
   ·have:=x0.trans z3;dsimp only at this ⊢
    rw [gN,<- a1u];exact this
   ·rw [hi]at hk;rcases a1d.1 hk with rfl | hk
    ·exact n0.rt q
    ·rw [a1k.1 hk];exact n1.rt (x0.q q)
  | def_ o hd ho hi=>
   rename_i d;rw [hi]at II;have i0:=II _ (.head _);unfold cq at i0;dsimp only at i0 hP hl
   rw [gN,a0S]at hl;have pl:=hP.left;have pr:=hP.right;rw [a0S]at pr;obtain⟨d1,d2,d3⟩:=hC.def_ hd;have hlen:=sI (e:=e) (m:=x'.N) (d:=d);have hown:own d=((d.AQ.length+d.AP.length:Nat):Int):=by unfold own;omega
   have hin:(e.length:Int)+(((ptD v d).AQ.length+(ptD v d).AP.length:Nat):Int)=(inE e x'.N d).length:=by
    unfold ptD;rw [a0N,<- hown,hlen]
   have hrs:dR p x' e=d.AO.map (fun r=>(r.AU,ruE e x'.N d r))++d.AP.map (fun y=>(y.AU,inE e x'.N d)):=by unfold dR;rw [a1V o,hd]
   have hds:=fun q=>defS_mem (v:=v) (e:=e) (m:=x'.N) ho hin q
   rw [<- hrs]at hds;have hcd:c.Code[k]? =some ⟨11,x'.N,0⟩:=by
    have:=hC.no (pl 0 _ rfl) (by simp [sh1])
    simpa [sh1] using this
   have hsc:scI c k ⟨11,x'.N,0⟩ ⟨0,e.length⟩=some (defS (ptD v d) (e.length+((ptD v d).AQ.length+(ptD v d).AP.length:Nat))++[((k:Int)+1,⟨0,(inE e x'.N d).length⟩)]):=by
    unfold scI;dsimp only
    rw [a1U (by omega),a1U (by omega),a1U (by omega),a1U (by omega),a1U (by omega),a1U (by omega),a1V rfl,a1V rfl,d1];dsimp only
    rw [hin]
   have x0:Ex c X k (k+1) ⟨0,e.length⟩ ⟨0,(inE e x'.N d).length⟩:=Ex.one hcd (by simp) ⟨⟨by simp, .inl (by simp [many]), .inr rfl,by simp,by simp,by simp,fun _=>d3,fun _=>⟨d2,by simp⟩⟩,by simp [inI]⟩ hsc fun q hq=>by
    obtain⟨r,g,rfl⟩:=(hds q).1 hq;exact hX r g
   have n0:=i0 _ pr (by omega)
   obtain⟨z,z1,_,z3⟩:=n0.ex;have zz:(e.length:Int)<=z:=by
    have:(0:Int)<=own d:=by rw [hown];omega
    dsimp only at z1;omega
   refine key hCC ⟨z,zz,fun hh=>by simp at hh,?_⟩ (fun q r g=>?_) (fun q kd hk=>?_)
   ·have:=x0.trans z3;dsimp only at this ⊢
    unfold cq at this;rw [gN,a0S,<- a1u];exact this
   ·exact Rq.go q hcd hsc _ (a1b _ ((hds _).2 ⟨r,g,rfl⟩))
   ·rw [hi]at hk;rw [a1k.1 hk];exact n0.rt (x0.q q)
  | if_ o ha hall hi=>
   rename_i a;have hno:dR p x' e=[]:=by unfold dR;rw [a1U (by omega),a1U (by omega)]
   rw [hi]at II;have i0:=II _ (.head _);have i1:=II _ (.tail _ (.head _));unfold cq at i0 i1;dsimp only at i0 i1 hP hl
   rw [zE]at hl;unfold ifC at hP;have pr:=hP.right;have pm:=hP.left;have p10:=pm.last;have pl:=pm.left;have pa:=pl.right;have pe:=pl.left;have p9:=pe.last;have pe:=pe.left;have cut_le:∀ (c0:List AI × Bool) (z:Int),c0.1.length<=(dJ c0 z).length:=fun c0 z=>by
    unfold dJ;split
    ·rw [a0L];omega
    ·exact a1A _
   have cut_at:∀ {c0:List AI × Bool} {z:Int} {k:Nat},At L k (dJ c0 z)->At L k c0.1:=fun {c0 z k} hh=>by
    unfold dJ at hh;split at hh
    ·exact hh.left
    ·exact hh
   have la:=cut_le (cG p h (kid x' 0) e.length) e.length;have lb:=cut_le (cG p h (kid x' 1) e.length) e.length;have fa:=(nI hall).1;have ee:=aBw (X:=X) (nE a) a 0 k (a1A _) fa (Int.le_refl _) (hC.pc pe fun i hi=>by have:=tL (nE a) _ a (a1A _) fa i hi;omega)
   rw [gN,a0L,a0S]at p10;rw [a0L,a0S]at pa;rw [a0L,gN,a0L,a0S,a0S]at pr;generalize hc0:dJ (cG p h (kid x' 0) e.length) e.length=c0 at *
   generalize hc1:dJ (cG p h (kid x' 1) e.length) e.length=c1 at *
   have pa':=pa;have pr':=pr
   rw [<- hc0]at pa';rw [<- hc1]at pr';have n0:=i0 _ (cut_at pa') (by omega)
   have n1:=i1 _ (cut_at pr') (by omega)
   have x0:=aDc (q:=(kid x' 0,e)) hC n0 pa';have x1:=aDc (q:=(kid x' 1,e)) hC n1 pr';dsimp only at x0 x1
   rw [hc0]at x0;rw [hc1]at x1;have g9:=hC.no p9 (by simp [sh1])
   have g10:=hC.no p10 (by simp [sh1])
   have hs9:sh1 (k:Int) ⟨9,((bX a).length:Int)+2+c0.length,0⟩=⟨9,((k+((bX a).length+1+c0.length):Nat):Int)+1,0⟩:=by
    unfold sh1;rw [a1V (.inl rfl)];simp only [AI.mk.injEq,true_and,and_true];omega
   have hs10:sh1 (k:Int) ⟨10,((bX a).length:Int)+2+c0.length+c1.length,0⟩=⟨10,((k+((bX a).length+1+c0.length+1)+c1.length:Nat):Int),0⟩:=by
    unfold sh1;rw [a1V (.inr rfl)];simp only [AI.mk.injEq,true_and,and_true];omega
   rw [hs9]at g9;rw [hs10]at g10;have w0:k+(bX a).length+1=k+((bX a).length+1):=by omega
   have w1:k+((bX a).length+1)+c0.length=k+((bX a).length+1+c0.length):=by omega
   have w2:k+((bX a).length+1+c0.length)+1=k+((bX a).length+1+c0.length+1):=by omega
   rw [w1]at x0;rw [Int.zero_add]at ee;have big:=Ex.if_ ee g9 (by rw [w0];exact x0) g10 (by rw [w2];exact x1) (by omega)
   have ww:k+(ifC (bX a) c0 c1).length=k+((bX a).length+1+c0.length+1)+c1.length:=by rw [zE];omega
   have t9:=big.2;rw [w0,w2]at t9;refine key hCC ⟨e.length,Int.le_refl _,fun _=>rfl,?_⟩ (fun _ r hr=>by rw [hno]at hr;cases hr) (fun q kd hk=>?_)
   ·dsimp only
    rw [ww];exact big.1
   ·rw [hi]at hk;obtain⟨t1,t2⟩:=t9 q;rcases a1d.1 hk with rfl | hk
    ·exact n0.rt t1
    ·rw [a1k.1 hk];exact n1.rt t2
  | go o hi kk=>exact on 13 (.inl rfl) (.inl o) hi kk rfl
  | watch o hi kk=>exact on 15 (.inr rfl) (.inr o) hi kk rfl
  | stop o hi=>
   have hno:dR p x' e=[]:=by unfold dR;rw [a1U (by omega),a1U (by omega)]
   refine key hCC ⟨e.length,Int.le_refl _,fun _=>rfl,?_⟩ (fun _ r hr=>by rw [hno]at hr;cases hr) (fun _ kd hk=>by rw [hi]at hk;cases hk)
   have hcd:c.Code[k]? =some ⟨14,0,0⟩:=by
    have:=hC.no (hP 0 _ rfl) (by simp [sh1])
    simpa [sh1] using this
   refine Ex.one (xs:=[]) hcd (by simp) ⟨⟨by simp, .inr rfl, .inr rfl,by simp,by simp,by simp,by simp,by simp⟩,by simp [inI]⟩ ?_ (fun p hp=>by cases hp)
   unfold scI;dsimp only
   rw [a1U (by omega),a1U (by omega),a1U (by omega),a1U (by omega),a1U (by omega),a1U (by omega),a1U (by omega),a1U (by omega),a1U (by omega),a1V rfl,a1V rfl];rfl
  | nil o hi=>
   have hno:dR p x' e=[]:=by unfold dR;rw [a1U (by omega),a1U (by omega)]
   refine key hCC ⟨e.length,Int.le_refl _,fun _=>rfl,Ex.nil⟩ (fun _ r hr=>by rw [hno]at hr;cases hr) (fun _ kd hk=>by rw [hi]at hk;cases hk)
open Go.SX Go.SW Go.Dt
theorem aDw {g:aE Int Int} {n k:Int} {b:Int}:(aE.upd g n b).get k=if k=n then some b else g.get k:=by simp [aE.upd]
theorem sh_end {k:Int} {l:List AI}:Go.Proofs.YtjahnkcjbglnoaaGreatDoor.sh k (l++[⟨16,0,0⟩])=Go.Proofs.YtjahnkcjbglnoaaGreatDoor.sh k l++[⟨16,0,0⟩]:=by rw [tU,sU end_no]
structure LayS (bk:Int->List AI) (g:aE Int Int) (c:List AI) (l:List Int):Prop where
 AB:∃ t,dM bk c l=c++t
 old:∀ b,b ∉ l->(stM bk g c l).get b=g.get b
 at_:∀ b∈l,∃ k:Nat,(stM bk g c l).get b=some (k:Int)/\At (dM bk c l) k (bk b)/\c.length<=k/\k+(bk b).length<=(dM bk c l).length/\(k=c.length\/∃ q,(dM bk c l)[k - 1]? =some q/\q.Op=16)
 cov:∀ i:Nat,c.length<=i->i<(dM bk c l).length->∃ b∈l,∃ k:Nat,(stM bk g c l).get b=some (k:Int)/\k<=i/\i<k+(bk b).length
 inj:∀ b∈l,∀ d∈l,(stM bk g c l).get b=(stM bk g c l).get d->b=d
 last:l≠[]->∃ q,(dM bk c l)[(dM bk c l).length - 1]? =some q/\q.Op=16
theorem aBn {bk:Int->List AI} (hb:∀ n,∃ t,bk n=t++[⟨16,0,0⟩]):∀ (l:List Int) (g:aE Int Int) (c:List AI),l.Nodup->LayS bk g c l
 | [],g,c,_=>⟨⟨[],by simp [dM]⟩,fun _ _=>rfl,fun b h=>(by cases h),fun i h1 h2=>(by simp only [dM]at h2;omega),fun b h=>(by cases h),fun h=>absurd rfl h⟩
 | n :: l,g,c,hn=>by
  obtain⟨hn1,hn2⟩:=a1n.1 hn;obtain⟨⟨t,ht⟩,iold,iat,icov,iinj,ilast⟩:=aBn hb l (aE.upd g n c.length) (bh c (bk n)) hn2;obtain⟨u,hu⟩:=hb n;have hpos:0<(bk n).length:=by rw [hu,a0L,a0S];omega
  have hl:(bh c (bk n)).length=c.length+(bk n).length:=gN _ _;have hle:c.length+(bk n).length<=(dM bk (bh c (bk n)) l).length:=by rw [ht,a0L,hl];omega
  have hend:∃ q,(dM bk (bh c (bk n)) l)[(bh c (bk n)).length - 1]? =some q/\q.Op=16:=by
   refine⟨⟨16,0,0⟩,?_,rfl⟩;rw [ht,a0A (by omega),bh,hu,sh_end,<- a0q];rw [a0L,a0S,Nat.add_sub_cancel,a0B (a1A _),Nat.sub_self];rfl
  have hgn:(stM bk (aE.upd g n c.length) (bh c (bk n)) l).get n=some (c.length:Int):=by rw [iold n hn1,aDw,a1V rfl]
  have hne:∀ b∈l,(stM bk (aE.upd g n c.length) (bh c (bk n)) l).get b≠some (c.length:Int):=fun b hb' e=>by
   obtain⟨k,k1,_,k2,_⟩:=iat b hb';rw [k1]at e;have:=a1L e;omega
  have hi0:∀ i∈[n],(n:Int)=i:=fun i hi=>(a1k.1 hi).symm
  refine⟨⟨_,by rw [dM,ht,bh,a0q]⟩,fun b hb'=>?_,fun b hb'=>?_,fun i h1 h2=>?_,fun b hb' d hd e=>?_,fun _=>?_⟩
  ·rw [stM,iold b (fun q=>hb' (.tail _ q)),aDw,a1U (fun q:b=n=>hb' (by rw [q];exact .head _))]
  ·rcases a1d.1 hb' with rfl | hb'
   ·refine⟨c.length,hgn,fun j i hi=>?_,a1A _,hle, .inl rfl⟩
    have hj:=(a0F.1 hi).1;rw [dM,ht,a0A (by omega),bh,a0B (by omega),Nat.add_sub_cancel_left,sh_get,hi];rfl
   ·obtain⟨k,k1,k2,k3,k4,k5⟩:=iat b hb';refine⟨k,k1,k2,by omega,k4, .inr ?_⟩
    rcases k5 with rfl | h
    ·exact hend
    ·exact h
  ·by_cases h:i<(bh c (bk n)).length
   ·exact⟨n, .head _,c.length,hgn,h1,by omega⟩
   ·obtain⟨b,b1,k,b2⟩:=icov i (by omega) h2
    exact⟨b, .tail _ b1,k,b2⟩
  ·rw [stM]at e;rcases a1d.1 hb' with q1 | q1
   ·rcases a1d.1 hd with q2 | q2
    ·rw [q1,q2]
    ·rw [q1,hgn]at e;exact absurd e.symm (hne d q2)
   ·rcases a1d.1 hd with q2 | q2
    ·rw [q2,hgn]at e;exact absurd e (hne b q1)
    ·exact iinj b q1 d q2 e
  ·cases l with
   | nil=>exact hend
   | cons m l=>exact ilast (by simp)
theorem aDA {bk:Int->List AI} (hb:∀ n,∃ t,bk n=t++[⟨16,0,0⟩]) {P:Int->(Nat->AM)->Nat->Prop} (hP:∀ b f w k,(∀ i,k<=i->i<k+(bk b).length->w i=f i)->P b f k->P b w k):∀ (l:List Int) (g:aE Int Int) (c:List AI),l.Nodup->(∀ b∈l,∀ k:Nat,(stM bk g c l).get b=some (k:Int)->∃ f,P b f k)->∃ lv,∀ b∈l,∀ k:Nat,(stM bk g c l).get b=some (k:Int)->P b lv k
 | [],_,_,_,_=>⟨fun _=>⟨0,0⟩,fun b h=>(by cases h)⟩
 | n :: l,g,c,hn,hf=>by
  obtain⟨hn1,hn2⟩:=a1n.1 hn;obtain⟨lv,hlv⟩:=aDA hb hP l (aE.upd g n c.length) (bh c (bk n)) hn2 fun b hb'=>hf b (.tail _ hb')
  have hs:=aBn hb l (aE.upd g n c.length) (bh c (bk n)) hn2;have hgn:(stM bk (aE.upd g n c.length) (bh c (bk n)) l).get n=some (c.length:Int):=by rw [hs.old n hn1,aDw,a1V rfl]
  obtain⟨f,hff⟩:=hf n (.head _) c.length hgn;have hl:(bh c (bk n)).length=c.length+(bk n).length:=gN _ _;refine⟨fun i=>if i<c.length+(bk n).length then f i else lv i,fun b hb' k hk=>?_⟩
  rw [stM]at hk;rcases a1d.1 hb' with rfl | hb'
  ·rw [hgn]at hk;have:=a1L hk;have:k=c.length:=by omega
   subst this;exact hP _ _ _ _ (fun i h1 h2=>a1V h2) hff
  ·obtain⟨k',k1,_,k2,_⟩:=hs.at_ b hb';rw [hk]at k1;have:=a1L k1;have:k=k':=by omega
   subst this;exact hP _ _ _ _ (fun i h1 h2=>a1U (by omega)) (hlv b hb' k hk)
theorem aDm {μ:AI->Nat} (h:∀ n l,tot μ (Go.Proofs.YtjahnkcjbglnoaaGreatDoor.sh n l)=tot μ l) {bk:Int->List AI}:∀ (l:List Int) (c:List AI),tot μ (dM bk c l)=tot μ c+tot (fun b=>tot μ (bk b)) l
 | [],c=>by simp [dM,tot]
 | n :: l,c=>by rw [dM,aDm h l,bh,jJ,h,tot];omega
theorem aBU {p:AL}:∀ {h:Nat} {q:Int × E},Tr p h q->RTe p (h+1) q=RTe p h q
 | 0,q,hT=>hT.elim
 | h+1,q,⟨x,hx,h0,hok,hK⟩=>by rw [pS (h:=h+1) hx,pS (h:=h) hx,zT fun k hk=>aBU (hK k hk)]
theorem aHj {p:AL}:∀ (h:Nat) (q:Int × E),Tr p h q->Ta p h q->∀ r∈RTe p h q,∀ s∈RTe p h r,s∈RTe p h q
 | 0,q,hT,_,_,_,_,_=>hT.elim
 | h+1,⟨n,e⟩,⟨x,hx,h0,hT,hK⟩,⟨x',hx',hA,hKA⟩,r,hr,s,hs=>by
  have exx:x'=x:=by rw [hx]at hx';exact(a1L hx').symm
  subst exx;have go:∀ k∈cX p x' e,(r=k\/r∈RTe p h k)->s∈(cX p x' e).flatMap (RTe p h):=fun k hk g=>by
   rcases g with rfl | g
   ·rw [aBU (hK r hk)]at hs;exact a1e.2 ⟨r,hk,hs⟩
   ·rw [aBU (vU h k (hK k hk) (hKA k hk) r g).1]at hs;exact a1e.2 ⟨k,hk,aHj h k (hK k hk) (hKA k hk) r g s hs⟩
  rw [pS (q:=(n,e)) hx]at hr ⊢;refine a1c _ ?_;rcases a1a.1 hr with g | g
  ·exact go r (kR r g) (.inl rfl)
  ·obtain⟨k,hk,g⟩:=a1e.1 g;exact go k hk (.inr g)
theorem aBO {p:AL} {h:Nat} {q:Int × E} (hT:Tr p h q) (hA:Ta p h q):∀ d:Nat,Tr p (h+d) q/\Ta p (h+d) q/\cG p (h+d) q.1 q.2.length=cG p h q.1 q.2.length
 | 0=>⟨hT,hA,rfl⟩
 | d+1=>by
  obtain⟨a,b,e⟩:=aBO hT hA d;exact⟨a.up,b.up,by rw [<- e];exact cq_up a b⟩
theorem cq_any {p:AL} {h g:Nat} {q:Int × E} (hT:Tr p h q) (hA:Ta p h q) (gT:Tr p g q) (gA:Ta p g q):cq p h q=cq p g q:=by
 have a:=(aBO hT hA g).2.2
 have b:=(aBO gT gA h).2.2
 unfold cq
 rw [Nat.add_comm g h]at b
 rw [<- a,b]
open Go.SX Go.SW Go.Dt
structure Tf (p:AL) (sz:List Int) (H:Nat):Prop where
 t:Tr p H (cD p)
 a:Ta p H (cD p)
 sz:∀ q∈LN p H (cD p),idx sz q.1=some (q.2.length:Int)
 nd:(bN p).Nodup
 nodes:((LN p H (cD p)).map (·.1)).Perm (fB p.AH.length)
 Aa:((HN p H (cD p)).map (·.1)).Perm (fB p.AE.length)
 rts:(p.AG :: RT p H (cD p)).Perm (bN p)
theorem chk_tf {p:AL} {s:VS} (h:eO p=some s):Tf p s.sz p.AH.length:=by
 obtain⟨⟨h1,_⟩,h2,h3,h4⟩:=aEE h
 obtain⟨H,hH,_,_,_,hT,_,_,_,hsz,_⟩:=aAr h
 subst hH
 exact⟨hT,chk_ta h,hsz,h1,h2,h3,h4⟩
def rsE (p:AL) (H:Nat):List (Int × E):=cD p :: RTe p H (cD p)
theorem Tf.map {p:AL} {sz:List Int} {H:Nat} (T:Tf p sz H):((rsE p H).map (·.1)).Perm (bI (bN p)):=by
 have:(rsE p H).map (·.1)=p.AG :: RT p H (cD p):=by rw [rsE,a0W,aEI];rfl
 rw [this]
 exact T.rts.trans (kJ _).symm
theorem Tf.r {p:AL} {sz:List Int} {H:Nat} (T:Tf p sz H) {r:Int × E} (h:r∈rsE p H):Tr p H r/\Ta p H r/\idx sz r.1=some (r.2.length:Int)/\∀ s∈RTe p H r,s∈rsE p H:=by
 rcases a1d.1 h with rfl | h
 ·have self:cD p∈LN p H (cD p):=by
   have hT:=T.t;cases H with
   | zero=>exact hT.elim
   | succ H=>obtain⟨y,hy,_⟩:=hT;rw [iD hy];exact .head _
  exact⟨T.t,T.a,T.sz _ self,fun s hs=> .tail _ hs⟩
 ·obtain⟨a,b,c⟩:=vU H _ T.t T.a r h;exact⟨a,b,T.sz _ c,fun s hs=> .tail _ (aHj H _ T.t T.a r h s hs)⟩
theorem Tf.bk {p:AL} {sz:List Int} {H:Nat} (T:Tf p sz H) {r:Int × E} (h:r∈rsE p H):dF p H sz r.1=cq p H r++[⟨16,0,0⟩]:=by
 unfold dF
 rw [(T.r h).2.2.1];rfl
theorem wQ {p:AL} {sz:List Int} {H:Nat} (n:Int):∃ t,dF p H sz n=t++[⟨16,0,0⟩]:=⟨_,rfl⟩
theorem Tf.snd {p:AL} {sz:List Int} {H:Nat} (T:Tf p sz H):(bI (bN p)).Nodup:=(kJ _).nodup_iff.2 T.nd
theorem lv_all {p:AL} {sz:List Int} {H:Nat} (T:Tf p sz H):∃ lv:Nat->AM,(∃ m:Nat,(cJ p sz H).AG=(m:Int)/\m<(cJ p sz H).Code.length/\lv m=⟨0,(cJ p sz H).AF⟩) /\
 (∀ i:Nat,i<(cJ p sz H).Code.length->∃ n s,(cJ p sz H).Code[i]? =some n/\(okI (cJ p sz H).AE.length (cJ p sz H).Code.length i n/\inI (cJ p sz H).Code.length n)/\scI (cJ p sz H) i n (lv i)=some s/\∀ q∈s,∃ j:Nat,q.1=(j:Int)/\j<(cJ p sz H).Code.length/\q.2=lv j) /\
 ∀ i:Nat,i<(cJ p sz H).Code.length->∃ l,Rq (cJ p sz H) i l:=by
 have hmap:=T.map
 have hS:=aBn (bk:=dF p H sz) wQ (bI (bN p)) aE.none [] T.snd
 have hglue:=fun P hP=>aDA (bk:=dF p H sz) wQ (P:=P) hP (bI (bN p)) aE.none [] T.snd
 have hC:Cx p (fun b=>((stM (dF p H sz) aE.none [] (bI (bN p))).get b).getD 0) (dM (dF p H sz) [] (bI (bN p))) (cJ p sz H):=⟨rfl,rfl⟩
 have hlen:(cJ p sz H).Code.length=(dM (dF p H sz) [] (bI (bN p))).length:=by rw [hC.code,a0N]
 have hmain:(cJ p sz H).AG=((stM (dF p H sz) aE.none [] (bI (bN p))).get p.AG).getD 0:=rfl
 have hfree:(cJ p sz H).AF=((cD p).2.length:Int):=by show(p.AF.length:Int)=_;simp [cD]
 generalize cJ p sz H=c at *
 generalize hG:stM (dF p H sz) aE.none [] (bI (bN p))=G at *
 generalize hL:dM (dF p H sz) [] (bI (bN p))=L at *
 have hat:=hS.at_;have hcov:=hS.cov
 rw [hG,hL]at hat hcov
 have hmem:∀ r∈rsE p H,r.1∈bI (bN p):=fun r hr=>hmap.mem_iff.1 (a1h.2 ⟨r,hr,rfl⟩)
 have hback:∀ b∈bI (bN p),∃ r∈rsE p H,r.1=b:=fun b hb=>a1h.1 (hmap.mem_iff.2 hb)
 have place:∀ r∈rsE p H,∃ k:Nat,G.get r.1=some (k:Int)/\(G.get r.1).getD 0=(k:Int)/\At L k (cq p H r++[⟨16,0,0⟩])/\k+(cq p H r).length<c.Code.length:=fun r hr=>by
  obtain⟨k,k1,k2,_,k3,_⟩:=hat r.1 (hmem r hr);rw [T.bk hr]at k2 k3;rw [a0L,a0S]at k3;exact⟨k,k1,by rw [k1];rfl,k2,by omega⟩
 have nd:∀ r∈rsE p H,∀ k:Nat,G.get r.1=some (k:Int)->At L k (cq p H r++[⟨16,0,0⟩])/\k+(cq p H r).length<c.Code.length/\Nd p (fun b=>(G.get b).getD 0) c (fun b l=>∃ r∈rsE p H,b=(G.get r.1).getD 0/\l=⟨0,r.2.length⟩) H r k:=fun r hr k hk=>by
  obtain⟨k',k1,_,k2,k3⟩:=place r hr;rw [hk]at k1;have:=a1L k1;have:k=k':=by omega
  subst this;obtain⟨t1,t2,_,t4⟩:=T.r hr;refine⟨k2,k3,aF5 hC H r t1 t2 (fun s hs=>⟨⟨s,t4 s hs,rfl,rfl⟩,fun g gT gA=>?_⟩) k k2.left k3⟩
  obtain⟨q,_,q1,q2,q3⟩:=place s (t4 s hs);obtain⟨u1,u2,_⟩:=T.r (t4 s hs);rw [cq_any u1 u2 gT gA]at q2 q3;exact⟨q,q1,q2.left,q3⟩
 obtain⟨lv,hlv⟩:=hglue (fun b f k=>f k=⟨0,(idx sz b).getD 0⟩/\∀ i:Nat,k<=i->i<k+(dF p H sz b).length->∃ n s,c.Code[i]? =some n/\(okI c.AE.length c.Code.length i n/\inI c.Code.length n)/\scI c i n (f i)=some s/\∀ q∈s,(∃ j:Nat,q.1=(j:Int)/\k<=j/\j<k+(dF p H sz b).length/\q.2=f j)\/∃ r∈rsE p H,q.1=(G.get r.1).getD 0/\q.2=⟨0,r.2.length⟩) (fun b f w k hw ⟨h1,h2⟩=>by
  have hp:0<(dF p H sz b).length:=by obtain⟨t,ht⟩:=wQ (p:=p) (H:=H) (sz:=sz) b;rw [ht,a0L,a0S];omega
  refine⟨by rw [hw k (a1A _) (by omega)];exact h1,fun i a b=>?_⟩
  obtain⟨n,s,e1,e2,e3,e4⟩:=h2 i a b;refine⟨n,s,e1,e2,by rw [hw i a b];exact e3,fun q hq=>?_⟩
  rcases e4 q hq with⟨j,j1,j2,j3,j4⟩ | g
  ·exact .inl ⟨j,j1,j2,j3,by rw [hw j j2 j3];exact j4⟩
  ·exact .inr g) (fun b hb k hk=>by
  obtain⟨r,hr,rfl⟩:=hback b hb;obtain⟨k2,k3,hN⟩:=nd r hr k hk;obtain⟨z,_,_,f,sg,f0,f1⟩:=hN.ex;obtain⟨_,_,hsz,_⟩:=T.r hr;refine⟨f,by rw [hsz];exact f0,fun i i1 i2=>?_⟩
  rw [T.bk hr,a0L,a0S]at *
  by_cases i3:i<k+(cq p H r).length
  ·obtain⟨n,s,e1,_,e2,e3,e4⟩:=sg.ins i i1 i3;refine⟨n,s,e1,e2,e3,fun q hq=>?_⟩
   rcases e4 q hq with⟨j,j1,j2,j3,j4⟩ | g
   ·exact .inl ⟨j,j1,by omega,by omega,j4⟩
   ·exact .inr g
  ·have hi:i=k+(cq p H r).length:=by omega
   subst hi;refine⟨⟨16,0,0⟩,[],hC.no k2.last (by simp [sh1]),⟨⟨by simp, .inr rfl, .inr rfl,by simp,by simp,by simp,by simp,by simp⟩,by simp [inI]⟩,?_,fun q hq=>by cases hq⟩
   rw [f1];unfold scI;dsimp only
   rw [a1U (by omega),a1U (by omega),a1U (by omega),a1U (by omega),a1U (by omega),a1U (by omega),a1U (by omega),a1U (by omega),a1U (by omega),a1U (by omega),a1V rfl])
 have hst:∀ r∈rsE p H,∃ j:Nat,(G.get r.1).getD 0=(j:Int)/\j<c.Code.length/\lv j=⟨0,r.2.length⟩:=fun r hr=>by
  obtain⟨k,k1,k2,_,k3⟩:=place r hr;have:=(hlv r.1 (hmem r hr) k k1).1;rw [(T.r hr).2.2.1]at this;exact⟨k,k2,by omega,this⟩
 have hroot:cD p∈rsE p H:= .head _
 have hblk:∀ i:Nat,i<c.Code.length->∃ r∈rsE p H,∃ k:Nat,G.get r.1=some (k:Int)/\k<=i/\i<k+(dF p H sz r.1).length/\k+(dF p H sz r.1).length<=c.Code.length:=fun i hi=>by
  obtain⟨b,hb,k,k1,k2,k3⟩:=hcov i (a1F _) (by omega)
  obtain⟨r,hr,rfl⟩:=hback b hb;obtain⟨k',q1,_,_,q2,_⟩:=hat r.1 (hmem r hr);rw [k1]at q1;have:=a1L q1;exact⟨r,hr,k,k1,k2,k3,by omega⟩
 refine⟨lv,?_,fun i hi=>?_,fun i hi=>?_⟩
 ·obtain⟨j,j1,j2,j3⟩:=hst _ hroot;exact⟨j,hmain.trans j1,j2,by rw [j3,hfree]⟩
 ·obtain⟨r,hr,k,k1,k2,k3,k4⟩:=hblk i hi;obtain⟨n,s,e1,e2,e3,e4⟩:=(hlv r.1 (hmem r hr) k k1).2 i k2 k3;refine⟨n,s,e1,e2,e3,fun q hq=>?_⟩
  rcases e4 q hq with⟨j,j1,j2,j3,j4⟩ | ⟨r',r1,r2,r3⟩
  ·exact⟨j,j1,by omega,j4⟩
  ·obtain⟨j,j1,j2,j3⟩:=hst r' r1;exact⟨j,r2.trans j1,j2,by rw [r3,j3]⟩
 ·obtain⟨r,hr,k,k1,k2,k3,k4⟩:=hblk i hi;obtain⟨m,m1,m2,_,m3⟩:=place _ hroot;have q0:Rq c ((m:Nat):Int) ⟨0,(cD p).2.length⟩:=by
   rw [<- m2,<- hfree];have:c.AG=(G.get (cD p).1).getD 0:=hmain;rw [<- this];exact .base
  have qr:Rq c (k:Int) ⟨0,r.2.length⟩:=by
   have hk:(G.get r.1).getD 0=(k:Int):=by rw [k1];rfl
   rcases a1d.1 hr with e | g
   ·subst e;rw [k1]at m1;have:=a1L m1;rw [this];exact q0
   ·have:=(nd _ hroot m m1).2.2.rt q0 r g
    try dsimp only at this
    rwa [hk]at this
  obtain⟨_,_,hN⟩:=nd r hr k k1;obtain⟨z,_,_,f,sg,f0,f1⟩:=hN.ex;rw [T.bk hr,a0L,a0S]at k3;exact⟨f i,sg.rch (by rw [f0];exact qr) i k2 (by omega)⟩
theorem lv_good {c:AC} {lv:Nat->AM} (h1:∃ m:Nat,c.AG=(m:Int)/\m<c.Code.length/\lv m=⟨0,c.AF⟩) (h2:∀ i:Nat,i<c.Code.length->∃ n s,c.Code[i]? =some n/\(okI c.AE.length c.Code.length i n/\inI c.Code.length n)/\scI c i n (lv i)=some s/\∀ q∈s,∃ j:Nat,q.1=(j:Int)/\j<c.Code.length/\q.2=lv j):¬ Bad (scP c) c.AG ⟨0,c.AF⟩:=by
 have sc:∀ j:Nat,j<c.Code.length->∃ s,scP c j (lv j)=some s/\∀ q∈s,∃ j:Nat,q.1=(j:Int)/\j<c.Code.length/\q.2=lv j:=fun j hj=>by
  obtain⟨n,s,e1,_,e2,e3⟩:=h2 j hj;have h:=aDy (m:=(j:Int)) (by rw [a0o];exact e1) (lv j)
  rw [a0o]at h;exact⟨s,h.trans e2,e3⟩
 have cl:∀ n l,R (scP c) c.AG ⟨0,c.AF⟩ n l->∃ j:Nat,n=(j:Int)/\j<c.Code.length/\l=lv j:=fun n l h=>by
  induction h with
  | base=>obtain⟨m,m1,m2,m3⟩:=h1;exact⟨m,m1,m2,m3.symm⟩
  | step _ hs hp ih=>
   obtain⟨j,rfl,j2,rfl⟩:=ih;obtain⟨s,s1,s2⟩:=sc j j2;rw [s1]at hs;cases hs;exact s2 _ hp
 rintro⟨n,l,hr,h⟩
 obtain⟨j,rfl,j2,rfl⟩:=cl n l hr
 rcases h with h | ⟨l',hr',hne⟩
 ·obtain⟨s,s1,_⟩:=sc j j2;rw [s1]at h;cases h
 ·obtain⟨i,i1,_,i3⟩:=cl _ _ hr';have:i=j:=by omega
  subst this;exact hne i3
open Go.SX Go.SW Go.Dt
theorem aES {p:AL} {sz:List Int} {H:Nat} (T:Tf p sz H) (f:Af->Nat):tot (fun k:Int × E=>(idx p.AH k.1).elim 0 f) (LN p H (cD p))=tot f p.AH:=by
 rw [<- aKl f p.AH,<- aBN _ T.nodes,qO]
theorem tot_L {p:AL} {sz:List Int} {H:Nat} (T:Tf p sz H) {μ:AI->Nat} (hμ:Msr μ):tot μ (dM (dF p H sz) [] (bI (bN p)))=tot (ow μ) p.AH+μ ⟨16,0,0⟩*(bN p).length:=by
 have e1:tot (fun r:Int × E=>tot μ (dF p H sz r.1)) (rsE p H)=tot (fun r=>tot μ (cq p H r)+μ ⟨16,0,0⟩) (rsE p H):=gF fun r hr=>by rw [T.bk hr,jJ];simp [tot]
 have e2:=aEi hμ H (cD p) T.t T.a
 rw [aES T]at e2
 have e3:(rsE p H).length=(bN p).length:=by
  have:=T.map.length_eq;rw [a0N,(kJ _).length_eq]at this;exact this
 have e4:tot (fun r=>tot μ (cq p H r)) (rsE p H)=tot μ (cq p H (cD p))+tot (fun r=>tot μ (cq p H r)) (RTe p H (cD p)):=rfl
 rw [aDm hμ.tsh,<- aBN _ T.map,qO,e1,uU,vA,e3,e4,e2]
 simp [tot]
theorem aF2 {μ:AI->Nat} {v:Int->Int} (h:∀ i,μ (pat v i)=μ i) (l:List AI):tot μ (l.map (pat v))=tot μ l:=by
 rw [qO]
 exact gF fun i _=>h i
theorem aAI {v:Int->Int} {i:AI}:(pat v i).Op=i.Op/\(pat v i).A=i.A:=by unfold pat;split <;> exact⟨rfl,rfl⟩
def opm (o:Int) (i:AI):Nat:=if i.Op=o then 1 else 0
theorem opm_msr {o:Int} (h:8<=o/\o≠12):Msr (opm o):=⟨fun i a _=>rfl,fun i hi=>a1U (by omega)⟩
theorem opm_pat {o:Int} {v:Int->Int} (i:AI):opm o (pat v i)=opm o i:=by unfold opm;rw [aAI.1]
def opn (o:Int) (x:Af):Nat:=if x.Op=o then 1 else 0
theorem tot_op {p:AL} {sz:List Int} {H:Nat} (T:Tf p sz H) {o:Int} (h:8<=o/\o≠12):tot (opm o) (cJ p sz H).Code=tot (ow (opm o)) p.AH+(if o=16 then 1 else 0)*(bN p).length:=by
 have:tot (opm o) (cJ p sz H).Code=tot (opm o) (dM (dF p H sz) [] (bI (bN p))):=aF2 opm_pat _
 rw [this,tot_L T (opm_msr h)]
 congr 2
 unfold opm
 by_cases g:o=16
 ·rw [a1V g,a1V g.symm]
 ·rw [a1U g,a1U (fun q=>g q.symm)]
theorem ow_op {o k:Int} (h:(o=8/\k=2)\/(o=11/\k=4)\/(o=9/\k=5)\/(o=10/\k=5)\/(o=13/\k=6)\/(o=15/\k=8)\/(o=14/\k=7)) (x:Af):ow (opm o) x=opn k x:=by
 unfold ow opm opn
 dsimp only
 by_cases o2:x.Op=2
 ·rw [a1V o2];by_cases g:o=8
  ·rw [a1V g.symm,a1V (by omega)]
  ·rw [a1U (fun q=>g q.symm),a1U (by omega)]
 rw [a1U o2]
 by_cases o4:x.Op=4
 ·rw [a1V o4];by_cases g:o=11
  ·rw [a1V g.symm,a1V (by omega)]
  ·rw [a1U (fun q=>g q.symm),a1U (by omega)]
 rw [a1U o4]
 by_cases o5:x.Op=5
 ·rw [a1V o5];by_cases g:o=9
  ·rw [a1V g.symm,a1U (by omega),a1V (by omega)]
  ·rw [a1U (fun q=>g q.symm)];by_cases g:o=10
   ·rw [a1V g.symm,a1V (by omega)]
   ·rw [a1U (fun q=>g q.symm),a1U (by omega)]
 rw [a1U o5]
 by_cases o6:x.Op=6
 ·rw [a1V o6];by_cases g:o=13
  ·rw [a1V g.symm,a1V (by omega)]
  ·rw [a1U (fun q=>g q.symm),a1U (by omega)]
 rw [a1U o6]
 by_cases o8:x.Op=8
 ·rw [a1V o8];by_cases g:o=15
  ·rw [a1V g.symm,a1V (by omega)]
  ·rw [a1U (fun q=>g q.symm),a1U (by omega)]
 rw [a1U o8]
 by_cases o7:x.Op=7
 ·rw [a1V o7];by_cases g:o=14
  ·rw [a1V g.symm,a1V (by omega)]
  ·rw [a1U (fun q=>g q.symm),a1U (by omega)]
 rw [a1U o7,a1U (by omega)]
theorem ow_end (x:Af):ow (opm 16) x=0:=by unfold ow opm;simp
theorem cnt_op {p:AL} {sz:List Int} {H:Nat} (T:Tf p sz H) {o k:Int} (h:(o=8/\k=2)\/(o=11/\k=4)\/(o=9/\k=5)\/(o=10/\k=5)\/(o=13/\k=6)\/(o=15/\k=8)\/(o=14/\k=7)):tot (opm o) (cJ p sz H).Code=tot (opn k) p.AH:=by
 rw [tot_op T (by omega),a1U (by omega),Nat.zero_mul,a1w]
 exact gF fun x _=>ow_op h x
theorem aHO {p:AL} {sz:List Int} {H:Nat} (T:Tf p sz H):tot (opm 16) (cJ p sz H).Code=(bN p).length:=by
 rw [tot_op T (by omega),a1V rfl,aDh fun x _=>ow_end x];omega
theorem aFq:∀ l:List AI,ends l=tot (opm 16) l
 | []=>rfl
 | i :: l=>by
  have ih:=aFq l;unfold ends at ih ⊢
  rw [tot,<- ih,List.filter_cons,opm];by_cases g:i.Op=16
  ·rw [a1V (by simpa using g),a1V g,a0M];omega
  ·rw [a1U (by simpa using g),a1U g];omega
def dsL:List AI->List Int
 | []=>[]
 | i :: l=>(if i.Op=11 then [i.A] else [])++dsL l
theorem aF8:∀ (l:List AI) (ds:List Int),iN ds l=ds++dsL l
 | [],ds=>by simp [iN,dsL]
 | i :: l,ds=>by
  rw [iN,aF8 l,dsL];by_cases g:i.Op=11
  ·rw [a1V g,a1V g,a0q]
  ·rw [a1U g,a1U g];rfl
theorem aBD:∀ (l:List AI) (ds:List Int),(ds++dsL l).Nodup->iB ds l
 | [],ds,_=>trivial
 | i :: l,ds,h=>by
  rw [dsL]at h;rw [iB];by_cases g:i.Op=11
  ·rw [a1V g]at h ⊢;rw [<- a0q]at h;refine⟨fun _ hm=>?_,aBD l _ h⟩
   have h1:=(a1m.1 (a1m.1 h).1).2.2;exact h1 _ hm _ (.head _) rfl
  ·rw [a1U g]at h ⊢;exact⟨fun q=>absurd q g,aBD l _ h⟩
def dfm (a:Int) (i:AI):Nat:=if i.Op=11/\i.A=a then 1 else 0
theorem dfm_msr {a:Int}:Msr (dfm a):=⟨fun i b h=>by unfold dfm;dsimp only;rw [a1U (by omega),a1U (by omega)],fun i hi=>a1U (by omega)⟩
theorem cnt1 {x a:Int}:[x].count a=if x=a then 1 else 0:=by
 rw [List.count_singleton]
 by_cases h:x=a
 ·rw [a1V h,a1V (by simpa using h)]
 ·rw [a1U h,a1U (by simpa using h)]
theorem cnt_ds {a:Int}:∀ l:List AI,(dsL l).count a=tot (dfm a) l
 | []=>rfl
 | i :: l=>by
  rw [dsL,a0t,cnt_ds l,tot,dfm];congr 1
  by_cases g:i.Op=11
  ·simp [g,cnt1]
  ·simp [g]
theorem ow_dfm {a:Int} (x:Af):ow (dfm a) x=(if x.Op=4 then [x.N] else []).count a:=by
 unfold ow dfm
 dsimp only
 by_cases o4:x.Op=4
 ·simp [o4,cnt1]
 ·simp [o4]
theorem aDt {α:Type} {a:Int} (f:α->List Int):∀ l:List α,(l.flatMap f).count a=tot (fun x=>(f x).count a) l
 | []=>rfl
 | x :: l=>by rw [a0z,a0t,aDt f l,tot]
theorem ds_perm {p:AL} {sz:List Int} {H:Nat} (T:Tf p sz H):(dsL (cJ p sz H).Code).Perm (fB p.AE.length):=by
 refine List.Perm.trans (List.perm_iff_count.2 fun a=>?_) T.Aa
 have e:tot (dfm a) (cJ p sz H).Code=tot (dfm a) (dM (dF p H sz) [] (bI (bN p))):=aF2 (fun i=>by simp only [dfm,aAI.1,aAI.2]) _
 have e2:dfm a ⟨16,0,0⟩=0:=a1U (by simp)
 rw [cnt_ds,e,tot_L T dfm_msr,e2,Nat.zero_mul,a1w,HN_hd,aDt,qO,<- aES T]
 refine gF fun k _=>?_
 unfold hd
 cases idx p.AH k.1 with
 | none=>rfl
 | some x=>exact ow_dfm x
def onm (b:Int) (i:AI):Nat:=if (i.Op=13\/i.Op=15)/\i.B=b then 1 else 0
theorem onm_msr {a:Int}:Msr (onm a):=⟨fun i b h=>rfl,fun i hi=>a1U (by omega)⟩
theorem cnt_on {a:Int}:∀ l:List AI,(onB l).count a=tot (onm a) l
 | []=>rfl
 | i :: l=>by
  rw [onB,a0t,cnt_on l,tot,onm,isOn];congr 1
  by_cases g:i.Op=13\/i.Op=15
  ·simp [g,cnt1]
  ·simp [g]
theorem ow_onm {a:Int} (x:Af):ow (onm a) x=(goN x).count a:=by
 unfold ow onm goN
 dsimp only
 by_cases z:x.Op=6
 ·simp [z,cnt1]
 by_cases w:x.Op=8
 ·simp [w,cnt1]
 simp [z,w]
theorem on_perm {p:AL} {sz:List Int} {H:Nat} (T:Tf p sz H):(onB (dM (dF p H sz) [] (bI (bN p)))).Perm (p.AH.flatMap goN):=by
 refine List.perm_iff_count.2 fun a=>?_
 have e2:onm a ⟨16,0,0⟩=0:=a1U (by simp)
 rw [cnt_on,tot_L T onm_msr,e2,Nat.zero_mul,a1w,aDt]
 exact gF fun x _=>ow_onm x
theorem aD5 {v:Int->Int}:∀ l:List AI,onB (l.map (pat v))=(onB l).map v
 | []=>rfl
 | i :: l=>by
  rw [a0W,onB,onB,aD5 l,a0U];congr 1
  unfold isOn pat;by_cases g:i.Op=13\/i.Op=15
  ·rw [a1V g,a1V (by simpa using g),a1V (by simpa using g)];rfl
  ·rw [a1U g,a1U (by simpa using g)];rfl
theorem node_len {p:AL} {h:Nat} {x:Af} {e:E} {L:List AI × Bool} (hT:okT p x e.length) (hA:okA x e.length) (hL:Lay p h x e L):L.1.length<=181+tot (fun k=>(cq p h k).length) (eY p x e):=by
 have cut_le:∀ (c:List AI × Bool) (z:Int),(dJ c z).length<=c.1.length+1:=fun c z=>by
  unfold dJ;split
  ·rw [a0L,a0S];exact a1A _
  ·omega
 cases hL with
 | send o hi=>
  have hn:x.Ag.length<=3:=by rcases hT with g | g | g | g | g <;> omega
  have:=kT (f:=bX) (n:=60) (l:=x.Ag) fun a ha=>by
   obtain⟨fa,na⟩:=nI (a0p.1 hA.1 a ha);have:=mZ (nE a) _ a (a1A _) fa;omega
  dsimp only
  rw [a0L,a0S];omega
 | par o hi=>
  have:=cut_le (cG p h (kid x 0) e.length) e.length;dsimp only
  rw [gN,hi];simp only [tot,cq];omega
 | def_ o hd ho hi=>
  dsimp only
  rw [gN,hi,a0S];simp only [tot,cq];omega
 | if_ o ha hall hi=>
  rename_i a;obtain⟨fa,na⟩:=nI hall;have:=mZ (nE a) _ a (a1A _) fa;have:=cut_le (cG p h (kid x 0) e.length) e.length;have:=cut_le (cG p h (kid x 1) e.length) e.length;dsimp only
  rw [zE,hi];simp only [tot,cq];omega
 | go o hi=>simp;omega
 | watch o hi=>simp;omega
 | stop o hi=>simp;omega
 | nil o hi=>simp
theorem aFV {p:AL}:∀ (h:Nat) (q:Int × E),Tr p h q->Ta p h q->(cq p h q).length+tot (fun r=>(cq p h r).length) (RTe p h q)<=181*(LN p h q).length
 | 0,q,hT,_=>hT.elim
 | h+1,⟨n,e⟩,hT0,hA0=>by
  obtain⟨x,hx,h0,hT,hK⟩:=hT0;obtain⟨x',hx',hA,hKA⟩:=hA0;dsimp only at hx hT hx' hA hK hKA
  have exx:x'=x:=by rw [hx]at hx';exact(a1L hx').symm
  subst exx;have hup:∀ r,Tr p h r->Ta p h r->cq p (h+1) r=cq p h r:=fun r a b=>by unfold cq;rw [cq_up a b]
  have hn:(cq p (h+1) (n,e)).length<=_:=node_len hT hA (aCz (h:=h) hx hT hA);rw [iD (q:=(n,e)) hx,pS (q:=(n,e)) hx,a0M,jJ,qQ];dsimp only
  have hfl:∀ l:List (Int × E),(l.flatMap (LN p h)).length=tot (fun k=>(LN p h k).length) l:=fun l=>by
   induction l with
   | nil=>rfl
   | cons a l ih=>rw [a0z,a0L,ih];rfl
  have e2:tot (fun r=>(cq p (h+1) r).length) (dR p x' e)=tot (fun r=>(cq p h r).length) (dR p x' e):=gF fun r hr=>by rw [hup r (hK r (kR r hr)) (hKA r (kR r hr))]
  have e3:tot (fun k=>tot (fun r=>(cq p (h+1) r).length) (RTe p h k)) (cX p x' e)=tot (fun k=>tot (fun r=>(cq p h r).length) (RTe p h k)) (cX p x' e):=gF fun k hk=>gF fun r hr=>by
   obtain⟨a,b,_⟩:=vU h k (hK k hk) (hKA k hk) r hr;rw [hup r a b]
  have e4:=aCA (f:=fun k=>(cq p h k).length+tot (fun r=>(cq p h r).length) (RTe p h k)) (g:=fun k=>181*(LN p h k).length) fun k (hk:k∈cX p x' e)=>aFV h k (hK k hk) (hKA k hk)
  have e5:∀ l:List (Int × E),tot (fun k=>181*(LN p h k).length) l=181*tot (fun k=>(LN p h k).length) l:=fun l=>by
   induction l with
   | nil=>rfl
   | cons a l ih=>rw [tot,tot,ih,Nat.mul_add]
  rw [uU,e5]at e4;rw [e2,e3,hfl];have e6:tot (fun k=>(cq p h k).length) (cX p x' e)=tot (fun k=>(cq p h k).length) (dR p x' e)+tot (fun k=>(cq p h k).length) (eY p x' e):=by rw [rN,jJ]
  omega
theorem aKw {p:AL} {sz:List Int} {H:Nat} (T:Tf p sz H) (h60:p.AH.length<=60) (hr:(bN p).length<=60):(cJ p sz H).Code.length<=10920:=by
 have hl:∀ l:List AI,l.length=tot (fun _=>1) l:=fun l=>by rw [vA];omega
 have hC:(cJ p sz H).Code.length=(dM (dF p H sz) [] (bI (bN p))).length:=a0N _
 have h1:=aDm (μ:=fun _=>1) (fun n l=>by rw [<- hl,<- hl,kX]) (bk:=dF p H sz) (bI (bN p)) []
 rw [<- hl,<- aBN _ T.map,qO]at h1
 have e1:tot (fun r:Int × E=>tot (fun _=>1) (dF p H sz r.1)) (rsE p H)=tot (fun r=>(cq p H r).length+1) (rsE p H):=gF fun r hr=>by rw [T.bk hr,<- hl,a0L,a0S]
 have e3:(rsE p H).length=(bN p).length:=by
  have:=T.map.length_eq;rw [a0N,(kJ _).length_eq]at this;exact this
 have e4:tot (fun r=>(cq p H r).length) (rsE p H)=(cq p H (cD p)).length+tot (fun r=>(cq p H r).length) (RTe p H (cD p)):=rfl
 have h2:=aFV H (cD p) T.t T.a
 have h3:(LN p H (cD p)).length=p.AH.length:=by
  have:=T.nodes.length_eq;unfold fB at this;rw [a0N,a0N,a0P]at this;exact this
 rw [e1,uU,vA 1 (rsE p H),e3,e4]at h1
 have h4:tot (fun _:AI=>1) []=0:=rfl
 omega
open Go.SX Go.SW Go.Dt
theorem aHm {ch:List Ar} {a:Int}:∀ (js AB:List Int) (u u':List Bool),jD ch a AB js u=some u'->jZ ch a AB js/\u'.length=u.length/\∀ i:Nat,u'[i]? =some true->u[i]? =some true\/(i:Int)∈js
 | [],AB,u,u',h=>by
  simp only [jD,a1M]at h;subst h;exact⟨trivial,rfl,fun i h=> .inl h⟩
 | c :: js,AB,u,u',h=>by
  simp only [jD]at h;cases hc:idx ch c with
  | none=>rw [hc]at h;cases h
  | some y=>
   rw [hc]at h;dsimp only at h
   split at h
   ·rename_i g;obtain⟨h1,h2,h3⟩:=aHm js _ _ _ h;have hl:=nT hc;refine⟨⟨⟨hl.1,hl.2,⟨y,Go.SW.idx_get hc,g.1⟩,g.2⟩,h1⟩,by rw [h2,a0R],fun i hi=>?_⟩
    rcases h3 i hi with q | q
    ·by_cases e:i=c.toNat
     ·exact .inr (by rw [e,Int.toNat_of_nonneg hl.1];exact .head _)
     ·rw [a0I (fun z=>e z.symm)]at q;exact .inl q
    ·exact .inr (.tail _ q)
   ·cases h
theorem aGQ {ch:List Ar} {n:Nat}:∀ (rs:List Al) (u u':List Bool),gR ch n rs u=some u'->(∀ r∈rs,okR n ch r)/\u'.length=u.length/\∀ i:Nat,u'[i]? =some true->u[i]? =some true\/∃ r∈rs,(i:Int)∈r.AZ
 | [],u,u',h=>by
  simp only [gR,a1M]at h;subst h;exact⟨fun r h=>(by cases h),rfl,fun i h=> .inl h⟩
 | r :: rs,u,u',h=>by
  simp only [gR]at h;split at h
  ·rename_i g;cases hj:jD ch r.At [] r.AZ u with
   | none=>rw [hj]at h;cases h
   | some w=>
    rw [hj,bsm]at h;obtain⟨a1,a2,a3⟩:=aHm _ _ _ _ hj;obtain⟨b1,b2,b3⟩:=aGQ rs _ _ h;refine⟨fun x hx=>?_,by rw [b2,a2],fun i hi=>?_⟩
    ·rcases a1d.1 hx with e | hx
     ·rw [e];exact⟨g,a1⟩
     ·exact b1 x hx
    ·rcases b3 i hi with q | ⟨x,x1,x2⟩
     ·rcases a3 i q with q | q
      ·exact .inl q
      ·exact .inr ⟨r, .head _,q⟩
     ·exact .inr ⟨x, .tail _ x1,x2⟩
  ·cases h
theorem aGb {v:Int->Int}:∀ (l:List As) (i:Nat),iT i l=true->lC i (l.map (ptS v))
 | [],_,_=>trivial
 | s :: l,i,h=>by
  simp only [iT,a0g,a1T]at h;exact⟨h.1,aGb l (i+1) h.2⟩
theorem okD_pt {v:Int->Int} {d:AN} (h:cR d=true):okD (ptD v d):=by
 obtain⟨h1,h2,h3,u,h4,h5⟩:=aEa h
 obtain⟨a1,a2,a3⟩:=aGQ _ _ _ h4
 have hs:(ptD v d).AP.length=d.AP.length:=a0N _
 have hr:(ptD v d).AO.length=d.AO.length:=a0N _
 refine⟨⟨h1.1,by rw [hs];exact h1.2.1,by rw [hr];exact h1.2.2⟩,fun c hc=>?_,aGb _ _ h3,fun r hr'=>?_,fun i hi=>?_⟩
 ·have:=h2 c hc;unfold fN at this;rw [hs];exact of_decide_eq_true this
 ·obtain⟨q,hq,rfl⟩:=a1h.1 hr';rw [hs];exact a1 q hq
 ·have hi:i<d.AQ.length:=hi;have hu:i<u.length:=by rw [a2,a0Q];exact hi
  have ht:u[i]? =some true:=by
   rw [a0E hu];have:=a0p.1 h5 _ (List.getElem_mem hu);exact congrArg some this
  rcases a3 i ht with q | ⟨r,r1,r2⟩
  ·rw [List.getElem?_replicate]at q;split at q <;> cases q
  ·exact⟨ptR v r,a1h.2 ⟨r,r1,rfl⟩,r2⟩
def vO (p:AL) (sz:List Int) (H:Nat) (b:Int):Int:=((stM (dF p H sz) aE.none [] (bI (bN p))).get b).getD 0
theorem codeOf_v {p:AL} {sz:List Int} {H:Nat}:cJ p sz H=⟨p.AF.length,p.AE.map (ptD (vO p sz H)),(dM (dF p H sz) [] (bI (bN p))).map (pat (vO p sz H)),vO p sz H p.AG⟩:=rfl
theorem vO_ok {p:AL} {sz:List Int} {H:Nat} (T:Tf p sz H):(∀ b∈bN p,∃ k:Nat,vO p sz H b=(k:Int)/\k<(cJ p sz H).Code.length/\(0<k->∃ q,(cJ p sz H).Code[k - 1]? =some q/\q.Op=16))/\(∀ b∈bN p,∀ d∈bN p,vO p sz H b=vO p sz H d->b=d)/\jC (cJ p sz H).Code=true:=by
 have hS:=aBn (bk:=dF p H sz) wQ (bI (bN p)) aE.none [] T.snd
 have hC:(cJ p sz H).Code=(dM (dF p H sz) [] (bI (bN p))).map (pat (vO p sz H)):=rfl
 have hm:∀ b,b∈bN p->b∈bI (bN p):=fun b hb=>(kJ _).mem_iff.2 hb
 have hget:∀ {i:Nat} {q:AI},(dM (dF p H sz) [] (bI (bN p)))[i]? =some q->q.Op=16->∃ q,(cJ p sz H).Code[i]? =some q/\q.Op=16:=fun {i q} h1 h2=>⟨_,by rw [hC,a0G,h1];rfl,by rw [aAI.1];exact h2⟩
 refine⟨fun b hb=>?_,fun b hb d hd e=>?_,?_⟩
 ·obtain⟨k,k1,_,_,k3,k4⟩:=hS.at_ b (hm b hb);obtain⟨t,ht⟩:=wQ (p:=p) (H:=H) (sz:=sz) b;rw [ht,a0L,a0S]at k3;refine⟨k,by unfold vO;rw [k1];rfl,by rw [hC,a0N];omega,fun hk=>?_⟩
  rcases k4 with g | ⟨q,q1,q2⟩
  ·rw [g]at hk;exact absurd hk (by simp)
  ·exact hget q1 q2
 ·obtain⟨k,k1,_⟩:=hS.at_ b (hm b hb);obtain⟨l,l1,_⟩:=hS.at_ d (hm d hd);refine hS.inj b (hm b hb) d (hm d hd) ?_;unfold vO at e;rw [k1,l1]at e ⊢;exact congrArg some e
 ·have hne:bI (bN p)≠[]:=fun h=>by
   have:=(kJ (bN p)).length_eq;rw [h]at this;simp [bN]at this
  obtain⟨q,q1,q2⟩:=hS.last hne;obtain⟨q',q3,q4⟩:=hget q1 q2;have hl:(dM (dF p H sz) [] (bI (bN p))).length=(cJ p sz H).Code.length:=by rw [hC,a0N]
  rw [hl]at q3;rw [aDi q3];exact a1S q4
theorem bgD_pt {v:Int->Int} {d:AN}:bgD (ptD v d)=(fW d).map v:=by
 unfold bgD ptD fW
 simp [a0U,Function.comp_def,ptS,ptR]
theorem bgs_perm {p:AL} {sz:List Int} {H:Nat} (T:Tf p sz H):(bgs (cJ p sz H)).Perm ((bN p).map (vO p sz H)):=by
 rw [codeOf_v]
 unfold bgs bN
 dsimp only
 rw [a0W,a0U,aD5]
 have e:(p.AE.map (ptD (vO p sz H))).flatMap bgD=(p.AE.flatMap fW).map (vO p sz H):=by
  rw [List.flatMap_map,a0X];exact zT fun d _=>bgD_pt
 rw [e]
 exact(((on_perm T).map _).append_left _).cons _
theorem aJK {p:AL} {sz:List Int} {H:Nat} (hF:Fd p sz H) (T:Tf p sz H):aAd (cJ p sz H):=by
 obtain⟨lv,hm,hlv,hr⟩:=lv_all T
 obtain⟨v1,v2,v3⟩:=vO_ok T
 have hrl:(bN p).length<=60:=by
  have:=aCk (m:=fB p.AH.length) hF.nd fun x hx=>vH.2 (hF.rg x hx)
  unfold fB at this;have h60:=hF.h60;have hnl:=hF.nl
  rw [a0N,a0P]at this;omega
 have hlen:=aKw T (by have h60:=hF.h60;have hnl:=hF.nl;omega) hrl
 have hdl:(cJ p sz H).AE.length=p.AE.length:=a0N _
 have hbp:=bgs_perm T
 have hdp:=ds_perm T
 obtain⟨m,m1,m2,_⟩:=id hm
 have hne:(cJ p sz H).Code≠[]:=fun h=>by rw [h]at m2;cases m2
 refine⟨⟨⟨by show(0:Int)<=p.AF.length;omega,by have:=hF.fl;show(p.AF.length:Int)<=12;omega⟩,by rw [hdl];exact hF.dl,⟨by omega,by omega⟩,by rw [m1];exact⟨by omega,by omega⟩,fun d hd=>?_,⟨⟨aCn.2 fun j i hj=>?_,?_⟩,?_⟩,(aGK hne).2 ⟨?_,fun b hb=>?_,?_,v3⟩⟩,lv_good hm hlv,hr⟩
 ·obtain⟨e,he,rfl⟩:=a1h.1 hd;have hin:∀ b∈fW e,0<=vO p sz H b/\vO p sz H b<((cJ p sz H).Code.length:Int):=fun b hb=>by
   obtain⟨k,k1,k2,_⟩:=v1 b (.tail _ (a1b _ (a1e.2 ⟨e,he,hb⟩)));rw [k1];exact⟨by omega,by omega⟩
  refine⟨okD_pt (hF.ok e he),fun s hs=>?_,fun r hr=>?_⟩
  ·obtain⟨q,hq,rfl⟩:=a1h.1 hs;exact hin _ (a1c _ (a1h.2 ⟨q,hq,rfl⟩))
  ·obtain⟨q,hq,rfl⟩:=a1h.1 hr;exact hin _ (a1b _ (a1h.2 ⟨q,hq,rfl⟩))
 ·obtain⟨n,s,e1,e2,_⟩:=hlv j (a0F.1 hj).1;rw [hj]at e1;cases e1;rw [a1E];exact e2
 ·refine aBD _ _ ?_;rw [a1l];exact hdp.nodup_iff.2 (aAz _)
 ·rw [aF8,a1l,hdp.length_eq,hdl];unfold fB;rw [a0N,a0P]
 ·refine hbp.nodup_iff.2 ?_;rw [List.Nodup,List.pairwise_map];exact List.Pairwise.imp_of_mem (fun {a b} ha hb h e=>h (v2 a ha b hb e)) hF.nd
 ·obtain⟨x,hx,rfl⟩:=a1h.1 (hbp.mem_iff.1 hb);obtain⟨k,k1,k2,k3⟩:=v1 x hx;rw [k1];refine⟨by omega,by omega,fun h=>?_⟩
  obtain⟨q,q1,q2⟩:=k3 (by omega)
  exact⟨q,by rw [show((k:Int) - 1).toNat=k - 1 by omega];exact q1,q2⟩
 ·rw [aFq,aHO T,hbp.length_eq,a0N]
open Go.SX Go.SW Go.Dt
theorem all1 {c:AC} {o:Int} (AD:List AI):∀ (AB:List AI) (k:Nat) (acc:Int),c.Code=AB++AD->AD.length<k->AB.length+AD.length<=3000000->0<=acc->acc+AD.length<=3000000->rJ c o k acc (AB.length:Int)=some (acc+tot (opm o) AD):=by
 induction AD with
 | nil=>
  intro AB k acc h hk _ _ _;obtain _ | k:=k
  ·omega
  rw [rJ,h,a1U (by simp)];simp [tot]
 | cons e AD ih=>
  intro AB k acc h hk hB h0 hA;obtain _ | k:=k
  ·omega
  simp only [a0M]at hk hB hA;rw [rJ,h,a1V (fR _ _ _)];refine b1 (z:=acc+opm o e) ?_ ?_
  ·refine b1 (fD _ _ _) ?_;unfold opm;by_cases g:e.Op=o
   ·rw [a1V g,a1V g];exact b1 (cU (by omega)) rfl
   ·rw [a1U g,a1U g];simp
  refine b1 (cU (by omega)) ?_
  have hb:opm o e<=1:=by unfold opm;split <;> omega
  rw [gH AB e,ih (AB++[e]) k _ (by rw [h];simp) (by omega) (by simp;omega) (by omega) (by omega),tot];congr 1;omega
theorem all_eq2 {AA:Nat} {c:AC} {o:Int} (hf:3000000<AA) (hl:c.Code.length<=1000000):kE AA c o=some (tot (opm o) c.Code:Int):=by
 have:=all1 (c:=c) (o:=o) c.Code [] AA 0 rfl (by omega) (by simp;omega) (by omega) (by omega)
 rw [Int.zero_add]at this
 rw [kE]
 exact b1 this rfl
theorem count1 {p:AL} {o:Int} (AD:List Af):∀ (AB:List Af) (k:Nat) (acc:Int),p.AH=AB++AD->AD.length<k->AB.length+AD.length<=3000000->0<=acc->acc+AD.length<=3000000->rR p o k acc (AB.length:Int)=some (acc+tot (opn o) AD):=by
 induction AD with
 | nil=>
  intro AB k acc h hk _ _ _;obtain _ | k:=k
  ·omega
  rw [rR,h,a1U (by simp)];simp [tot]
 | cons e AD ih=>
  intro AB k acc h hk hB h0 hA;obtain _ | k:=k
  ·omega
  simp only [a0M]at hk hB hA;rw [rR,h,a1V (fR _ _ _)];refine b1 (z:=acc+opn o e) ?_ ?_
  ·refine b1 (fD _ _ _) ?_;unfold opn;by_cases g:e.Op=o
   ·rw [a1V g,a1V g];exact b1 (cU (by omega)) rfl
   ·rw [a1U g,a1U g];simp
  refine b1 (cU (by omega)) ?_
  have hb:opn o e<=1:=by unfold opn;split <;> omega
  rw [gH AB e,ih (AB++[e]) k _ (by rw [h];simp) (by omega) (by simp;omega) (by omega) (by omega),tot];congr 1;omega
theorem aJf {AA:Nat} {p:AL} {o:Int} (hf:3000000<AA) (hl:p.AH.length<=1000000):jH AA p o=some (tot (opn o) p.AH:Int):=by
 have:=count1 (p:=p) (o:=o) p.AH [] AA 0 rfl (by omega) (by simp;omega) (by omega) (by omega)
 rw [Int.zero_add]at this
 rw [jH]
 exact b1 this rfl
theorem fits1 {p:AL} {v:Int->Int} {y:AC × Int} (hy:y.1.AE=p.AE.map (ptD v)) (AD:List AN):∀ (AB:List AN) (k:Nat) (acc:Int),p.AE=AB++AD->AD.length<k->AB.length+AD.length<=3000->(∀ d∈AD,d.AO.length<=30/\d.AP.length<=30)->0<=acc->acc+60*AD.length<=3000000->qY p y k acc (AB.length:Int)=some (.inl (acc+tot (fun d=>(fW d).length) AD)):=by
 induction AD with
 | nil=>
  intro AB k acc h hk _ _ _ _;obtain _ | k:=k
  ·omega
  rw [qY,h,a1U (by simp)];simp [tot]
 | cons e AD ih=>
  intro AB k acc h hk hB hd h0 hA;obtain _ | k:=k
  ·omega
  simp only [a0M]at hk hB hA;have he:=hd e (.head _);have hx:idx p.AE (AB.length:Int)=some e:=by rw [h];exact fD _ _ _
  have hz:idx y.1.AE (AB.length:Int)=some (ptD v e):=by
   rw [hy,h,a0U,a0W];have:=fD (AB.map (ptD v)) (AD.map (ptD v)) (ptD v e)
   rwa [a0N]at this
  have hr:(ptD v e).AO.length=e.AO.length:=a0N _;have hs:(ptD v e).AP.length=e.AP.length:=a0N _;have hbg:(fW e).length=e.AO.length+e.AP.length:=by unfold fW;simp
  rw [qY,a1V (by rw [h];exact fR _ _ _)];refine b1 hx ?_;refine b1 (cU (by omega)) ?_
  refine b1 hx ?_;refine b1 (cU (by omega)) ?_
  refine b1 hz ?_;refine b1 hx ?_;rw [hr,a1U (fun g=>g rfl)];refine b1 hz ?_;refine b1 hx ?_;rw [hs,a1U (fun g=>g rfl)];refine b1 (cU (by omega)) ?_
  rw [gH AB e,ih (AB++[e]) k _ (by rw [h];simp) (by omega) (by simp;omega) (fun d hd'=>hd d (.tail _ hd')) (by omega) (by omega),tot,hbg];congr 2;omega
theorem aJZ (p:AL):(bN p).length=1+tot (opn 6) p.AH+tot (opn 8) p.AH+tot (fun d=>(fW d).length) p.AE:=by
 have hf:∀ {α:Type} (f:α->List Int) (l:List α),(l.flatMap f).length=tot (fun x=>(f x).length) l:=fun f l=>by
  induction l with
  | nil=>rfl
  | cons a l ih=>rw [a0z,a0L,ih];rfl
 have e:tot (fun x=>(goN x).length) p.AH=tot (fun x=>opn 6 x+opn 8 x) p.AH:=gF fun x _=>by
  unfold goN opn;by_cases h6:x.Op=6
  ·simp [h6]
  by_cases h8:x.Op=8
  ·simp [h8]
  simp [h6,h8]
 unfold bN
 rw [a0M,a0L,hf,hf,e,uU];omega
theorem aJT {p:AL} (hp:SmP p) {s:VS} (hs:eO p=some s):∃ H,Fd p s.sz H/\sY F p=some (cJ p s.sz H,0):=by
 obtain⟨H,h⟩:=chk_fd hp hs
 have h60:=h.h60;have hnl:=h.nl;have hdl:=h.dl
 have hszl:s.sz.length=p.AH.length:=by obtain⟨_,_,_,_,_,_,q,_⟩:=aAr hs;exact q
 have e0:=sizes_eq hp hs hszl (by omega)
 have hF:F=4000000:=rfl
 have hrl:(bN p).length<=60:=by
  have:=aCk (m:=fB p.AH.length) h.nd fun x hx=>vH.2 (h.rg x hx)
  unfold fB at this;rw [a0N,a0P]at this;omega
 have hsl:(bI (bN p)).length<=60:=by rw [(kJ _).length_eq];exact hrl
 have hrg:∀ b∈bI (bN p),0<=b/\b<(p.AH.length:Int):=fun b hb=>h.rg b ((kJ _).mem_iff.1 hb)
 have e1:=aKn (AA:=F) h (by omega)
 have e2:=pc1 (AA:=F) h (by omega) (rts:=bI (bN p)) (bI (bN p)) [] F [] aE.none rfl (by omega) (by simp;omega) (by simp;omega) hrg
 generalize hG:stM (dF p H s.sz) aE.none [] (bI (bN p))=G at e2
 have hlen:=aH0 (bk:=dF p H s.sz) (B:=15001) (bI (bN p)) [] fun n hn=>by
  obtain⟨q,c,_,_,hb,hl,_⟩:=blk_ok h (hrg n hn);rw [hb,a0L,a0S];omega
 rw [a0O]at hlen
 generalize hL:dM (dF p H s.sz) [] (bI (bN p))=L at e2 hlen
 have hL2:L.length<=20000000:=by omega
 have e3:=pc2 (x1:=L) (g:=G) L [] F (by simp) (by omega) (by simp;omega)
 have e4:=pc3 (AA:=F) (p:=p) (g:=G) (by omega) p.AE [] F rfl hp.AX (by omega) (by simp;omega)
 simp only [a0O,a0n,a0Z,a1l]at e2 e3 e4
 refine⟨H,h,?_⟩
 rw [sY]
 refine b1 e0 ?_
 rw [a1U (fun g=>g rfl)]
 refine b1 (z:=(L,p.AF,p.AH,p.AE,p.AG,s.sz,G)) ?_ ?_
 ·refine b1 e1 ?_;exact e2
 refine b1 e3 ?_
 refine b1 e4 ?_
 rw [cJ,hG,hL];rfl
theorem none_eq:vQ F ⟨0,[],[],0⟩=some true:=by
 obtain⟨k,hk⟩:∃ k,F=k+1:=⟨3999999,rfl⟩
 rw [hk,vQ]
 refine b1 (z:=true) ?_ rfl
 rw [aA7,a1U (fun g=>g rfl),a1U (fun g=>g rfl),a1U (fun g=>g rfl)]
 refine b1 (z:=true) ?_ ?_
 ·rw [aAR,a1U (fun g=>g rfl),yQ,a1U (by simp)];rfl
 rw [a1Q,zK,a1U (by simp)];rfl
theorem aIf {p:AL} (hp:SmP p):aAG F p=some true:=by
 have hkn:aAV=some true:=rfl
 have hF:F=4000000:=rfl
 have hck:=aIM hp
 rw [aAG]
 cases hs:eO p with
 | none=>
  have e1:sY F p=some (⟨0,[],[],0⟩,2):=by
   rw [sY];refine b1 (psz_none hp hs) ?_;rw [a1V (by decide)]
  rw [hs]at hck;refine b1 e1 ?_;refine b1 hck ?_;rw [a1V (by simp)];refine b1 (z:=true) ?_ rfl;rw [a1V rfl];refine b1 none_eq ?_;rw [a1Q,hkn,bsm]
 | some s=>
  obtain⟨H,h,e1⟩:=aJT hp hs;have T:=chk_tf hs;have hnl:=h.nl;subst hnl;rw [hs]at hck;have hform:=aJK h T;have h60:=h.h60;have hsm:∀ d∈(cJ p s.sz p.AH.length).AE,smD d:=code_sm hp;have hlen:(cJ p s.sz p.AH.length).Code.length<=12000:=hform.1.code.2;have e2:zI F (cJ p s.sz p.AH.length)=some 0:=by
   rcases aIm (AA:=F) (by omega) hlen hsm with⟨_,x,g,_⟩ | ⟨g,_⟩
   ·rw [zI];refine b1 g ?_;rw [a1Q]
   ·exact absurd hform g
  have ha:=fun o=>all_eq2 (AA:=F) (c:=cJ p s.sz p.AH.length) (o:=o) (by omega) (by omega)
  have hc:=fun o=>aJf (AA:=F) (p:=p) (o:=o) (by omega) (by omega)
  have hq:∀ {o k:Int},((o=8/\k=2)\/(o=11/\k=4)\/(o=9/\k=5)\/(o=10/\k=5)\/(o=13/\k=6)\/(o=15/\k=8)\/(o=14/\k=7))->(tot (opm o) (cJ p s.sz p.AH.length).Code:Int)=tot (opn k) p.AH:=fun hh=>by rw [cnt_op T hh]
  have hend:(tot (opm 16) (cJ p s.sz p.AH.length).Code:Int)=(bN p).length:=by rw [aHO T]
  have hbd:∀ o,tot (opn o) p.AH<=60:=fun o=>by
   have:=aCA (f:=opn o) (g:=fun _=>1) (l:=p.AH) fun x _=>by unfold opn;split <;> omega
   rw [vA]at this;omega
  have hb6:=hbd 6;have hb8:=hbd 8
  have hrl:=aJZ p;have hdefs:(cJ p s.sz p.AH.length).AE=p.AE.map (ptD (vO p s.sz p.AH.length)):=rfl;have hfr:(cJ p s.sz p.AH.length).AF=(p.AF.length:Int):=rfl;have hfit:=fits1 (p:=p) (y:=(cJ p s.sz p.AH.length,0)) hdefs p.AE [] F (1+tot (opn 6) p.AH+tot (opn 8) p.AH) rfl (by have:=h.dl;omega) (by have:=h.dl;simp;omega) (fun d hd=>(aDq (h.ok d hd)).2) (by omega) (by have:=h.dl;omega)
  rw [a0O,a0n]at hfit;refine b1 e1 ?_;refine b1 hck ?_;rw [a1U (by simp),a1U (fun g=>g rfl)];refine b1 e2 ?_;rw [a1U (fun g=>g rfl)];rw [a1U (fun g=>g hfr),a1U (fun g=>g (by rw [hdefs,a0N]))];refine b1 (ha 8) ?_;refine b1 (hc 2) ?_;rw [a1U (fun g=>g (hq (by omega)))];refine b1 (ha 11) ?_;refine b1 (hc 4) ?_;rw [a1U (fun g=>g (hq (by omega)))];refine b1 (ha 9) ?_;refine b1 (hc 5) ?_;rw [a1U (fun g=>g (hq (by omega)))];refine b1 (ha 10) ?_;refine b1 (hc 5) ?_;rw [a1U (fun g=>g (hq (by omega)))];refine b1 (ha 14) ?_;refine b1 (hc 7) ?_;rw [a1U (fun g=>g (hq (by omega)))];refine b1 (ha 13) ?_;refine b1 (hc 6) ?_;rw [a1U (fun g=>g (hq (by omega)))];refine b1 (ha 15) ?_;refine b1 (hc 8) ?_;rw [a1U (fun g=>g (hq (by omega)))];refine b1 (hc 6) ?_;refine b1 (cU (by omega)) ?_
  refine b1 (hc 8) ?_;refine b1 (cU (by omega)) ?_
  refine b1 hfit ?_;refine b1 (z:=true) ?_ rfl;refine b1 (ha 16) ?_;rw [hend,hrl,a1V (by omega),hkn,bsm]
open Go.SX Go.SW
theorem aJD {W:World} {a:Addr} {c:Value} (h:W.cell? a=some c):(jS W).cell a=some c:=by
 unfold World.cell? at h
 unfold Mem.cell tO jS
 cases hb:W.heap[a.block]? with
 | none=>rw [hb]at h;cases h
 | some o=>
  rw [hb]at h;cases o with
  | cells c t fr=>
   dsimp only at h ⊢
   first
    | exact h
    | (cases hs:a.spot with
       | none=>rw [hs]at h;simpa using h
       | some s=>rw [hs]at h;simp at h)
  | _=>cases h
theorem aFH {H:Type} {d:DataW H} {l:List (DataW H)} (h:d∈l):Rows.uptoBulk d<=Rows.uptoBulkAll l:=by
 induction l with
 | nil=>cases h
 | cons x r ih=>
  simp only [Rows.uptoBulkAll];cases h with
  | head=>omega
  | tail _ e=>have:=ih e;omega
theorem bulk_one {H:Type} (d:DataW H):1<=Rows.uptoBulk d:=by
 cases d with
 | lit l=>cases l <;> simp [Rows.uptoBulk]
 | _=>simp [Rows.uptoBulk]
section
variable {H:Type} {enc:TypeId × Value->H} {P:Program} {W:World}
def Rd (enc:TypeId × Value->H) (P:Program) (W:World) (n:Nat) {α:Type} (T:Ty α) (t:TypeId) (μ:α->Nat) (S:α->Prop):Prop:=
 ∀ cs x,DataW.trod enc P W 0 (fun _=>true) true n t cs=some x->Rows.uptoBulk x.1<=1048576->∃ a,aX (T.Ao a) (jS W) cs/\μ a<=Rows.uptoBulk x.1/\S a
def RdF (enc:TypeId × Value->H) (P:Program) (W:World) (n:Nat) (fs:List Field) (o e:Nat) {β:Type} (L:β->List AJ) (μ:β->Nat) (S:β->Prop):Prop:=
 ∀ (cs:List Value) xs,cs.length=e->(fs.mapM fun f=>DataW.trod enc P W 0 (fun _=>true) true n f.type ((cs.drop f.offset).take (P.cellsOf f.type)))=some xs->Rows.uptoBulkAll (xs.map (·.1))<=1048576->∃ b,aX (L b) (jS W) (cs.drop o)/\μ b<=Rows.uptoBulkAll (xs.map (·.1))/\S b
theorem oB {α:Type} {T:Ty α} {t:TypeId} {μ:α->Nat} {S:α->Prop}:Rd enc P W 0 T t μ S:=fun cs x h=>by cases h
theorem pT {n e:Nat}:RdF enc P W n [] e e (β:=Unit) (fun _=>[]) (fun _=>0) (fun _=>True):=fun cs xs hl h hb=>⟨(),by rw [a0v (by omega)];rfl,a1F _,trivial⟩
theorem aEF {α β:Type} {f:α->Option β} {x:α} {l:List α} {ys:List β} (h:(x :: l).mapM f=some ys):∃ y r,f x=some y/\l.mapM f=some r/\ys=y :: r:=by
 rw [List.mapM_cons]at h
 cases hx:f x with
 | none=>rw [hx]at h;cases h
 | some y=>
  cases hl:l.mapM f with
  | none=>rw [hx,hl]at h;cases h
  | some r=>rw [hx,hl]at h;cases h;exact⟨y,r,rfl,rfl,rfl⟩
theorem fC {n o e:Nat} {f:Field} {fs:List Field} {α β:Type} {T:Ty α} {μ:α->Nat} {S:α->Prop} {L:β->List AJ} {ν:β->Nat} {R:β->Prop} (h:Rd enc P W n T f.type μ S) (ho:f.offset=o) (hz:P.cellsOf f.type=T.sz) (k:RdF enc P W n fs (o+T.sz) e L ν R):
 RdF enc P W n (f :: fs) o e (fun x:α × β=>T.Ao x.1++L x.2) (fun x=>μ x.1+ν x.2) (fun x=>S x.1/\R x.2):=fun cs xs hl hm hb=>by
 obtain⟨y,r,h1,h2,rfl⟩:=aEF hm
 simp only [a0W,Rows.uptoBulkAll]at hb
 obtain⟨a,a1,a2,a3⟩:=h _ _ h1 (by omega)
 obtain⟨b,b1,b2,b3⟩:=k cs r hl h2 (by omega)
 refine⟨(a,b),?_,by simp only [a0W,Rows.uptoBulkAll];omega,a3,b3⟩
 have:=a1.append b1
 rw [ho,hz,<- List.drop_drop,List.take_append_drop]at this
 exact this
theorem pJ {n e:Nat} {α β:Type} {T:Ty α} {t:TypeId} {fs:Array Field} {μ:α->Nat} {S:α->Prop} {L:β->List AJ} {ν:β->Nat} {R:β->Prop} (mk:β->α) (ht:P.underlying t=some (.struct fs)) (hc:P.cellsOf t=e) (k:RdF enc P W n fs.toList 0 e L ν R)
 (hL:∀ b,T.Ao (mk b)=L b) (hμ:∀ b,μ (mk b)<=ν b+1) (hS:∀ b,R b->ν b+1<=1048576->S (mk b)):Rd enc P W (n+1) T t μ S:=fun cs x h hb=>by
 rw [DataW.trod_step]at h
 unfold DataW.trodStep at h
 rw [ht]at h
 dsimp only at h
 split at h
 ·rename_i hcs;cases hm:(fs.toList.mapM fun f=>DataW.trod enc P W 0 (fun _=>true) true n f.type ((cs.drop f.offset).take (P.cellsOf f.type)))with
  | none=>rw [hm]at h;cases h
  | some xs=>
   rw [hm]at h;cases h;simp only [Rows.uptoBulk]at hb;obtain⟨b,b1,b2,b3⟩:=k cs xs (by omega) hm (by omega)
   rw [List.drop_zero]at b1;have:=hμ b;refine⟨mk b,by rw [hL];exact b1,by simp only [Rows.uptoBulk];omega,hS b b3 (by omega)⟩
 ·cases h
theorem rd_int {n:Nat} {t:TypeId} {k:IntKind} (ht:P.underlying t=some (.int k)):Rd enc P W n (cB k) t (fun _=>1) (fun i=>(Lit.int k i).wf=true):=fun cs x h hb=>by
 obtain _ | n:=n
 ·cases h
 rw [DataW.trod_step]at h
 unfold DataW.trodStep at h
 rw [ht]at h
 match cs,h with
 | [.int k' i],h=>
  dsimp only at h
  split at h
  ·rename_i hc;obtain⟨rfl,hw⟩:=hc;cases h;exact⟨i,⟨_,[],rfl,rfl,rfl⟩,a1A _,hw⟩
  ·cases h
theorem rd_str {n:Nat} {t:TypeId} (ht:P.underlying t=some .string):Rd enc P W n aK t (fun s=>s.size+1) (fun s=>s.size<=1048576):=fun cs x h hb=>by
 obtain _ | n:=n
 ·cases h
 rw [DataW.trod_step]at h
 unfold DataW.trodStep at h
 rw [ht]at h
 match cs,h with
 | [.string s],h=>
  dsimp only at h
  split at h
  ·cases h;have e:s.data.toList.length=s.size:=rfl;simp only [Rows.uptoBulk]at hb;exact⟨s,⟨_,[],rfl,rfl,rfl⟩,by simp only [Rows.uptoBulk];omega,by omega⟩
  ·cases h
def msum {α:Type} (μ:α->Nat):List α->Nat
 | []=>0
 | a :: l=>μ a+msum μ l
theorem aE9 {α:Type} {f:Nat->Option α} {n:Nat} {l:List α} (h:(List.range n).mapM f=some l):l.length=n/\∀ i,i<n->∃ y,l[i]? =some y/\f i=some y:=by
 have g:∀ (ks:List Nat) (l:List α),ks.mapM f=some l->l.length=ks.length/\∀ (i k:Nat),ks[i]? =some k->∃ y,l[i]? =some y/\f k=some y:=fun ks=>by
  induction ks with
  | nil=>intro l h;cases h;exact⟨rfl,fun i k h=>by simp at h⟩
  | cons k ks ih=>
   intro l h;obtain⟨y,r,h1,h2,rfl⟩:=aEF h;obtain⟨a,b⟩:=ih r h2;refine⟨by simp [a],fun i q hq=>?_⟩
   cases i with
   | zero=>simp at hq;subst hq;exact⟨y,rfl,h1⟩
   | succ i=>exact b i q (by simpa using hq)
 obtain⟨a,b⟩:=g _ _ h
 exact⟨by simpa using a,fun i hi=>b i i (by simp [hi])⟩
theorem aIY {W:World} {b z:Nat} {a:Addr} {cs:List Value} (h:W.cells? b a z=some cs):∀ (j:Nat) c,cs[j]? =some c->W.cell? (a.add j)=some c:=by
 unfold World.cells? at h
 split at h
 ·obtain⟨h1,h2⟩:=aE9 h;intro j c hj;have:=(a0F.1 hj).1;obtain⟨y,y1,y2⟩:=h2 j (by omega)
  rw [hj]at y1;cases y1;exact y2
 ·cases h
theorem aFy {α γ:Type} {Q:γ->α->Prop}:∀ (l:List γ),(∀ c∈l,∃ a,Q c a)->∃ r:List α,r.length=l.length/\∀ (i:Nat) c,l[i]? =some c->∃ a,r[i]? =some a/\Q c a
 | [],_=>⟨[],rfl,fun i c h=>by simp at h⟩
 | c :: l,h=>by
  obtain⟨a,ha⟩:=h c (.head _);obtain⟨r,h1,h2⟩:=aFy l (fun c hc=>h c (.tail _ hc))
  refine⟨a :: r,by simp [h1],fun i q hq=>?_⟩
  cases i with
  | zero=>simp at hq;subst hq;exact⟨a,rfl,ha⟩
  | succ i=>exact h2 i q (by simpa using hq)
theorem aEe {α:Type} {μ:α->Nat}:∀ {r:List α} {ds:List (DataW H)},r.length=ds.length->(∀ (i:Nat) d a,ds[i]? =some d->r[i]? =some a->μ a<=Rows.uptoBulk d)->msum μ r<=Rows.uptoBulkAll ds/\r.length<=Rows.uptoBulkAll ds
 | [],[],_,_=>⟨a1F _,a1F _⟩
 | a :: r,d :: ds,hl,h=>by
  obtain⟨h1,h2⟩:=aEe (r:=r) (ds:=ds) (by simpa using hl) (fun i d a hd ha=>h (i+1) d a (by simpa using hd) (by simpa using ha))
  have:=h 0 d a rfl rfl;have:=bulk_one d;simp only [msum,Rows.uptoBulkAll,a0M];omega
theorem rd_sl {n:Nat} {t e:TypeId} {α:Type} {T:Ty α} {μ:α->Nat} {S:α->Prop} (ht:P.underlying t=some (.slice e)) (hz:P.cellsOf e=T.sz) (h:Rd enc P W n T e μ S):Rd enc P W (n+1) (tSl T) t (fun l=>msum μ l+1) (fun l=>l.length<=1048576/\∀ a∈l,S a):=fun cs x hx hb=>by
 rw [DataW.trod_step]at hx
 unfold DataW.trodStep at hx
 rw [ht]at hx
 match cs,hx with
 | [.slice none 0 0],hx=>
  cases hx;exact⟨[],⟨_,[],rfl,fF (jS W) _ rfl,rfl⟩,a1A _,by simp,fun a ha=>by cases ha⟩
 | [.slice (some p) len cap],hx=>
  dsimp only at hx
  split at hx
  ·rename_i hc;cases h1:((List.range len).mapM fun i=>(W.cells? 0 (p.add (i*P.cellsOf e)) (P.cellsOf e)).bind (DataW.trod enc P W 0 (fun _=>true) true n e))with
   | none=>rw [h1]at hx;cases hx
   | some es=>
    rw [h1]at hx;obtain⟨rest,_,rfl⟩:=a1I.1 hx;obtain⟨l1,l2⟩:=aE9 h1;simp only [Rows.uptoBulk]at hb;have each:∀ y∈es,∃ a,(μ a<=Rows.uptoBulk y.1/\S a)/\∀ i cs',W.cells? 0 (p.add (i*P.cellsOf e)) (P.cellsOf e)=some cs'->DataW.trod enc P W 0 (fun _=>true) true n e cs'=some y->True:=fun y hy=>by
     obtain⟨i,hi,rfl⟩:=a1f.1 hy;obtain⟨y,y1,y2⟩:=l2 i (by omega)
     obtain⟨cs',c1,c2⟩:=Option.bind_eq_some_iff.1 y2;have e1:es[i]=y:=by rw [a0E hi]at y1;exact a1L y1
     have m1:Rows.uptoBulk y.1<=Rows.uptoBulkAll (es.map (·.1)):=aFH (a1i (by rw [<- e1];exact List.getElem_mem _))
     obtain⟨a,a1,a2,a3⟩:=h _ _ c2 (by omega)
     exact⟨a,⟨by rw [e1];exact a2,a3⟩,fun _ _ _ _=>trivial⟩
    have each2:∀ i∈List.range len,∃ a,(∃ y,es[i]? =some y/\μ a<=Rows.uptoBulk y.1)/\S a/\T.at (jS W) (p.add (i*T.sz)) a:=fun i hi=>by
     obtain⟨y,y1,y2⟩:=l2 i (by simpa using hi)
     obtain⟨cs',c1,c2⟩:=Option.bind_eq_some_iff.1 y2;have m1:Rows.uptoBulk y.1<=Rows.uptoBulkAll (es.map (·.1)):=aFH (a1i (a1j y1));obtain⟨a,a1,a2,a3⟩:=h _ _ c2 (by omega)
     exact⟨a,⟨y,y1,a2⟩,a3,cs',a1,fun j c hj=>by rw [<- hz];exact aJD (aIY c1 j c hj)⟩
    obtain⟨r,r1,r2⟩:=aFy (List.range len) each2;have rl:r.length=len:=by simpa using r1
    have r3:∀ i,i<len->∃ a,r[i]? =some a/\(∃ y,es[i]? =some y/\μ a<=Rows.uptoBulk y.1)/\S a/\T.at (jS W) (p.add (i*T.sz)) a:=fun i hi=>r2 i i (by simp [hi])
    obtain⟨m1,m2⟩:=aEe (μ:=μ) (r:=r) (ds:=es.map (·.1)) (by simp [rl,l1]) (fun i d a hd ha=>by
     obtain⟨a',a1,⟨y,y1,y2⟩,_⟩:=r3 i (by have:=(a0F.1 ha).1;omega)
     rw [ha]at a1;cases a1
     rw [a0G,y1]at hd;cases hd
     exact y2)
    refine⟨r,⟨_,[],rfl,⟨fun i=>p.add (i*T.sz),⟨some p,cap,by rw [rl],by rw [rl];exact hc.2.1,fun i _=>⟨p,rfl,rfl⟩⟩,by omega,fun i a ha=>?_⟩,rfl⟩,by simp only [Rows.uptoBulk];omega,by omega,fun a ha=>?_⟩
    ·obtain⟨a',a1,_,_,a2⟩:=r3 i (by have:=(a0F.1 ha).1;omega)
     rw [ha]at a1;cases a1;exact a2
    ·obtain⟨i,hi,rfl⟩:=a1f.1 ha;obtain⟨a',a1,_,a2,_⟩:=r3 i (by omega)
     rw [a0E hi]at a1;cases a1;exact a2
  ·cases hx
theorem Rd.mono {n:Nat} {α:Type} {T:Ty α} {t:TypeId} {μ ν:α->Nat} {S R:α->Prop} (h:Rd enc P W n T t μ S) (hμ:∀ a,ν a<=μ a) (hS:∀ a,S a->μ a<=1048576->R a):Rd enc P W n T t ν R:=fun cs x hx hb=>by
 obtain⟨a,a1,a2,a3⟩:=h cs x hx hb
 exact⟨a,a1,a1B (hμ a) a2,hS a a3 (by omega)⟩
theorem arg_st {α:Type} {T:Ty α} {t:TypeId} {μ:α->Nat} {S:α->Prop} {fs:Array Field} {r:Reach} {b0:Nat} {v:Value} {d:DataW H} {ps:List MemPlace} (h:∀ n,Rd enc P W n T t μ S) (ht:P.underlying t=some (.struct fs)) (hval:Value.okWide P W r b0 t v)
 (hd:DataW.Trod enc P W 0 (fun _=>true) true t v d ps) (hb:Rows.uptoBulk d<=1048576):∃ a,(fSt T a).p (jS W) v/\S a:=by
 unfold Value.okWide at hval
 rw [ht]at hval
 obtain⟨cs,rfl,_⟩:=hval
 obtain⟨n,hn⟩:=hd
 obtain⟨a,a1,_,a2⟩:=h n _ _ hn hb
 exact⟨a,⟨cs.toList,by simp,a1⟩,a2⟩
end
open Go.SX Go.SW Go.Dt
section
variable {H:Type} {enc:TypeId × Value->H} {W:World}
abbrev RdP (enc:TypeId × Value->H) (W:World) (n:Nat) {α:Type} (T:Ty α) (t:TypeId) (μ:α->Nat) (S:α->Prop):Prop:=Rd enc Tryz.prog W n T t μ S
theorem jA (n:Nat) {t:TypeId} (ht:Tryz.prog.underlying t=some (.int .i64)):RdP enc W n (cB .i64) t (fun _=>1) (fun _=>True):=(rd_int ht).mono (fun _=>a1A _) (fun _ _ _=>trivial)
theorem pH {n:Nat} {t e:TypeId} {α:Type} {T:Ty α} {μ:α->Nat} {S:α->Prop} (ht:Tryz.prog.underlying t=some (.slice e)) (hz:Tryz.prog.cellsOf e=T.sz) (h:∀ k,RdP enc W k T e μ S):RdP enc W n (tSl T) t (fun l=>msum μ l+1) (fun l=>l.length<=1048576/\∀ a∈l,S a):=by
 cases n with
 | zero=>exact oB
 | succ n=>exact rd_sl ht hz (h n)
theorem aGm (n:Nat) {t e:TypeId} (ht:Tryz.prog.underlying t=some (.slice e)) (he:Tryz.prog.underlying e=some (.int .i64)) (hz:Tryz.prog.cellsOf e=1):RdP enc W n (tSl (cB .i64)) t (fun _=>0) (fun l=>l.length<=1048576):=
 (pH ht hz (fun k=>jA k he)).mono (fun _=>a1F _) (fun _ h _=>h.1)
theorem xY:∀ l:List Ah,nL l=msum nE l
 | []=>rfl
 | a :: l=>by simp only [nL,msum,xY l]
theorem aG1 (a b:Int) (c:List Ah):cZ.Ao ⟨a,b,c⟩=[aT .i64 a,aT .i64 b,fSl cZ c]:=by
 show [_,_,gC c]=_
 rw [gZ]
theorem rd_exp:∀ n:Nat,RdP enc W n cZ 143 nE (fun e=>nE e<=1048576)
 | 0=>oB
 | 1=>fun cs x h hb=>(pJ (μ:=nE) (S:=fun e=>nE e<=1048576) (T:=cZ) (fun b:Int × Int × List Ah × Unit=>⟨b.1,b.2.1,b.2.2.1⟩) Tryz.underlying143 (e:=3) (by kernel_rfl)
  (fC (jA 0 Tryz.underlying141) rfl (by kernel_rfl) (fC (jA 0 Tryz.underlying3) rfl (by kernel_rfl) (fC (T:=tSl cZ) (μ:=fun l=>msum nE l+1) (S:=fun _=>True) oB rfl (by kernel_rfl) pT)))
  (fun b=>aG1 b.1 b.2.1 b.2.2.1) (fun b=>by simp only [nE,xY];omega) (fun b _ hb=>by simp only [nE,xY]at *;omega)) cs x h hb
 | n+2=>fun cs x h hb=>(pJ (μ:=nE) (S:=fun e=>nE e<=1048576) (T:=cZ) (fun b:Int × Int × List Ah × Unit=>⟨b.1,b.2.1,b.2.2.1⟩) Tryz.underlying143 (e:=3) (by kernel_rfl)
  (fC (jA _ Tryz.underlying141) rfl (by kernel_rfl) (fC (jA _ Tryz.underlying3) rfl (by kernel_rfl) (fC (rd_sl Tryz.underlying138 (by kernel_rfl) (rd_exp n)) rfl (by kernel_rfl) pT)))
  (fun b=>aG1 b.1 b.2.1 b.2.2.1) (fun b=>by simp only [nE,xY];omega) (fun b _ hb=>by simp only [nE,xY]at *;omega)) cs x h hb
theorem aLn:∀ n:Nat,RdP enc W n aN 140 (fun _=>0) (fun x=>x.Ag.length<=2000000/\x.AW.length<=2000000/\∀ e∈x.Ag,nE e<=2000000)
 | 0=>oB
 | n+1=>pJ (T:=aN) (fun b:Int × Int × List Ah × List Int × Unit=>⟨b.1,b.2.1,b.2.2.1,b.2.2.2.1⟩) Tryz.underlying140 (e:=4) (by kernel_rfl)
  (fC (jA n Tryz.underlying58) rfl (by kernel_rfl) (fC (jA n Tryz.underlying3) rfl (by kernel_rfl) (fC (pH Tryz.underlying138 (by kernel_rfl) rd_exp) rfl (by kernel_rfl) (fC (aGm n Tryz.underlying40 Tryz.underlying3 (by kernel_rfl)) rfl (by kernel_rfl) pT))))
  (fun _=>rfl) (fun _=>a1F _) (fun b h _=>⟨by have:=h.2.2.1.1;show b.2.2.1.length<=_;omega,by have:=h.2.2.2.1;show b.2.2.2.1.length<=_;omega,fun e he=>a1B (h.2.2.1.2 e he) (by omega)⟩)
theorem aJy:∀ n:Nat,RdP enc W n bC 110 (fun _=>0) (fun _=>True)
 | 0=>oB
 | n+1=>pJ (T:=bC) (fun b:Int × Int × Unit=>⟨b.1,b.2.1⟩) Tryz.underlying110 (e:=2) (by kernel_rfl)
  (fC (jA n Tryz.underlying3) rfl (by kernel_rfl) (fC (jA n Tryz.underlying3) rfl (by kernel_rfl) pT))
  (fun _=>rfl) (fun _=>a1F _) (fun _ _ _=>trivial)
theorem aJb:∀ n:Nat,RdP enc W n bD 112 (fun _=>0) (fun _=>True)
 | 0=>oB
 | n+1=>pJ (T:=bD) (fun b:Int × Int × Unit=>⟨b.1,b.2.1⟩) Tryz.underlying112 (e:=2) (by kernel_rfl)
  (fC (jA n Tryz.underlying3) rfl (by kernel_rfl) (fC (jA n Tryz.underlying3) rfl (by kernel_rfl) pT))
  (fun _=>rfl) (fun _=>a1F _) (fun _ _ _=>trivial)
theorem aJA:∀ n:Nat,RdP enc W n bB 114 (fun _=>0) (fun x=>x.AZ.length<=2000000)
 | 0=>oB
 | n+1=>pJ (T:=bB) (fun b:Int × List Int × Int × Unit=>⟨b.1,b.2.1,b.2.2.1⟩) Tryz.underlying114 (e:=3) (by kernel_rfl)
  (fC (jA n Tryz.underlying3) rfl (by kernel_rfl) (fC (aGm n Tryz.underlying40 Tryz.underlying3 (by kernel_rfl)) rfl (by kernel_rfl) (fC (jA n Tryz.underlying3) rfl (by kernel_rfl) pT)))
  (fun _=>rfl) (fun _=>a1F _) (fun b h _=>by have:=h.2.1;show b.2.1.length<=_;omega)
theorem aJs:∀ n:Nat,RdP enc W n aB 63 (fun _=>0) (smDq)
 | 0=>oB
 | n+1=>pJ (T:=aB) (fun b:List Ar × List As × List Al × Unit=>⟨b.1,b.2.1,b.2.2.1⟩) Tryz.underlying63 (e:=3) (by kernel_rfl)
  (fC (pH Tryz.underlying59 (by kernel_rfl) aJy) rfl (by kernel_rfl) (fC (pH Tryz.underlying60 (by kernel_rfl) aJb) rfl (by kernel_rfl) (fC (pH Tryz.underlying61 (by kernel_rfl) aJA) rfl (by kernel_rfl) pT)))
  (fun _=>rfl) (fun _=>a1F _) (fun b h _=>⟨by have:=h.1.1;show b.1.length<=_;omega,by have:=h.2.1.1;show b.2.1.length<=_;omega,by have:=h.2.2.1.1;show b.2.2.1.length<=_;omega,h.2.2.1.2⟩)
theorem aIr:∀ n:Nat,RdP enc W n gL 37 (fun _=>0) (SmP)
 | 0=>oB
 | n+1=>pJ (T:=gL) (fun b:List ByteArray × List Af × List AN × Int × Unit=>⟨b.1,b.2.1,b.2.2.1,b.2.2.2.1⟩) Tryz.underlying37 (e:=4) (by kernel_rfl)
  (fC (pH (S:=fun s:ByteArray=>s.size<=1048576) Tryz.underlying34 (by kernel_rfl) (fun k=>(rd_str (n:=k) Tryz.underlying9))) rfl (by kernel_rfl) (fC (pH Tryz.underlying35 (by kernel_rfl) aLn) rfl (by kernel_rfl) (fC (pH Tryz.underlying22 (by kernel_rfl) aJs) rfl (by kernel_rfl) (fC (jA n Tryz.underlying3) rfl (by kernel_rfl) pT))))
  (fun _=>rfl) (fun _=>a1F _) (fun b h _=>⟨by have:=h.2.1.1;show b.2.1.length<=_;omega,by have:=h.2.2.1.1;show b.2.2.1.length<=_;omega,by have:=h.1.1;show b.1.length<=_;omega,fun x hx=>a1B (h.1.2 x hx) (by omega),h.2.1.2,h.2.2.1.2⟩)
end
end Go.Proofs.YtjahnkcjbglnoaaGreatDoor
namespace Go.SW
open Go.SX
theorem aKa {w w':World} (h:w.keptBut w' (fun _=>False)) {p:MemPlace} (hp:p.block<w.heap.size):w.sameAt w' p:=by
 obtain⟨_,_,h⟩:=h
 cases p with
 | cell b off=>
  have:=h b hp;show w'.cell? _=w.cell? _
  grind [World.cell?]
 | map b=>
  have:=h b hp;show w'.heap[b]? =w.heap[b]?
  cases h1:w.heap[b]? with
  | none=>grind
  | some o=>
   rw [h1]at this;cases o with
   | cells c t fr=>
    cases h2:w'.heap[b]? with
    | none=>grind
    | some o'=>
     rw [h2]at this;cases o' with
     | cells c' t' fr'=>
      dsimp only at this
      obtain⟨rfl,rfl,hs,hc⟩:=this;have:c'=c:=Array.ext_getElem? fun j=>hc j (fun f=>f)
      rw [this]
     | _=>cases this
   | map es clock=>
    grind
   | _=>exact this
theorem aGN {H:Type} {enc:TypeId × Value->H} {P:Program} {W W':World} (hl:laidOutB P=true) (hm:mapsRowed P=true) (hz:∀ t e,t<P.types.size->P.underlying t=some (.slice e)->0<P.cellsOf e) (hk:W.keptBut W' (fun _=>False)):
 ∀ {ts:List TypeId} {vs:List Value} {ds:List (DataW H)} {ps:List MemPlace},(∀ t∈ts,t<P.types.size)->DataW.TrodAll enc P W 0 (fun _=>true) true ts vs ds ps->DataW.TrodAll enc P W' 0 (fun b=>decide (b<W.heap.size)) true ts vs ds ps
 | [],[],[],_,_,h=>h
 | t :: _,_ :: _,_ :: _,ps,ht,h=>by
  have hlt:=h.lt;obtain⟨p,q,⟨n,hn⟩,h2,e⟩:=h;refine⟨p,q,⟨n,?_⟩,aGN hl hm hz hk (fun t h=>ht t (.tail _ h)) h2,e⟩
  have hp:∀ x∈p,x.block<W.heap.size:=by grind
  exact DataW.trod_stays (kids_rows hl hm) (fun a b=>hz _ _ a b) (fun f=>by cases f) (ht t (.head _)) hn (by grind [aKa]) (by grind)
 | [],_ :: _,_,_,_,h=>h.elim
 | [],[],_ :: _,_,_,h=>h.elim
 | _ :: _,[],_,_,_,h=>h.elim
 | _ :: _,_ :: _,[],_,_,h=>h.elim
end Go.SW
