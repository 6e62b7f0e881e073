/- Parts of the proof: lemmas, and the steps through the program. -/
import Derived.Test.YtgidgoahhepmlaaGreatFf4
import Derived.Test.YtgidgoahhepmlaaGreatRows
import Derived.ChangeSame
import Derived.ChangeReads
set_option linter.unusedVariables false
set_option linter.unusedSimpArgs false
set_option maxRecDepth 100000
set_option maxHeartbeats 2000000
namespace Go.Proofs.YtgidgoahhepmlaaGreat
open Go.SX Go.SW Go.Dt
structure VS where
 sz:List Int
 AP:List Bool
 AT:List Bool
def shp (op:Int):Option (Nat × Nat):=
 if op=1\/op=7 then some (0,0) else if op=3 then some (2,0) else if op=2 then some (0,1) else if op=5 then some (2,2) else if op=6\/op=8 then some (1,3) else if op=4 then some (1,4) else none
def okM (p:AI) (s:VS) (x:AW) (size:Int):Nat->Prop
 | 0=>x.N=0/\x.AS.length=0
 | 1=>(0<=x.N/\x.N<size)/\x.AS.length<=3
 | 2=>x.N=0/\x.AS.length=1
 | 3=>(0<=x.N/\x.N<size)/\x.AS.length=0
 | _=>(0<=x.N/\x.N<(p.AE.length:Int)/\idx s.AT x.N=some false)/\x.AS.length=0
def okN (p:AI) (s:VS) (x:AW) (size:Int):Prop:=(∃ k c,shp x.Op=some (k,c)/\x.AN.length=k/\okM p s x size c)/\x.AS.all (okE size)=true
def own (d:AM):Int:=(d.AK.length:Int)+(d.AO.length:Int)
def brs (ch:List Al):List Int->Int
 | []=>0
 | c :: js=>(match idx ch c with | some y=>y.Ak | none=>0)+brs ch js
def cU (g:VS->Int->Int->Option VS):VS->List (Int × Int)->Option VS
 | s,[]=>some s
 | s,x :: l=>(g s x.1 x.2).bind fun s=>cU g s l
open Classical in
noncomputable def vis (p:AI):Nat->VS->Int->Int->Option VS
 | 0,_,_,_=>none
 | f+1,s,n,size=>
  if 0<=n/\n<(p.AD.length:Int)/\idx s.AP n=some false then
   (idx p.AD n).bind fun x=>
   if okN p s x size then
    if x.Op=4 then
     (idx p.AE x.N).bind fun d=>
     if okD d=true then
      (cU (vis p f) ⟨s.sz.set n.toNat size,s.AP.set n.toNat true,s.AT.set x.N.toNat true⟩ (d.AL.map fun r=>(r.AQ,size+own d+brs d.AK r.AU))).bind fun s1=>
      (cU (vis p f) s1 (d.AO.map fun y=>(y.AQ,size+own d))).bind fun s2=>
      cU (vis p f) s2 (x.AN.map fun k=>(k,size+own d))
     else none
    else cU (vis p f) ⟨s.sz.set n.toNat size,s.AP.set n.toNat true,s.AT⟩ (x.AN.map fun k=>(k,size))
   else none
  else none
def unm (s:VS):Nat:=s.AP.countP (fun b=>!b)
structure WS (p:AI) (s:VS):Prop where
 sz:s.sz.length=p.AD.length
 AP:s.AP.length=p.AD.length
 AT:s.AT.length=p.AE.length
structure SmP (p:AI):Prop where
 nodes:p.AD.length<=2000000
 AV:p.AE.length<=2000000
 free:p.AF.length<=2000000
 names:∀ x∈p.AF,x.size<=2000000
 args:∀ x∈p.AD,x.AS.length<=2000000/\x.AN.length<=2000000/\∀ e∈x.AS,nE e<=2000000
 AT:∀ d∈p.AE,smD d
theorem kI {α:Type} {xs:List α} {i:Int} {y:α} (h:idx xs i=some y):y∈xs:=a1h (eW h)
theorem aGi {ch:List Al} {a:Int}:∀ (js AB:List Int) (u u':List Bool),mI ch a AB js u=some u'->∀ c∈js,∃ y,idx ch c=some y
 | [],_,_,_,_,c,h=>by cases h
 | e :: js,AB,u,u',h,c,hc=>by
  simp only [mI]at h;cases he:idx ch e with
  | none=>rw [he]at h;cases h
  | some y=>
   rw [he]at h;dsimp only at h
   split at h
   ·cases hc with
    | head=>exact⟨y,he⟩
    | tail _ hc=>exact aGi js _ _ _ h c hc
   ·cases h
theorem aEq {ch:List Al} {n:Nat}:∀ (rs:List Af) (u u':List Bool),jE ch n rs u=some u'->∀ r∈rs,okR n r/\∀ c∈r.AU,∃ y,idx ch c=some y
 | [],_,_,_,r,h=>by cases h
 | e :: rs,u,u',h,r,hr=>by
  simp only [jE]at h;split at h
  ·rename_i h1;obtain⟨u1,h2,h3⟩:=bind_some h;cases hr with
   | head=>exact⟨h1,aGi _ _ _ _ h2⟩
   | tail _ hr=>exact aEq rs _ _ h3 r hr
  ·cases h
theorem gI {d:AM} (h:okD d=true):d.AK.length<=30/\d.AO.length<=30/\d.AL.length<=30/\(∀ c∈d.AK,0<=c.Ak/\c.Ak<=3)/\∀ r∈d.AL,r.AU.length<=3/\∀ c∈r.AU,∃ y,idx d.AK c=some y/\0<=y.Ak/\y.Ak<=3:=by
 simp only [okD,a0k,a1W]at h
 obtain⟨⟨⟨h1,h2⟩,h3⟩,h4⟩:=h
 have hm:∀ c∈d.AK,0<=c.Ak/\c.Ak<=3:=fun c hc=>by
  have:=of_decide_eq_true (a0t.1 h2 c hc);exact⟨this.2.2.1,this.2.2.2⟩
 refine⟨h1.1,h1.2.1,h1.2.2,hm,fun r hr=>?_⟩
 cases hu:jE d.AK d.AO.length d.AL (List.replicate d.AK.length false)with
 | none=>rw [hu]at h4;cases h4
 | some u=>
  obtain⟨g1,g2⟩:=aEq _ _ _ hu r hr;exact⟨g1.2.2.2,fun c hc=>let ⟨y,hy⟩:=g2 c hc;⟨y,hy,hm y (kI hy)⟩⟩
theorem yW {ch:List Al}:∀ {js:List Int},(∀ c∈js,∃ y,idx ch c=some y/\0<=y.Ak/\y.Ak<=3)->0<=brs ch js/\brs ch js<=3*js.length
 | [],_=>by simp [brs]
 | c :: js,h=>by
  obtain⟨y,h1,h2,h3⟩:=h c (.head _);have:=yW (js:=js) fun c hc=>h c (.tail _ hc)
  simp only [brs,h1,a0R];omega
theorem aIG {ch:List Al} {sp:List Aj} {ru:List Af} {a nd:Int} (AC:List Int):∀ (AB:List Int) (k:Nat) (w:Int),AC.length<k->AB.length+AC.length<=1000->0<=w->w<=100000->(∀ c∈AC,∃ y,idx ch c=some y/\0<=y.Ak/\y.Ak<=3)->w+3*AC.length<=100000 ->
 oK ⟨ch,sp,ru⟩ ⟨a,AB++AC,nd⟩ k w AB.length=some (w+brs ch AC):=by
 induction AC with
 | nil=>
  intro AB k w hk _ _ _ _ _;obtain _ | k:=k
  ·omega
  rw [oK,a1X (by simp)];simp [brs]
 | cons e AC ih=>
  intro AB k w hk hB h0 h1 hm hw;obtain _ | k:=k
  ·omega
  simp only [a0R]at hk hB hw;obtain⟨y,g1,g2,g3⟩:=hm e (.head _);rw [oK,a1Y (bC _ _ _)];dsimp only
  rw [bE,bsm,g1,bsm,aR (by omega),bsm,aR (by omega),bsm,bL AB AC e,bB AB e,ih (AB++[e]) k _ (by omega) (by simp;omega) (by omega) (by omega) (fun c hc=>hm c (.tail _ hc)) (by omega)];simp only [brs,g1];congr 1;omega
theorem aHO {AA:Nat} {d:AM} {r:Af} (hf:3000<=AA) (h:okD d=true) (hr:r∈d.AL):xS AA d r=some (brs d.AK r.AU):=by
 obtain⟨_,_,_,_,h5⟩:=gI h
 obtain⟨g1,g2⟩:=h5 r hr
 have:=aIG (ch:=d.AK) (sp:=d.AO) (ru:=d.AL) (a:=r.At) (nd:=r.AQ) r.AU [] AA 0 (by omega) (by simp;omega) (by omega) (by omega) g2 (by omega)
 simp only [a1j,a0V,a0q]at this
 rw [xS,this,bsm];congr 1;omega
def jC (p:AI) (o:Option VS):AX ⊕ Value:=match o with
 | some s=> .inl ⟨p,s.sz,s.AP,s.AT⟩
 | none=> .inr flaw
structure Vis (p:AI) (f:Nat) (rec:AX->Int->Int->Option (AX ⊕ Value)):Prop where
 run:∀ (s:VS) (n z:Int),WS p s->unm s<=f->0<=z->z+80*f<=100000->rec ⟨p,s.sz,s.AP,s.AT⟩ n z=some (jC p (vis p f s n z))
structure VisO (p:AI) (f:Nat):Prop where
 out:∀ (s:VS) (n z:Int) (s':VS),WS p s->unm s<=f->vis p f s n z=some s'->WS p s'/\unm s'+1<=unm s
theorem lT {p:AI} {f:Nat} (h:VisO p f):∀ (l:List (Int × Int)) (s s':VS),WS p s->unm s<=f->cU (vis p f) s l=some s'->WS p s'/\unm s'<=unm s
 | [],s,s',hs,_,e=>by cases e;exact⟨hs,a1B _⟩
 | x :: l,s,s',hs,hu,e=>by
  obtain⟨s1,e1,e2⟩:=bind_some e;obtain⟨h1,h2⟩:=h.out _ _ _ _ hs hu e1;obtain⟨h3,h4⟩:=lT h l s1 s' h1 (by omega) e2
  exact⟨h3,by omega⟩
section
variable {p:AI} {f:Nat} {rec:AX->Int->Int->Option (AX ⊕ Value)}
theorem ln4 (hv:Vis p f rec) (ho:VisO p f) {op nn:Int} {ar:List AR} {z:Int} (hz:0<=z/\z+80*f<=100000) (AC:List Int):∀ (AB:List Int) (k:Nat) (s:VS),AC.length<k->AB.length+AC.length<=3000000->WS p s->unm s<=f ->
 mN rec ⟨op,nn,ar,AB++AC⟩ z k AB.length p.AF p.AD p.AE p.AG s.sz s.AP s.AT=some (jC p (cU (vis p f) s (AC.map fun k=>(k,z)))):=by
 induction AC with
 | nil=>
  intro AB k s hk _ hs hu;obtain _ | k:=k
  ·omega
  rw [mN,a1X (by simp)];rfl
 | cons e AC ih=>
  intro AB k s hk hB hs hu;obtain _ | k:=k
  ·omega
  simp only [a0R]at hk hB;rw [mN,a1Y (bC _ _ _)];dsimp only
  rw [bE,bsm];have h1:=hv.run s e z hs hu hz.1 hz.2;rw [show(⟨⟨p.AF,p.AD,p.AE,p.AG⟩,s.sz,s.AP,s.AT⟩:AX)=⟨p,s.sz,s.AP,s.AT⟩from rfl,h1,bsm];simp only [a0Y,cU];cases hc:vis p f s e z with
  | none=>rfl
  | some s1=>
   obtain⟨h2,h3⟩:=ho.out _ _ _ _ hs hu hc;simp only [jC];rw [aR (by omega),bsm,bL AB AC e,bB AB e,bsm];exact ih (AB++[e]) k s1 (by omega) (by simp;omega) h2 (by omega)
theorem ln3 (hv:Vis p f rec) (ho:VisO p f) {ch:List Al} {ru:List Af} {z:Int} (hz:0<=z/\z+80*f<=100000) (AC:List Aj):∀ (AB:List Aj) (k:Nat) (s:VS),AC.length<k->AB.length+AC.length<=3000000->WS p s->unm s<=f ->
 lY rec ⟨ch,AB++AC,ru⟩ z k AB.length p.AF p.AD p.AE p.AG s.sz s.AP s.AT=some (match cU (vis p f) s (AC.map fun y=>(y.AQ,z))with
  | some s'=> .inl (z,p.AF,p.AD,p.AE,p.AG,s'.sz,s'.AP,s'.AT)
  | none=> .inr (.inr flaw)):=by
 induction AC with
 | nil=>
  intro AB k s hk _ hs hu;obtain _ | k:=k
  ·omega
  rw [lY,a1X (by simp)];rfl
 | cons e AC ih=>
  intro AB k s hk hB hs hu;obtain _ | k:=k
  ·omega
  simp only [a0R]at hk hB;rw [lY,a1Y (bC _ _ _)];dsimp only
  rw [bE,bsm];have h1:=hv.run s e.AQ z hs hu hz.1 hz.2;rw [show(⟨⟨p.AF,p.AD,p.AE,p.AG⟩,s.sz,s.AP,s.AT⟩:AX)=⟨p,s.sz,s.AP,s.AT⟩from rfl,h1,bsm];simp only [a0Y,cU];cases hc:vis p f s e.AQ z with
  | none=>rfl
  | some s1=>
   obtain⟨h2,h3⟩:=ho.out _ _ _ _ hs hu hc;simp only [jC];rw [aR (by omega),bsm,bL AB AC e,bB AB e,bsm];exact ih (AB++[e]) k s1 (by omega) (by simp;omega) h2 (by omega)
theorem ln2 (hv:Vis p f rec) (ho:VisO p f) {AA:Nat} {d:AM} (hd:okD d=true) (hf:3000<=AA) {z:Int} (hz:0<=z/\z+9+80*f<=100000) (AC:List Af):∀ (AB:List Af) (k:Nat) (s:VS),d.AL=AB++AC->AC.length<k->AB.length+AC.length<=3000000->WS p s->unm s<=f ->
 lW AA rec d z k AB.length p.AF p.AD p.AE p.AG s.sz s.AP s.AT=some (match cU (vis p f) s (AC.map fun r=>(r.AQ,z+brs d.AK r.AU))with
  | some s'=> .inl (p.AF,p.AD,p.AE,p.AG,s'.sz,s'.AP,s'.AT)
  | none=> .inr (.inr (.inr flaw))):=by
 induction AC with
 | nil=>
  intro AB k s he hk _ hs hu;obtain _ | k:=k
  ·omega
  rw [lW,he,a1X (by simp)];rfl
 | cons e AC ih=>
  intro AB k s he hk hB hs hu;obtain _ | k:=k
  ·omega
  simp only [a0R]at hk hB;have hmem:e∈d.AL:=by rw [he];simp
  obtain⟨_,_,_,_,h5⟩:=gI hd;obtain⟨g1,g2⟩:=h5 e hmem;have hb:=yW g2;rw [lW,he,a1Y (bC _ _ _),<- he,show idx d.AL (AB.length:Int)=some e from by rw [he];exact bE _ _ _,bsm,
   show(⟨e.At,e.AU,e.AQ⟩:Af)=e from rfl,show(⟨d.AK,d.AO,d.AL⟩:AM)=d from rfl,aHO hf hd hmem,bsm,aR (by omega),bsm]
  have h1:=hv.run s e.AQ (z+brs d.AK e.AU) hs hu (by omega) (by omega)
  rw [show(⟨⟨p.AF,p.AD,p.AE,p.AG⟩,s.sz,s.AP,s.AT⟩:AX)=⟨p,s.sz,s.AP,s.AT⟩from rfl,h1,bsm];simp only [a0Y,cU];cases hc:vis p f s e.AQ (z+brs d.AK e.AU)with
  | none=>rfl
  | some s1=>
   obtain⟨h2,h3⟩:=ho.out _ _ _ _ hs hu hc;simp only [jC];rw [aR (by omega),bsm,bB AB e,bsm];exact ih (AB++[e]) k s1 (by rw [he];simp) (by omega) (by simp;omega) h2 (by omega)
end
theorem ln1 {AA:Nat} (hf:3000000<=AA) {op nn:Int} {ks:List Int} {z:Int} (AC:List AR):∀ (AB:List AR) (k:Nat),AC.length<k->AB.length+AC.length<=3000000->(∀ e∈AC,nE e<=2000000) ->
 lR AA z ⟨op,nn,AB++AC,ks⟩ k AB.length=some (if AC.all (okE z)=true then .inl () else .inr (.inr flaw)):=by
 induction AC with
 | nil=>
  intro AB k hk _ _;obtain _ | k:=k
  ·omega
  rw [lR,a1X (by simp),a1Y (by rfl)]
 | cons e AC ih=>
  intro AB k hk hB he;obtain _ | k:=k
  ·omega
  simp only [a0R]at hk hB;have hn:=he e (.head _);rw [lR,a1Y (bC _ _ _),show(e :: AC).all (okE z)=(okE z e && AC.all (okE z))from rfl];dsimp only
  rw [bE,bsm,pK,exp_eq (by omega) (by omega),bsm];cases h1:okE z e with
  | false=>rfl
  | true=>
   rw [a0p,a1Y rfl];dsimp only
   rw [aR (by omega),bsm,bL AB AC e,bB AB e];exact ih (AB++[e]) k (by omega) (by simp;omega) (fun x hx=>he x (.tail _ hx))
open Go.SX Go.SW Go.Dt
theorem aBX {s:VS} {p:AI} {n:Int} {z:Int} {AT:List Bool} (h0:0<=n) (hm:idx s.AP n=some false):unm ⟨s.sz.set n.toNat z,s.AP.set n.toNat true,AT⟩+1=unm s:=by
 obtain⟨j,rfl,hj,hlt⟩:=uQ hm
 simp only [unm,a0r]
 rw [List.countP_set (h:=hlt)]
 have hv:s.AP[j]=false:=by
  have:=a0I hlt;rw [hj]at this;exact(a1O this).symm
 have hpos:0<s.AP.countP (fun b=>!b):=List.countP_pos_iff.2 ⟨s.AP[j],List.getElem_mem hlt,by rw [hv];rfl⟩
 rw [hv];simp;omega
theorem sF {p:AI} {s:VS} (h:WS p s) {i j:Nat} {z:Int}:WS p ⟨s.sz.set i z,s.AP.set i true,s.AT⟩/\WS p ⟨s.sz.set i z,s.AP.set i true,s.AT.set j true⟩:=
 ⟨⟨by simp [h.sz],by simp [h.AP],h.AT⟩,⟨by simp [h.sz],by simp [h.AP],by simp [h.AT]⟩⟩
theorem visO (p:AI) (f:Nat):VisO p f:=by
 induction f with
 | zero=>exact⟨fun s n z s' _ _ h=>by simp [vis]at h⟩
 | succ f ih=>
  refine⟨fun s n z s' hs hu h=>?_⟩
  simp only [vis]at h;split at h
  ·rename_i hc;obtain⟨x,_,h⟩:=bind_some h;have hun:=fun AT=>aBX (p:=p) (z:=z) (AT:=AT) hc.1 hc.2.2
   split at h
   ·split at h
    ·obtain⟨d,_,h⟩:=bind_some h;split at h
     ·obtain⟨s1,e1,h⟩:=bind_some h;obtain⟨s2,e2,e3⟩:=bind_some h;have:=hun (s.AT.set x.N.toNat true);obtain⟨a1,a2⟩:=lT ih _ _ _ (sF hs).2 (by omega) e1
      obtain⟨b1,b2⟩:=lT ih _ _ _ a1 (by omega) e2
      obtain⟨c1,c2⟩:=lT ih _ _ _ b1 (by omega) e3
      exact⟨c1,by omega⟩
     ·cases h
    ·have:=hun s.AT;obtain⟨a1,a2⟩:=lT ih _ _ _ (sF hs (j:=0)).1 (by omega) h
     exact⟨a1,by omega⟩
   ·cases h
  ·cases h
def kW (AA:Nat) (a0:AX) (a1 a2:Int) (y7:AW) (x2:Int):Option (AX ⊕ Value):=
 (bN (decide ((y7.AS.length:Int)=x2))).bind fun y26=>
 match y26 with
 | Sum.inr pv15=>some (Sum.inr pv15)
 | Sum.inl _=>
 (lR AA a2 y7 AA 0).bind fun o=>match o with
 | Sum.inr r=>some r
 | Sum.inl _=>
 (if y7.Op=4 then
  (idx a0.AV y7.N).bind fun _=>
  (idx a0.p.AE y7.N).bind fun y30=>
  (uD AA (⟨y30.AK,y30.AO,y30.AL⟩:AM)).bind fun y31=>
  match y31 with
  | Sum.inr pv17=>(some (Sum.inr pv17)).bind fun r=>some (Sum.inr r)
  | Sum.inl _=>
  (vI (⟨y30.AK,y30.AO,y30.AL⟩:AM)).bind fun y32=>
  (chk (a2+y32)).bind fun z2=>
  (lW AA (eT AA) y30 z2 AA 0 a0.p.AF a0.p.AD a0.p.AE a0.p.AG (a0.AY.set a1.toNat a2) (a0.AP.set a1.toNat true) (a0.AV.set y7.N.toNat true)).bind fun o=>match o with
  | Sum.inr r=>some r
  | Sum.inl (x17,x18,x19,x20,x21,x22,x23)=>
  lY (eT AA) y30 z2 AA 0 x17 x18 x19 x20 x21 x22 x23
 else
  some (Sum.inl (a2,a0.p.AF,a0.p.AD,a0.p.AE,a0.p.AG,a0.AY.set a1.toNat a2,a0.AP.set a1.toNat true,a0.AV))).bind fun o=>match o with
 | Sum.inr r=>some r
 | Sum.inl (x9,x10,x11,x12,x13,x14,x15,x16)=>
 mN (eT AA) y7 x9 AA 0 x10 x11 x12 x13 x14 x15 x16
theorem own_eq {d:AM} (h:d.AK.length<=2000000) (h2:d.AO.length<=2000000):vI d=some (own d):=by
 rw [vI,aR (by omega),bsm];rfl
section
variable {p:AI} {f m:Nat}
noncomputable def rest (p:AI) (f:Nat) (s:VS) (n z:Int) (x:AW):Option VS:=
 if x.Op=4 then
  (idx p.AE x.N).bind fun d=>
  if okD d=true then
   (cU (vis p f) ⟨s.sz.set n.toNat z,s.AP.set n.toNat true,s.AT.set x.N.toNat true⟩ (d.AL.map fun r=>(r.AQ,z+own d+brs d.AK r.AU))).bind fun s1=>
   (cU (vis p f) s1 (d.AO.map fun y=>(y.AQ,z+own d))).bind fun s2=>
   cU (vis p f) s2 (x.AN.map fun k=>(k,z+own d))
  else none
 else cU (vis p f) ⟨s.sz.set n.toNat z,s.AP.set n.toNat true,s.AT⟩ (x.AN.map fun k=>(k,z))
theorem tail_bad {a0:AX} {n z:Int} {x:AW} {x2:Int} (h:¬ (x.AS.length:Int)=x2):kW m a0 n z x x2=some (.inr flaw):=by
 rw [kW,a1U h,dA];rfl
theorem tail_eq (hp:SmP p) (hm:3000000<=m) (hv:Vis p f (eT m)) {s:VS} (hs:WS p s) {n z:Int} {x:AW} (hx:x∈p.AD) (hun:∀ AT,unm ⟨s.sz.set n.toNat z,s.AP.set n.toNat true,AT⟩<=f) (hz:0<=z/\z+69+80*f<=100000)
 (hN:x.Op=4->0<=x.N/\x.N<(p.AE.length:Int)) {x2:Int} (h2:(x.AS.length:Int)=x2):
 kW m ⟨p,s.sz,s.AP,s.AT⟩ n z x x2=some (jC p (if x.AS.all (okE z)=true then rest p f s n z x else none)):=by
 obtain⟨op,nn,ar,ks⟩:=x
 obtain⟨g1,g2,g3⟩:=hp.args _ hx
 dsimp only at g1 g2 g3 h2 hN
 have ho:=visO p f
 rw [kW,a1V h2,eH,bsm]
 dsimp only
 have e1:=ln1 (AA:=m) hm (op:=op) (nn:=nn) (ks:=ks) (z:=z) ar [] m (by omega) (by simp;omega) g3
 simp only [a1j,a0V,a0q]at e1
 rw [e1,bsm]
 cases hall:ar.all (okE z)with
 | false=>rfl
 | true=>
  rw [a1Y rfl,a1Y rfl];dsimp only
  by_cases h4:op=4
  ·subst h4;obtain⟨n0,n1⟩:=hN rfl;obtain⟨d,hd⟩:=eY n0 n1;obtain⟨b,hb⟩:=eY (xs:=s.AT) n0 (by rw [hs.AT];exact n1)
   have hsm:=hp.AT d (kI hd);have hres:rest p f s n z ⟨4,nn,ar,ks⟩=if okD d=true then
    (cU (vis p f) ⟨s.sz.set n.toNat z,s.AP.set n.toNat true,s.AT.set nn.toNat true⟩ (d.AL.map fun r=>(r.AQ,z+own d+brs d.AK r.AU))).bind fun s1=>
    (cU (vis p f) s1 (d.AO.map fun y=>(y.AQ,z+own d))).bind fun s2=>cU (vis p f) s2 (ks.map fun k=>(k,z+own d))
    else none:=by
    rw [rest,a1Y rfl];dsimp only;rw [hd,bsm]
   rw [hres,a1Y rfl,hb,bsm,hd,bsm,show(⟨d.AK,d.AO,d.AL⟩:AM)=d from rfl,def_eq hm hsm,bsm];cases hok:okD d with
   | false=>rfl
   | true=>
    rw [a1Y rfl,a1Y rfl];dsimp only
    obtain⟨k1,k2,k3,_,_⟩:=gI hok;have hown:0<=own d/\own d<=60:=by unfold own;omega
    rw [own_eq (by omega) (by omega),bsm,aR (by omega),bsm];have e2:=ln2 hv ho (AA:=m) hok (by omega) (z:=z+own d) ⟨by omega,by omega⟩ d.AL [] m ⟨s.sz.set n.toNat z,s.AP.set n.toNat true,s.AT.set nn.toNat true⟩ rfl (by omega) (by simp;omega) (sF hs).2 (hun _)
    simp only [a0V,a0q]at e2;rw [e2,bsm];cases c2:cU (vis p f) ⟨s.sz.set n.toNat z,s.AP.set n.toNat true,s.AT.set nn.toNat true⟩ (d.AL.map fun r=>(r.AQ,z+own d+brs d.AK r.AU))with
    | none=>rfl
    | some s1=>
     obtain⟨w1,u1⟩:=lT ho _ _ _ (sF hs).2 (hun _) c2;have hu1:=hun (s.AT.set nn.toNat true);dsimp only
     rw [bsm];have e3:=ln3 hv ho (ch:=d.AK) (ru:=d.AL) (z:=z+own d) ⟨by omega,by omega⟩ d.AO [] m s1 (by omega) (by simp;omega) w1 (by omega)
     simp only [a1j,a0V,a0q]at e3;rw [show(⟨d.AK,d.AO,d.AL⟩:AM)=d from rfl]at e3;rw [e3,bsm];cases c3:cU (vis p f) s1 (d.AO.map fun y=>(y.AQ,z+own d))with
     | none=>rfl
     | some s2=>
      obtain⟨w2,u2⟩:=lT ho _ _ _ w1 (by omega) c3
      dsimp only
      rw [bsm];have e4:=ln4 hv ho (op:=4) (nn:=nn) (ar:=ar) (z:=z+own d) ⟨by omega,by omega⟩ ks [] m s2 (by omega) (by simp;omega) w2 (by omega)
      simp only [a1j,a0V,a0q]at e4;exact e4
  ·rw [a1X h4,bsm];dsimp only
   have hres:rest p f s n z ⟨op,nn,ar,ks⟩=cU (vis p f) ⟨s.sz.set n.toNat z,s.AP.set n.toNat true,s.AT⟩ (ks.map fun k=>(k,z)):=by
    rw [rest,a1X h4]
   rw [hres];have e4:=ln4 hv ho (op:=op) (nn:=nn) (ar:=ar) (z:=z) ⟨by omega,by omega⟩ ks [] m ⟨s.sz.set n.toNat z,s.AP.set n.toNat true,s.AT⟩ (by omega) (by simp;omega) (sF hs (j:=0)).1 (hun _)
   simp only [a1j,a0V,a0q]at e4;exact e4
theorem aFh {s:VS} (hs:WS p s) {n z:Int} (h:¬ (0<=n/\n<(p.AD.length:Int)/\idx s.AP n=some false)):eT (m+1) ⟨p,s.sz,s.AP,s.AT⟩ n z=some (.inr flaw):=by
 rw [eT]
 by_cases h0:0<=n
 ·rw [a1Y h0];by_cases h1:n<(p.AD.length:Int)
  ·obtain⟨b,hb⟩:=eY (xs:=s.AP) h0 (by rw [hs.AP];exact h1)
   dsimp only
   rw [a1Y h1,hb,bsm];cases b with
   | false=>exact absurd ⟨h0,h1,hb⟩ h
   | true=>rfl
  ·dsimp only
   rw [a1X h1,dA];rfl
 ·rw [a1X h0,dA];rfl
end
open Go.SX Go.SW Go.Dt
theorem aHm {op:Int} (h:op=1\/op=7):hP op=some (.iface 235 (.int .i64 0)):=by
 rcases h with rfl | rfl <;> rfl
theorem aIx:hP 3=some (.iface 235 (.int .i64 2)):=rfl
theorem aIE:hP 2=some (.iface 207 (.agg ⟨[]⟩)):=rfl
theorem aHw:hP 5=some (.iface 236 (.agg ⟨[]⟩)):=rfl
theorem aIm {op:Int} (h:op=6\/op=8):hP op=some (.iface 208 (.agg ⟨[]⟩)):=by
 rcases h with rfl | rfl <;> rfl
theorem aIS:hP 4=some (.iface 237 (.agg ⟨[]⟩)):=rfl
theorem aE5 {op:Int} (h:shp op=none):hP op=some .nilIface:=by
 unfold shp at h
 rw [hP]
 split at h;· cases h
 split at h;· cases h
 split at h;· cases h
 split at h;· cases h
 split at h;· cases h
 split at h;· cases h
 rename_i h1 h2 h3 h4 h5 h6
 rw [a1X (by omega),bsm,a1U (by omega),a1S,a1X h2,a1X h3,a1X h4,a1X (by omega),bsm,a1U (by omega),a1S,a1X h6]
def iM (m:Nat) (a0:AX) (a1 a2:Int) (y7:AW) (y8:Value):Option (AX ⊕ Value):=
 ((iO y8).bind fun x1=>
 bif !x1 then
  (lE y8).bind fun y9=>
  (bN (decide ((y7.AN.length:Int)=y9))).bind fun y10=>
  match y10 with
  | Sum.inr pv4=>(some (Sum.inr pv4)).bind fun r=>some (Sum.inr r)
  | Sum.inl _=>
  some (Sum.inl ())
 else
  (bN false).bind fun y11=>
  match y11 with
  | Sum.inr pv5=>(some (Sum.inr pv5)).bind fun r=>some (Sum.inr r)
  | Sum.inl _=>
  some (Sum.inl ())).bind fun o=>match o with
 | Sum.inr r=>some r
 | Sum.inl _=>
 ((dW 207 (.agg #[]) y8).bind fun y12=>
 match y12 with
 | (_,x3)=>
 bif x3 then
  if 0<=y7.N then
   (bN (decide (y7.N<a2))).bind fun y13=>
   match y13 with
   | Sum.inr pv6=>(some (Sum.inr pv6)).bind fun r=>some (Sum.inr r)
   | Sum.inl _=>
   some (Sum.inl (min (y7.AS.length:Int) 3))
  else
   (bN false).bind fun y14=>
   match y14 with
   | Sum.inr pv7=>(some (Sum.inr pv7)).bind fun r=>some (Sum.inr r)
   | Sum.inl _=>
   some (Sum.inl (min (y7.AS.length:Int) 3))
 else
  (dW 208 (.agg #[]) y8).bind fun y15=>
  match y15 with
  | (_,x4)=>
  bif x4 then
   if 0<=y7.N then
    (bN (decide (y7.N<a2))).bind fun y16=>
    match y16 with
    | Sum.inr pv8=>(some (Sum.inr pv8)).bind fun r=>some (Sum.inr r)
    | Sum.inl _=>
    some (Sum.inl 0)
   else
    (bN false).bind fun y17=>
    match y17 with
    | Sum.inr pv9=>(some (Sum.inr pv9)).bind fun r=>some (Sum.inr r)
    | Sum.inl _=>
    some (Sum.inl 0)
  else
   (dW 237 (.agg #[]) y8).bind fun y18=>
   match y18 with
   | (_,x5)=>
   bif x5 then
    if 0<=y7.N then
     if y7.N<(a0.p.AE.length:Int)then
      (idx a0.AV y7.N).bind fun y19=>
      (bN (!y19)).bind fun y20=>
      match y20 with
      | Sum.inr pv10=>(some (Sum.inr pv10)).bind fun r=>some (Sum.inr r)
      | Sum.inl _=>
      some (Sum.inl 0)
     else
      (bN false).bind fun y21=>
      match y21 with
      | Sum.inr pv11=>(some (Sum.inr pv11)).bind fun r=>some (Sum.inr r)
      | Sum.inl _=>
      some (Sum.inl 0)
    else
     (bN false).bind fun y22=>
     match y22 with
     | Sum.inr pv12=>(some (Sum.inr pv12)).bind fun r=>some (Sum.inr r)
     | Sum.inl _=>
     some (Sum.inl 0)
   else
    (dW 236 (.agg #[]) y8).bind fun y23=>
    match y23 with
    | (_,x6)=>
    bif x6 then
     (bN (decide (y7.N=0))).bind fun y24=>
     match y24 with
     | Sum.inr pv13=>(some (Sum.inr pv13)).bind fun r=>some (Sum.inr r)
     | Sum.inl _=>
     some (Sum.inl 1)
    else
     (bN (decide (y7.N=0))).bind fun y25=>
     match y25 with
     | Sum.inr pv14=>(some (Sum.inr pv14)).bind fun r=>some (Sum.inr r)
     | Sum.inl _=>
     some (Sum.inl 0)).bind fun o=>match o with
 | Sum.inr r=>some r
 | Sum.inl x2=>kW m a0 a1 a2 y7 x2
section
variable {p:AI} {f m:Nat}
theorem sC {s:VS} (hs:WS p s) {n z:Int} {x:AW} (h:0<=n/\n<(p.AD.length:Int)/\idx s.AP n=some false) (hx:idx p.AD n=some x) {v:Value} (hv:hP x.Op=some v):
 eT (m+1) ⟨p,s.sz,s.AP,s.AT⟩ n z=iM m ⟨p,s.sz,s.AP,s.AT⟩ n z x v:=by
 obtain⟨h0,h1,h2⟩:=h
 obtain⟨b,hb⟩:=eY (xs:=s.sz) h0 (by rw [hs.sz];exact h1)
 rw [eT,a1Y h0]
 dsimp only
 rw [a1Y h1,h2,bsm,show(!false)=true from rfl,eH,bsm,bsm]
 dsimp only
 rw [bsm,hb,bsm,hx,bsm,hv,bsm]
 rfl
theorem mid_nil {a0:AX} {n z:Int} {x:AW}:iM m a0 n z x .nilIface=some (.inr flaw):=rfl
theorem vR {a0:AX} {n z:Int} {x:AW} {v:Value} {k:Int} (hn:iO v=some false) (hk:lE v=some k) (h:¬ (x.AN.length:Int)=k):iM m a0 n z x v=some (.inr flaw):=by
 rw [iM,hn,bsm,show(!false)=true from rfl,a1T,hk,bsm,a1U h,dA];rfl
theorem aFD {a0:AX} {n z:Int} {x:AW} {k:Int} (h:(x.AN.length:Int)=k):iM m a0 n z x (.iface 235 (.int .i64 k))=if x.N=0 then kW m a0 n z x 0 else some (.inr flaw):=by
 rw [iM,show iO (.iface 235 (.int .i64 k))=some false from rfl,bsm,show(!false)=true from rfl,a1T,show lE (.iface 235 (.int .i64 k))=some k from rfl,bsm,a1V h,eH,bsm,bsm]
 dsimp only
 rw [show dW 207 (.agg #[]) (.iface 235 (.int .i64 k))=some (.agg #[],false)from rfl,bsm]
 dsimp only
 rw [a1S,show dW 208 (.agg #[]) (.iface 235 (.int .i64 k))=some (.agg #[],false)from rfl,bsm]
 dsimp only
 rw [a1S,show dW 237 (.agg #[]) (.iface 235 (.int .i64 k))=some (.agg #[],false)from rfl,bsm]
 dsimp only
 rw [a1S,show dW 236 (.agg #[]) (.iface 235 (.int .i64 k))=some (.agg #[],false)from rfl,bsm]
 dsimp only
 rw [a1S]
 by_cases h0:x.N=0
 ·rw [a1V h0,eH,a1Y h0];rfl
 ·rw [a1U h0,dA,a1X h0];rfl
theorem aHy {a0:AX} {n z:Int} {x:AW} (h:(x.AN.length:Int)=0):iM m a0 n z x (.iface 207 (.agg ⟨[]⟩))=if 0<=x.N/\x.N<z then kW m a0 n z x (min (x.AS.length:Int) 3) else some (.inr flaw):=by
 rw [iM,show iO (.iface 207 (.agg ⟨[]⟩))=some false from rfl,bsm,show(!false)=true from rfl,a1T,show lE (.iface 207 (.agg ⟨[]⟩))=some 0 from rfl,bsm,a1V h,eH,bsm,bsm]
 dsimp only
 rw [show dW 207 (.agg #[]) (.iface 207 (.agg ⟨[]⟩))=some (.agg #[],true)from rfl,bsm]
 dsimp only
 rw [a1T]
 by_cases h0:0<=x.N
 ·rw [a1Y h0];by_cases h1:x.N<z
  ·rw [a1V h1,eH,a1Y ⟨h0,h1⟩];rfl
  ·rw [a1U h1,dA,a1X (fun q=>h1 q.2)];rfl
 ·rw [a1X h0,dA,a1X (fun q=>h0 q.1)];rfl
theorem aJd {a0:AX} {n z:Int} {x:AW} (h:(x.AN.length:Int)=1):iM m a0 n z x (.iface 208 (.agg ⟨[]⟩))=if 0<=x.N/\x.N<z then kW m a0 n z x 0 else some (.inr flaw):=by
 rw [iM,show iO (.iface 208 (.agg ⟨[]⟩))=some false from rfl,bsm,show(!false)=true from rfl,a1T,show lE (.iface 208 (.agg ⟨[]⟩))=some 1 from rfl,bsm,a1V h,eH,bsm,bsm]
 dsimp only
 rw [show dW 207 (.agg #[]) (.iface 208 (.agg ⟨[]⟩))=some (.agg #[],false)from rfl,bsm]
 dsimp only
 rw [a1S,show dW 208 (.agg #[]) (.iface 208 (.agg ⟨[]⟩))=some (.agg #[],true)from rfl,bsm]
 dsimp only
 rw [a1T]
 by_cases h0:0<=x.N
 ·rw [a1Y h0];by_cases h1:x.N<z
  ·rw [a1V h1,eH,a1Y ⟨h0,h1⟩];rfl
  ·rw [a1U h1,dA,a1X (fun q=>h1 q.2)];rfl
 ·rw [a1X h0,dA,a1X (fun q=>h0 q.1)];rfl
theorem aHT {a0:AX} {n z:Int} {x:AW} (h:(x.AN.length:Int)=2):iM m a0 n z x (.iface 236 (.agg ⟨[]⟩))=if x.N=0 then kW m a0 n z x 1 else some (.inr flaw):=by
 rw [iM,show iO (.iface 236 (.agg ⟨[]⟩))=some false from rfl,bsm,show(!false)=true from rfl,a1T,show lE (.iface 236 (.agg ⟨[]⟩))=some 2 from rfl,bsm,a1V h,eH,bsm,bsm]
 dsimp only
 rw [show dW 207 (.agg #[]) (.iface 236 (.agg ⟨[]⟩))=some (.agg #[],false)from rfl,bsm]
 dsimp only
 rw [a1S,show dW 208 (.agg #[]) (.iface 236 (.agg ⟨[]⟩))=some (.agg #[],false)from rfl,bsm]
 dsimp only
 rw [a1S,show dW 237 (.agg #[]) (.iface 236 (.agg ⟨[]⟩))=some (.agg #[],false)from rfl,bsm]
 dsimp only
 rw [a1S,show dW 236 (.agg #[]) (.iface 236 (.agg ⟨[]⟩))=some (.agg #[],true)from rfl,bsm]
 dsimp only
 rw [a1T]
 by_cases h0:x.N=0
 ·rw [a1V h0,eH,a1Y h0];rfl
 ·rw [a1U h0,dA,a1X h0];rfl
theorem aHD {s:VS} (hs:WS p s) {n z:Int} {x:AW} (h:(x.AN.length:Int)=1):iM m ⟨p,s.sz,s.AP,s.AT⟩ n z x (.iface 237 (.agg ⟨[]⟩))=if 0<=x.N/\x.N<(p.AE.length:Int)/\idx s.AT x.N=some false then kW m ⟨p,s.sz,s.AP,s.AT⟩ n z x 0 else some (.inr flaw):=by
 rw [iM,show iO (.iface 237 (.agg ⟨[]⟩))=some false from rfl,bsm,show(!false)=true from rfl,a1T,show lE (.iface 237 (.agg ⟨[]⟩))=some 1 from rfl,bsm,a1V h,eH,bsm,bsm]
 dsimp only
 rw [show dW 207 (.agg #[]) (.iface 237 (.agg ⟨[]⟩))=some (.agg #[],false)from rfl,bsm]
 dsimp only
 rw [a1S,show dW 208 (.agg #[]) (.iface 237 (.agg ⟨[]⟩))=some (.agg #[],false)from rfl,bsm]
 dsimp only
 rw [a1S,show dW 237 (.agg #[]) (.iface 237 (.agg ⟨[]⟩))=some (.agg #[],true)from rfl,bsm]
 dsimp only
 rw [a1T]
 by_cases h0:0<=x.N
 ·rw [a1Y h0];by_cases h1:x.N<(p.AE.length:Int)
  ·obtain⟨b,hb⟩:=eY (xs:=s.AT) h0 (by rw [hs.AT];exact h1)
   rw [a1Y h1,hb,bsm];cases b with
   | false=>rw [a1Y ⟨h0,h1,rfl⟩];rfl
   | true=>rw [a1X (fun q=>by cases q.2.2)];rfl
  ·rw [a1X h1,dA,a1X (fun q=>h1 q.2.1)];rfl
 ·rw [a1X h0,dA,a1X (fun q=>h0 q.1)];rfl
theorem vis_go {s:VS} {n z:Int} {x:AW} (h:0<=n/\n<(p.AD.length:Int)/\idx s.AP n=some false) (hx:idx p.AD n=some x):(okN p s x z->vis p (f+1) s n z=rest p f s n z x)/\(¬ okN p s x z->vis p (f+1) s n z=none):=by
 constructor
 ·intro ho;simp only [vis];rw [a1Y h,hx,bsm,a1Y ho];rfl
 ·intro ho;simp only [vis];rw [a1Y h,hx,bsm,a1X ho]
theorem node_go (hp:SmP p) (hm:3000000<=m) (hv:Vis p f (eT m)) {s:VS} (hs:WS p s) {n z:Int} (hu:unm s<=f+1) (hz:0<=z/\z+69+80*f<=100000) (h:0<=n/\n<(p.AD.length:Int)/\idx s.AP n=some false):
 eT (m+1) ⟨p,s.sz,s.AP,s.AT⟩ n z=some (jC p (vis p (f+1) s n z)):=by
 obtain⟨x,hx⟩:=eY h.1 h.2.1
 obtain⟨v1,v2⟩:=vis_go (f:=f) (z:=z) h hx
 have hun:∀ AT,unm ⟨s.sz.set n.toNat z,s.AP.set n.toNat true,AT⟩<=f:=fun AT=>by
  have:=aBX (p:=p) (z:=z) (AT:=AT) h.1 h.2.2;omega
 have hN:∀ {c k:Nat},shp x.Op=some (k,c)->okM p s x z c->x.Op=4->0<=x.N/\x.N<(p.AE.length:Int):=fun {c k} h1 h2 h4=>by
  rw [h4]at h1;have:(1,4)=(k,c):=a1O h1;cases this;exact⟨h2.1.1,h2.1.2.1⟩
 have fin:∀ {k c:Nat} (x2:Int),shp x.Op=some (k,c)->(x.AN.length:Int)=k->((x.AS.length:Int)=x2->okM p s x z c)->(okM p s x z c->(x.AS.length:Int)=x2)->kW m ⟨p,s.sz,s.AP,s.AT⟩ n z x x2=some (jC p (vis p (f+1) s n z)):=fun {k c} x2 h1 h2 h3 h4=>by
  by_cases ha:(x.AS.length:Int)=x2
  ·rw [tail_eq hp hm hv hs (kI hx) hun hz (hN h1 (h3 ha)) ha];congr 2
   by_cases hall:x.AS.all (okE z)=true
   ·rw [a1Y hall,v1 ⟨⟨k,c,h1,by omega,h3 ha⟩,hall⟩]
   ·rw [a1X hall,v2 (fun q=>hall q.2)]
  ·rw [tail_bad ha,v2];rfl
   rintro⟨⟨k',c',g1,_,g3⟩,_⟩
   rw [h1]at g1;cases g1
   exact ha (h4 g3)
 have bad:∀ {k c:Nat},shp x.Op=some (k,c)->¬ ((x.AN.length:Int)=k/\okM p s x z c)->some (jC p (vis p (f+1) s n z))=some (.inr flaw):=fun {k c} h1 h2=>by
  rw [v2];rfl
  rintro⟨⟨k',c',g1,g2,g3⟩,_⟩
  rw [h1]at g1;cases g1
  exact h2 ⟨by omega,g3⟩
 by_cases o1:x.Op=1\/x.Op=7
 ·have hsh:shp x.Op=some (0,0):=by unfold shp;rw [a1Y o1]
  rw [sC hs h hx (aHm o1)];by_cases hk:(x.AN.length:Int)=0
  ·rw [aFD hk];by_cases hn:x.N=0
   ·rw [a1Y hn];exact fin 0 hsh hk (fun q=>⟨hn,by omega⟩) (fun q=>by have:=q.2;omega)
   ·rw [a1X hn,bad hsh (fun q=>hn q.2.1)]
  ·rw [vR rfl rfl hk,bad hsh (fun q=>hk q.1)]
 ·by_cases o3:x.Op=3
  ·have hsh:shp x.Op=some (2,0):=by unfold shp;rw [a1X o1,a1Y o3]
   rw [sC hs h hx (by rw [o3];exact aIx)];by_cases hk:(x.AN.length:Int)=2
   ·rw [aFD hk];by_cases hn:x.N=0
    ·rw [a1Y hn];exact fin 0 hsh hk (fun q=>⟨hn,by omega⟩) (fun q=>by have:=q.2;omega)
    ·rw [a1X hn,bad hsh (fun q=>hn q.2.1)]
   ·rw [vR rfl rfl hk,bad hsh (fun q=>hk q.1)]
  ·by_cases o2:x.Op=2
   ·have hsh:shp x.Op=some (0,1):=by unfold shp;rw [a1X o1,a1X o3,a1Y o2]
    rw [sC hs h hx (by rw [o2];exact aIE)];by_cases hk:(x.AN.length:Int)=0
    ·rw [aHy hk];by_cases hn:0<=x.N/\x.N<z
     ·rw [a1Y hn];exact fin _ hsh hk (fun q=>⟨hn,by omega⟩) (fun q=>by have:=q.2;omega)
     ·rw [a1X hn,bad hsh (fun q=>hn q.2.1)]
    ·rw [vR rfl rfl hk,bad hsh (fun q=>hk q.1)]
   ·by_cases o5:x.Op=5
    ·have hsh:shp x.Op=some (2,2):=by unfold shp;rw [a1X o1,a1X o3,a1X o2,a1Y o5]
     rw [sC hs h hx (by rw [o5];exact aHw)];by_cases hk:(x.AN.length:Int)=2
     ·rw [aHT hk];by_cases hn:x.N=0
      ·rw [a1Y hn];exact fin 1 hsh hk (fun q=>⟨hn,by omega⟩) (fun q=>by have:=q.2;omega)
      ·rw [a1X hn,bad hsh (fun q=>hn q.2.1)]
     ·rw [vR rfl rfl hk,bad hsh (fun q=>hk q.1)]
    ·by_cases o6:x.Op=6\/x.Op=8
     ·have hsh:shp x.Op=some (1,3):=by unfold shp;rw [a1X o1,a1X o3,a1X o2,a1X o5,a1Y o6]
      rw [sC hs h hx (aIm o6)];by_cases hk:(x.AN.length:Int)=1
      ·rw [aJd hk];by_cases hn:0<=x.N/\x.N<z
       ·rw [a1Y hn];exact fin 0 hsh hk (fun q=>⟨hn,by omega⟩) (fun q=>by have:=q.2;omega)
       ·rw [a1X hn,bad hsh (fun q=>hn q.2.1)]
      ·rw [vR rfl rfl hk,bad hsh (fun q=>hk q.1)]
     ·by_cases o4:x.Op=4
      ·have hsh:shp x.Op=some (1,4):=by unfold shp;rw [a1X o1,a1X o3,a1X o2,a1X o5,a1X o6,a1Y o4]
       rw [sC hs h hx (by rw [o4];exact aIS)];by_cases hk:(x.AN.length:Int)=1
       ·rw [aHD hs hk];by_cases hn:0<=x.N/\x.N<(p.AE.length:Int)/\idx s.AT x.N=some false
        ·rw [a1Y hn];exact fin 0 hsh hk (fun q=>⟨hn,by omega⟩) (fun q=>by have:=q.2;omega)
        ·rw [a1X hn,bad hsh (fun q=>hn q.2.1)]
       ·rw [vR rfl rfl hk,bad hsh (fun q=>hk q.1)]
      ·have hsh:shp x.Op=none:=by unfold shp;rw [a1X o1,a1X o3,a1X o2,a1X o5,a1X o6,a1X o4]
       rw [sC hs h hx (aE5 hsh),mid_nil,v2];rfl
       rintro⟨⟨k',c',g1,_⟩,_⟩
       rw [hsh]at g1;cases g1
end
theorem zT {p:AI} {f:Nat} {s:VS} {n z:Int} (h:¬ (0<=n/\n<(p.AD.length:Int)/\idx s.AP n=some false)):vis p f s n z=none:=by
 cases f with
 | zero=>rfl
 | succ f=>simp only [vis];rw [a1X h]
theorem aFJ {s:VS} {n:Int} (h:idx s.AP n=some false):0<unm s:=List.countP_pos_iff.2 ⟨false,kI h,rfl⟩
theorem pvis {p:AI} (hp:SmP p) {b:Nat} (hb:3000000<=b) (f:Nat):Vis p f (eT (b+f+1)):=by
 induction f with
 | zero=>
  refine⟨fun s n z hs hu h0 h1=>?_⟩
  have h:¬ (0<=n/\n<(p.AD.length:Int)/\idx s.AP n=some false):=fun q=>by have:=aFJ q.2.2;omega
  rw [aFh hs h,zT h];rfl
 | succ f ih=>
  refine⟨fun s n z hs hu h0 h1=>?_⟩
  by_cases h:0<=n/\n<(p.AD.length:Int)/\idx s.AP n=some false
  ·exact node_go hp (m:=b+f+1) (by omega) ih hs hu ⟨h0,by omega⟩ h
  ·rw [aFh hs h,zT h];rfl
open Go.SX Go.SW Go.Dt
def ob (l:List Bool):List Int:=l.map fun b=>if b=true then 1 else 0
theorem iU {l:List Bool}:(ob l).length=l.length:=by simp [ob]
theorem aCv {l:List Bool} {i:Int} {b:Bool} (h:idx l i=some b):idx (ob l) i=some (if b=true then 1 else 0):=by
 obtain⟨j,rfl,hj,_⟩:=uQ h
 exact pZ (by simp [ob,hj])
theorem ob_set {l:List Bool} {i:Nat}:ob (l.set i true)=(ob l).set i 1:=by simp [ob,List.map_set]
theorem ob_rep {n:Nat}:ob (List.replicate n false)=List.replicate n 0:=by simp [ob]
def ROut (p:AI) (o:Option VS) (L:Aa):Prop:=match o with
 | some s=>L=⟨p,s.sz,ob s.AP,ob s.AT,false⟩
 | none=>L.bad=true/\L.Ah.length=p.AD.length/\L.Ag.length=p.AE.length
structure RVis (p:AI) (f:Nat) (rec:Aa->Int->Int->Option Aa):Prop where
 run:∀ (s:VS) (n z:Int),WS p s->unm s<=f->0<=z->z+80*f<=100000->∃ L,rec ⟨p,s.sz,ob s.AP,ob s.AT,false⟩ n z=some L/\ROut p (vis p f s n z) L
theorem aIa {ch:List Al} {sp:List Aj} {ru:List Af} {a nd:Int} (AC:List Int):∀ (AB:List Int) (k:Nat) (w:Int),AC.length<k->AB.length+AC.length<=1000->0<=w->w<=100000->(∀ c∈AC,∃ y,idx ch c=some y/\0<=y.Ak/\y.Ak<=3)->w+3*AC.length<=100000 ->
 oZ ⟨ch,sp,ru⟩ ⟨a,AB++AC,nd⟩ k w AB.length=some (w+brs ch AC):=by
 induction AC with
 | nil=>
  intro AB k w hk _ _ _ _ _;obtain _ | k:=k
  ·omega
  rw [oZ,a1X (by simp)];simp [brs]
 | cons e AC ih=>
  intro AB k w hk hB h0 h1 hm hw;obtain _ | k:=k
  ·omega
  simp only [a0R]at hk hB hw;obtain⟨y,g1,g2,g3⟩:=hm e (.head _);rw [oZ,a1Y (bC _ _ _)];dsimp only
  rw [bE,bsm,g1,bsm,aR (by omega),bsm,aR (by omega),bsm,bL AB AC e,bB AB e,ih (AB++[e]) k _ (by omega) (by simp;omega) (by omega) (by omega) (fun c hc=>hm c (.tail _ hc)) (by omega)];simp only [brs,g1];congr 1;omega
theorem more_eq {AA:Nat} {d:AM} {r:Af} (hf:3000<=AA) (h:okD d=true) (hr:r∈d.AL):wQ AA d r=some (brs d.AK r.AU):=by
 obtain⟨_,_,_,_,h5⟩:=gI h
 obtain⟨g1,g2⟩:=h5 r hr
 have:=aIa (ch:=d.AK) (sp:=d.AO) (ru:=d.AL) (a:=r.At) (nd:=r.AQ) r.AU [] AA 0 (by omega) (by simp;omega) (by omega) (by omega) g2 (by omega)
 simp only [a1j,a0V,a0q]at this
 rw [wQ,this,bsm];congr 1;omega
theorem qX {rec:Aa->Int->Int->Option Aa} {y:AW} {z i:Int} {k:Nat} {a:List ByteArray} {b:List AW} {c:List AM} {d:Int} {sz ow us:List Int}:
 iY rec y z (k+1) i a b c d sz ow us true=some ⟨⟨a,b,c,d⟩,sz,ow,us,true⟩:=by
 rw [iY];split
 ·rw [a1T]
 ·rfl
theorem d1_bad {AA:Nat} {rec:Aa->Int->Int->Option Aa} {y:AM} {z i:Int} {k:Nat} {a:List ByteArray} {b:List AW} {c:List AM} {d:Int} {sz ow us:List Int}:
 kD AA rec y z (k+1) i a b c d sz ow us true=some (a,b,c,d,sz,ow,us,true):=by
 rw [kD];split
 ·rw [a1T]
 ·rfl
theorem aCW {rec:Aa->Int->Int->Option Aa} {y:AM} {z i:Int} {k:Nat} {a:List ByteArray} {b:List AW} {c:List AM} {d:Int} {sz ow us:List Int}:
 kA rec y z (k+1) i a b c d sz ow us true=some ⟨⟨a,b,c,d⟩,sz,ow,us,true⟩:=by
 rw [kA];split
 ·rw [a1T]
 ·rfl
section
variable {p:AI} {f:Nat} {rec:Aa->Int->Int->Option Aa}
theorem rk2 (hv:RVis p f rec) {op nn:Int} {ar:List AR} {z:Int} (hz:0<=z/\z+80*f<=100000) (AC:List Int):∀ (AB:List Int) (k:Nat) (s:VS),AC.length<k->AB.length+AC.length<=3000000->WS p s->unm s<=f ->
 ∃ L,iY rec ⟨op,nn,ar,AB++AC⟩ z k AB.length p.AF p.AD p.AE p.AG s.sz (ob s.AP) (ob s.AT) false=some L/\ROut p (cU (vis p f) s (AC.map fun k=>(k,z))) L:=by
 induction AC with
 | nil=>
  intro AB k s hk _ hs hu;obtain _ | k:=k
  ·omega
  exact⟨_,by rw [iY,a1X (by simp)],rfl⟩
 | cons e AC ih=>
  intro AB k s hk hB hs hu;obtain _ | k:=k
  ·omega
  simp only [a0R]at hk hB;obtain⟨L,h1,h2⟩:=hv.run s e z hs hu hz.1 hz.2;rw [iY,a1Y (bC _ _ _),a1S];dsimp only
  rw [bE,bsm,show(⟨⟨p.AF,p.AD,p.AE,p.AG⟩,s.sz,ob s.AP,ob s.AT,false⟩:Aa)=⟨p,s.sz,ob s.AP,ob s.AT,false⟩from rfl,h1,bsm,aR (by omega),bsm,bL AB AC e,bB AB e];simp only [a0Y,cU];cases hc:vis p f s e z with
  | none=>
   rw [hc]at h2;obtain⟨g1,g2,g3⟩:=h2;obtain _ | k:=k
   ·omega
   rw [g1,qX];exact⟨_,rfl,rfl,g2,g3⟩
  | some s1=>
   rw [hc]at h2;have h2:L=_:=h2;subst h2;obtain⟨w1,u1⟩:=(visO p f).out _ _ _ _ hs hu hc;rw [bsm];exact ih (AB++[e]) k s1 (by omega) (by simp;omega) w1 (by omega)
theorem rd2 (hv:RVis p f rec) {ch:List Al} {ru:List Af} {z:Int} (hz:0<=z/\z+80*f<=100000) (AC:List Aj):∀ (AB:List Aj) (k:Nat) (s:VS),AC.length<k->AB.length+AC.length<=3000000->WS p s->unm s<=f ->
 ∃ L,kA rec ⟨ch,AB++AC,ru⟩ z k AB.length p.AF p.AD p.AE p.AG s.sz (ob s.AP) (ob s.AT) false=some L/\ROut p (cU (vis p f) s (AC.map fun y=>(y.AQ,z))) L:=by
 induction AC with
 | nil=>
  intro AB k s hk _ hs hu;obtain _ | k:=k
  ·omega
  exact⟨_,by rw [kA,a1X (by simp)],rfl⟩
 | cons e AC ih=>
  intro AB k s hk hB hs hu;obtain _ | k:=k
  ·omega
  simp only [a0R]at hk hB;obtain⟨L,h1,h2⟩:=hv.run s e.AQ z hs hu hz.1 hz.2;rw [kA,a1Y (bC _ _ _),a1S];dsimp only
  rw [bE,bsm,show(⟨⟨p.AF,p.AD,p.AE,p.AG⟩,s.sz,ob s.AP,ob s.AT,false⟩:Aa)=⟨p,s.sz,ob s.AP,ob s.AT,false⟩from rfl,h1,bsm,aR (by omega),bsm,bL AB AC e,bB AB e];simp only [a0Y,cU];cases hc:vis p f s e.AQ z with
  | none=>
   rw [hc]at h2;obtain⟨g1,g2,g3⟩:=h2;obtain _ | k:=k
   ·omega
   rw [g1,aCW];exact⟨_,rfl,rfl,g2,g3⟩
  | some s1=>
   rw [hc]at h2;have h2:L=_:=h2;subst h2;obtain⟨w1,u1⟩:=(visO p f).out _ _ _ _ hs hu hc;rw [bsm];exact ih (AB++[e]) k s1 (by omega) (by simp;omega) w1 (by omega)
abbrev T8:=List ByteArray × List AW × List AM × Int × List Int × List Int × List Int × Bool
def ROut8 (p:AI) (o:Option VS) (t:T8):Prop:=match o with
 | some s=>t=(p.AF,p.AD,p.AE,p.AG,s.sz,ob s.AP,ob s.AT,false)
 | none=>t.2.2.2.2.2.2.2=true/\t.2.2.2.2.2.1.length=p.AD.length/\t.2.2.2.2.2.2.1.length=p.AE.length
theorem rd1 (hv:RVis p f rec) {AA:Nat} {d:AM} (hd:okD d=true) (hf:3000<=AA) {z:Int} (hz:0<=z/\z+9+80*f<=100000) (AC:List Af):∀ (AB:List Af) (k:Nat) (s:VS),d.AL=AB++AC->AC.length<k->AB.length+AC.length<=3000000->WS p s->unm s<=f ->
 ∃ t,kD AA rec d z k AB.length p.AF p.AD p.AE p.AG s.sz (ob s.AP) (ob s.AT) false=some t/\ROut8 p (cU (vis p f) s (AC.map fun r=>(r.AQ,z+brs d.AK r.AU))) t:=by
 induction AC with
 | nil=>
  intro AB k s he hk _ hs hu;obtain _ | k:=k
  ·omega
  exact⟨_,by rw [kD,he,a1X (by simp)],rfl⟩
 | cons e AC ih=>
  intro AB k s he hk hB hs hu;obtain _ | k:=k
  ·omega
  simp only [a0R]at hk hB;have hmem:e∈d.AL:=by rw [he];simp
  obtain⟨_,_,_,_,h5⟩:=gI hd;obtain⟨g1,g2⟩:=h5 e hmem;have hb:=yW g2;obtain⟨L,h1,h2⟩:=hv.run s e.AQ (z+brs d.AK e.AU) hs hu (by omega) (by omega)
  rw [kD,he,a1Y (bC _ _ _),<- he,a1S,show idx d.AL (AB.length:Int)=some e from by rw [he];exact bE _ _ _,bsm,bsm,
   show(⟨d.AK,d.AO,d.AL⟩:AM)=d from rfl,more_eq hf hd hmem,bsm,aR (by omega),bsm,
   show(⟨⟨p.AF,p.AD,p.AE,p.AG⟩,s.sz,ob s.AP,ob s.AT,false⟩:Aa)=⟨p,s.sz,ob s.AP,ob s.AT,false⟩from rfl,h1,bsm,aR (by omega),bsm,bB AB e]
  simp only [a0Y,cU];cases hc:vis p f s e.AQ (z+brs d.AK e.AU)with
  | none=>
   rw [hc]at h2;obtain⟨g1,g2,g3⟩:=h2;obtain _ | k:=k
   ·omega
   rw [g1,d1_bad];exact⟨_,rfl,rfl,g2,g3⟩
  | some s1=>
   rw [hc]at h2;have h2:L=_:=h2;subst h2;obtain⟨w1,u1⟩:=(visO p f).out _ _ _ _ hs hu hc;rw [bsm];exact ih (AB++[e]) k s1 (by rw [he];simp) (by omega) (by simp;omega) w1 (by omega)
theorem rdef {m:Nat} (hv:RVis p f (eK m)) {d:AM} (hd:okD d=true) (hsm:smD d) (hm:3000000<=m) {z:Int} (hz:0<=z/\z+9+80*f<=100000) {s:VS} (hs:WS p s) (hu:unm s<=f):
 ∃ L,mV (m+1) ⟨p,s.sz,ob s.AP,ob s.AT,false⟩ d z=some L/\ROut p ((cU (vis p f) s (d.AL.map fun r=>(r.AQ,z+brs d.AK r.AU))).bind fun s1=>cU (vis p f) s1 (d.AO.map fun y=>(y.AQ,z))) L:=by
 obtain⟨c1,c2,c3,_⟩:=hsm
 obtain⟨t,h1,h2⟩:=rd1 hv hd (AA:=m) (by omega) hz d.AL [] m s rfl (by omega) (by simp;omega) hs hu
 simp only [a0V,a0q]at h1
 rw [mV,h1,bsm]
 cases hc:cU (vis p f) s (d.AL.map fun r=>(r.AQ,z+brs d.AK r.AU))with
 | none=>
  rw [hc]at h2;obtain⟨a,b,c,e,sz,ow,us,bd⟩:=t;obtain⟨g1,g2,g3⟩:=h2;dsimp only at g1 g2 g3
  subst g1;obtain⟨m,rfl⟩:∃ k,m=k+1:=⟨m - 1,by omega⟩
  dsimp only
  rw [aCW];exact⟨_,rfl,rfl,g2,g3⟩
 | some s1=>
  rw [hc]at h2;have h2:t=_:=h2;subst h2;obtain⟨w1,u1⟩:=lT (visO p f) _ _ _ hs hu hc;obtain⟨L,h3,h4⟩:=rd2 hv (ch:=d.AK) (ru:=d.AL) (z:=z) ⟨by omega,by omega⟩ d.AO [] m s1 (by omega) (by simp;omega) w1 (by omega)
  simp only [a1j,a0V,a0q]at h3;exact⟨L,h3,h4⟩
theorem rdef_bad {m:Nat} (hm:0<m) {L:Aa} (hb:L.bad=true) {d:AM} {z:Int}:mV (m+1) L d z=some L:=by
 obtain⟨k,rfl⟩:∃ k,m=k+1:=⟨m - 1,by omega⟩
 obtain⟨q,sz,ow,us,bd⟩:=L
 dsimp only at hb
 subst hb
 rw [mV]
 dsimp only
 rw [d1_bad,bsm]
 dsimp only
 rw [aCW]
end
theorem rn1_bad {AA:Nat} {op nn:Int} {ks:List Int} {z:Int} (AC:List AR):∀ (AB:List AR) (k:Nat),AC.length<k->AB.length+AC.length<=3000000 ->
 jB AA z ⟨op,nn,AB++AC,ks⟩ k AB.length true=some true:=by
 induction AC with
 | nil=>
  intro AB k hk _;obtain _ | k:=k
  ·omega
  rw [jB,a1X (by simp)]
 | cons e AC ih=>
  intro AB k hk hB;obtain _ | k:=k
  ·omega
  simp only [a0R]at hk hB;rw [jB,a1Y (bC _ _ _),a1T,bsm,aR (by omega),bsm,bL AB AC e,bB AB e];exact ih (AB++[e]) k (by omega) (by simp;omega)
theorem rn1 {AA:Nat} (hf:3000000<=AA) {op nn:Int} {ks:List Int} {z:Int} (AC:List AR):∀ (AB:List AR) (k:Nat),AC.length<k->AB.length+AC.length<=3000000->(∀ e∈AC,nE e<=2000000) ->
 jB AA z ⟨op,nn,AB++AC,ks⟩ k AB.length false=some (!AC.all (okE z)):=by
 induction AC with
 | nil=>
  intro AB k hk _ _;obtain _ | k:=k
  ·omega
  rw [jB,a1X (by simp)];rfl
 | cons e AC ih=>
  intro AB k hk hB he;obtain _ | k:=k
  ·omega
  simp only [a0R]at hk hB;have hn:=he e (.head _);rw [jB,a1Y (bC _ _ _),a1S,show(e :: AC).all (okE z)=(okE z e && AC.all (okE z))from rfl];dsimp only
  rw [bE,bsm,aG1 (by omega) (by omega),bsm,bsm,aR (by omega),bsm,bL AB AC e,bB AB e];cases h1:okE z e with
  | false=>exact rn1_bad AC (AB++[e]) k (by omega) (by simp;omega)
  | true=>
   rw [a0p];exact ih (AB++[e]) k (by omega) (by simp;omega) (fun x hx=>he x (.tail _ hx))
open Go.SX Go.SW Go.Dt
def tailR (AA:Nat) (a0:Aa) (a1 a2 z1:Int) (y5:AW):Option Aa:=
 (jB AA a2 y5 AA 0 a0.bad).bind fun x1=>
 ((if y5.Op=2 then
   some (decide (y5.Op=2))
 else
  if y5.Op=6 then
   some (decide (y5.Op=6))
  else
   some (decide (y5.Op=8))).bind fun x16=>
 bif x16 then
  bif x1 then
   some (Sum.inl (a2,a0.p.AF,a0.p.AD,a0.p.AE,a0.p.AG,a0.AY.set a1.toNat a2,a0.Ah.set a1.toNat z1,a0.Ag,true))
  else
   if y5.N<0 then
    some (Sum.inl (a2,a0.p.AF,a0.p.AD,a0.p.AE,a0.p.AG,a0.AY.set a1.toNat a2,a0.Ah.set a1.toNat z1,a0.Ag,true))
   else
    some (Sum.inl (a2,a0.p.AF,a0.p.AD,a0.p.AE,a0.p.AG,a0.AY.set a1.toNat a2,a0.Ah.set a1.toNat z1,a0.Ag,decide (a2<=y5.N)))
 else
  if y5.Op=4 then
   if y5.N<0 then
    (some (⟨(⟨a0.p.AF,a0.p.AD,a0.p.AE,a0.p.AG⟩:AI),a0.AY.set a1.toNat a2,a0.Ah.set a1.toNat z1,a0.Ag,true⟩:Aa)).bind fun r=>some (Sum.inr r)
   else
    if (a0.p.AE.length:Int)<=y5.N then
     (some (⟨(⟨a0.p.AF,a0.p.AD,a0.p.AE,a0.p.AG⟩:AI),a0.AY.set a1.toNat a2,a0.Ah.set a1.toNat z1,a0.Ag,true⟩:Aa)).bind fun r=>some (Sum.inr r)
    else
     (idx a0.Ag y5.N).bind fun y9=>
     if 0<y9 then
      (some (⟨(⟨a0.p.AF,a0.p.AD,a0.p.AE,a0.p.AG⟩:AI),a0.AY.set a1.toNat a2,a0.Ah.set a1.toNat z1,a0.Ag,true⟩:Aa)).bind fun r=>some (Sum.inr r)
     else
      (idx a0.Ag y5.N).bind fun y10=>
      (chk (y10+1)).bind fun z3=>
      (idx a0.Ag y5.N).bind fun _=>
      (idx a0.p.AE y5.N).bind fun y12=>
      (uR y12).bind fun y13=>
      (chk (a2+y13)).bind fun z4=>
      (idx a0.p.AE y5.N).bind fun y14=>
      ((mV AA) (⟨(⟨a0.p.AF,a0.p.AD,a0.p.AE,a0.p.AG⟩:AI),a0.AY.set a1.toNat a2,a0.Ah.set a1.toNat z1,a0.Ag.set y5.N.toNat z3,x1⟩:Aa) y14 z4).bind fun y15=>
      some (Sum.inl (z4,y15.p.AF,y15.p.AD,y15.p.AE,y15.p.AG,y15.AY,y15.Ah,y15.Ag,y15.bad))
  else
   bif x1 then
    some (Sum.inl (a2,a0.p.AF,a0.p.AD,a0.p.AE,a0.p.AG,a0.AY.set a1.toNat a2,a0.Ah.set a1.toNat z1,a0.Ag,true))
   else
    some (Sum.inl (a2,a0.p.AF,a0.p.AD,a0.p.AE,a0.p.AG,a0.AY.set a1.toNat a2,a0.Ah.set a1.toNat z1,a0.Ag,decide (y5.N≠0)))).bind fun o=>match o with
 | Sum.inr r=>some r
 | Sum.inl (x7,x8,x9,x10,x11,x12,x13,x14,x15)=>
 iY (eK AA) y5 x7 AA 0 x8 x9 x10 x11 x12 x13 x14 x15
theorem rown_eq {d:AM} (h:d.AK.length<=2000000) (h2:d.AO.length<=2000000):uR d=some (own d):=by
 rw [uR,aR (by omega),bsm];rfl
def jR (p:AI) (s:VS) (x:AW) (z:Int):Prop:=
 if x.Op=2\/x.Op=6\/x.Op=8 then 0<=x.N/\x.N<z else if x.Op=4 then 0<=x.N/\x.N<(p.AE.length:Int)/\idx s.AT x.N=some false else x.N=0
section
variable {p:AI} {f m:Nat}
theorem iZ {q:AI} {sz ow us:List Int} (h1:ow.length=p.AD.length) (h2:us.length=p.AE.length):ROut p none ⟨q,sz,ow,us,true⟩:=⟨rfl,h1,h2⟩
open Classical in
theorem tailR_eq (hp:SmP p) (hall:∀ d∈p.AE,okD d=true) (hm:3000001<=m) (hv:RVis p f (eK m)) (hv':RVis p f (eK (m - 1))) {s:VS} (hs:WS p s) {n z:Int} {x:AW} (hx:x∈p.AD)
 (hun:∀ AT,unm ⟨s.sz.set n.toNat z,s.AP.set n.toNat true,AT⟩<=f) (hz:0<=z/\z+69+80*f<=100000):
 ∃ L,tailR m ⟨p,s.sz,ob s.AP,ob s.AT,false⟩ n z 1 x=some L/\ROut p (if x.AS.all (okE z)=true/\jR p s x z then rest p f s n z x else none) L:=by
 obtain⟨op,nn,ar,ks⟩:=x
 obtain⟨g1,g2,g3⟩:=hp.args _ hx
 dsimp only at g1 g2 g3
 obtain⟨m',rfl⟩:∃ k,m=k+1:=⟨m - 1,by omega⟩
 simp only [Nat.add_sub_cancel]at hv'
 have e1:=rn1 (AA:=m'+1) (by omega) (op:=op) (nn:=nn) (ks:=ks) (z:=z) ar [] (m'+1) (by omega) (by simp;omega) g3
 simp only [a1j,a0V,a0q]at e1
 have hsets:(ob s.AP).set n.toNat 1=ob (s.AP.set n.toNat true):=ob_set.symm
 have hl1:((ob s.AP).set n.toNat 1).length=p.AD.length:=by simp [iU,hs.AP]
 have hl2:(ob s.AT).length=p.AE.length:=by rw [iU,hs.AT]
 rw [tailR]
 dsimp only
 rw [e1,bsm]
 have good:∀ (zz:Int) (s1:VS),0<=zz->zz+80*f<=100000->WS p s1->unm s1<=f->∃ L,iY (eK (m'+1)) ⟨op,nn,ar,ks⟩ zz (m'+1) 0 p.AF p.AD p.AE p.AG s1.sz (ob s1.AP) (ob s1.AT) false=some L/\ROut p (cU (vis p f) s1 (ks.map fun k=>(k,zz))) L:=fun zz s1 a b c d=>by
  have:=rk2 hv (op:=op) (nn:=nn) (ar:=ar) (z:=zz) ⟨a,b⟩ ks [] (m'+1) s1 (by omega) (by simp;omega) c d
  simpa only [a1j,a0V,a0q] using this
 have w1:=(sF hs (p:=p) (i:=n.toNat) (j:=0) (z:=z)).1
 have hne4:op≠4->rest p f s n z ⟨op,nn,ar,ks⟩=cU (vis p f) ⟨s.sz.set n.toNat z,s.AP.set n.toNat true,s.AT⟩ (ks.map fun k=>(k,z)):=fun h=>by rw [rest,a1X h]
 by_cases o2:op=2\/op=6\/op=8
 ·have hb:((if op=2 then some (decide (op=2)) else if op=6 then some (decide (op=6)) else some (decide (op=8))):Option Bool)=some true:=by
   rcases o2 with rfl | rfl | rfl <;> rfl
  have hk:jR p s ⟨op,nn,ar,ks⟩ z ↔ (0<=nn/\nn<z):=by unfold jR;rw [a1Y o2]
  rw [hb,bsm,a1T];cases hall2:ar.all (okE z)with
  | false=>
   rw [a0n,a1T,bsm];dsimp only
   rw [qX,a1X (fun q=>by cases q.1)]
   exact⟨_,rfl,iZ hl1 hl2⟩
  | true=>
   rw [a0o,a1S];by_cases n0:nn<0
   ·rw [a1Y n0,bsm];dsimp only
    rw [qX,a1X (fun q=>by have:=hk.1 q.2;omega)]
    exact⟨_,rfl,iZ hl1 hl2⟩
   ·rw [a1X n0,bsm];dsimp only
    by_cases n1:z<=nn
    ·rw [a1V n1,qX,a1X (fun q=>by have:=hk.1 q.2;omega)]
     exact⟨_,rfl,iZ hl1 hl2⟩
    ·rw [a1U n1,a1Y ⟨rfl,hk.2 ⟨by omega,by omega⟩⟩,hne4 (by omega),hsets];exact good z ⟨s.sz.set n.toNat z,s.AP.set n.toNat true,s.AT⟩ hz.1 (by omega) w1 (hun _)
 ·have hb:((if op=2 then some (decide (op=2)) else if op=6 then some (decide (op=6)) else some (decide (op=8))):Option Bool)=some false:=by
   rw [a1X (by omega),a1X (by omega),a1U (by omega)]
  rw [hb,bsm,a1S];by_cases o4:op=4
  ·subst o4;have hk:jR p s ⟨4,nn,ar,ks⟩ z ↔ (0<=nn/\nn<(p.AE.length:Int)/\idx s.AT nn=some false):=by unfold jR;rw [a1X o2,a1Y rfl]
   rw [a1Y rfl];by_cases n0:nn<0
   ·rw [a1Y n0,bsm,bsm];dsimp only
    rw [a1X (fun q=>by have:=hk.1 q.2;omega)]
    exact⟨_,rfl,iZ hl1 hl2⟩
   ·rw [a1X n0];by_cases n1:(p.AE.length:Int)<=nn
    ·rw [a1Y n1,bsm,bsm];dsimp only
     rw [a1X (fun q=>by have:=hk.1 q.2;omega)]
     exact⟨_,rfl,iZ hl1 hl2⟩
    ·rw [a1X n1];obtain⟨b,hbb⟩:=eY (xs:=s.AT) (show 0<=nn by omega) (by rw [hs.AT];omega)
     obtain⟨d,hd⟩:=eY (xs:=p.AE) (show 0<=nn by omega) (by omega)
     have hok:=hall d (kI hd);have hsm:=hp.AT d (kI hd);obtain⟨k1,k2,k3,_,_⟩:=gI hok;have hown:0<=own d/\own d<=60:=by unfold own;omega
     rw [aCv hbb,bsm];cases b with
     | true=>
      rw [a1Y rfl,a1Y (by omega),bsm,bsm];dsimp only
      rw [a1X (fun q=>by have:=(hk.1 q.2).2.2;rw [hbb]at this;cases this)]
      exact⟨_,rfl,iZ hl1 hl2⟩
     | false=>
      have hkk:jR p s ⟨4,nn,ar,ks⟩ z:=hk.2 ⟨by omega,by omega,hbb⟩
      rw [a1X a0m,a1X (by omega),bsm,aR (by omega),bsm,bsm,hd,bsm,rown_eq (by omega) (by omega),bsm,aR (by omega),bsm,bsm];have hsetd:(ob s.AT).set nn.toNat (0+1)=ob (s.AT.set nn.toNat true):=ob_set.symm;have w2:=(sF hs (p:=p) (i:=n.toNat) (j:=nn.toNat) (z:=z)).2;rw [hsets,hsetd];cases hall2:ar.all (okE z)with
      | false=>
       rw [a0n,rdef_bad (by omega) rfl,bsm,bsm];dsimp only
       rw [qX,a1X (fun q=>by cases q.1)]
       exact⟨_,rfl,iZ (by rw [<- hsets];exact hl1) (by rw [iU];simp [hs.AT])⟩
      | true=>
       rw [a0o,a1Y ⟨rfl,hkk⟩];obtain⟨L,h1,h2⟩:=rdef hv' hok hsm (by omega) (z:=z+own d) ⟨by omega,by omega⟩ w2 (hun (s.AT.set nn.toNat true))
       rw [show(⟨⟨p.AF,p.AD,p.AE,p.AG⟩,s.sz.set n.toNat z,ob (s.AP.set n.toNat true),ob (s.AT.set nn.toNat true),false⟩:Aa)=⟨p,s.sz.set n.toNat z,ob (s.AP.set n.toNat true),ob (s.AT.set nn.toNat true),false⟩from rfl,h1,bsm,bsm];dsimp only
       have hres:rest p f s n z ⟨4,nn,ar,ks⟩=((cU (vis p f) ⟨s.sz.set n.toNat z,s.AP.set n.toNat true,s.AT.set nn.toNat true⟩ (d.AL.map fun r=>(r.AQ,z+own d+brs d.AK r.AU))).bind fun s1=>cU (vis p f) s1 (d.AO.map fun y=>(y.AQ,z+own d))).bind fun s2=>cU (vis p f) s2 (ks.map fun k=>(k,z+own d)):=by
        rw [rest,a1Y rfl];dsimp only;rw [hd,bsm,a1Y hok,Option.bind_assoc]
       rw [hres];cases hc:(cU (vis p f) ⟨s.sz.set n.toNat z,s.AP.set n.toNat true,s.AT.set nn.toNat true⟩ (d.AL.map fun r=>(r.AQ,z+own d+brs d.AK r.AU))).bind fun s1=>cU (vis p f) s1 (d.AO.map fun y=>(y.AQ,z+own d))with
       | none=>
        rw [hc]at h2;obtain⟨q1,q2,q3⟩:=h2;rw [q1,qX];exact⟨_,rfl,rfl,q2,q3⟩
       | some s2=>
        rw [hc]at h2;have h2:L=_:=h2;subst h2;obtain⟨s1,a1,a2⟩:=bind_some hc;obtain⟨b1,b2⟩:=lT (visO p f) _ _ _ w2 (hun _) a1;have:=hun (s.AT.set nn.toNat true);obtain⟨c1,c2⟩:=lT (visO p f) _ _ _ b1 (by omega) a2
        rw [bsm];exact good (z+own d) s2 (by omega) (by omega) c1 (by omega)
  ·have hk:jR p s ⟨op,nn,ar,ks⟩ z ↔ nn=0:=by unfold jR;rw [a1X o2,a1X o4]
   rw [a1X o4];cases hall2:ar.all (okE z)with
   | false=>
    rw [a0n,a1T,bsm];dsimp only
    rw [qX,a1X (fun q=>by cases q.1)]
    exact⟨_,rfl,iZ hl1 hl2⟩
   | true=>
    rw [a0o,a1S,bsm];dsimp only
    by_cases n1:nn≠0
    ·rw [a1V n1,qX,a1X (fun q=>n1 (hk.1 q.2))];exact⟨_,rfl,iZ hl1 hl2⟩
    ·rw [a1U n1,a1Y ⟨rfl,hk.2 (by omega)⟩,hne4 o4,hsets];exact good z ⟨s.sz.set n.toNat z,s.AP.set n.toNat true,s.AT⟩ hz.1 (by omega) w1 (hun _)
theorem aJg {op:Int} {k c:Nat} (h:shp op=some (k,c)):uO op=some (if c=1 then -1 else if c=2 then 1 else 0,(k:Int),true):=by
 unfold shp at h
 split at h
 ·rename_i h1;cases h;rcases h1 with rfl | rfl <;> rfl
 split at h
 ·rename_i h1;cases h;subst h1;rfl
 split at h
 ·rename_i h1;cases h;subst h1;rfl
 split at h
 ·rename_i h1;cases h;subst h1;rfl
 split at h
 ·rename_i h1;cases h;rcases h1 with rfl | rfl <;> rfl
 split at h
 ·rename_i h1;cases h;subst h1;rfl
 ·cases h
theorem aIt {op:Int} (h:shp op=none):uO op=some (0,0,false):=by
 unfold shp at h
 rw [uO]
 split at h;· cases h
 split at h;· cases h
 split at h;· cases h
 split at h;· cases h
 split at h;· cases h
 split at h;· cases h
 rename_i h1 h2 h3 h4 h5 h6
 rw [a1X (by omega),bsm,a1U (by omega),a1S,a1X h3,a1X h2,a1X h4,a1X h6,a1X (by omega),bsm,a1U (by omega),a1S]
def rL (c:Nat) (l:Nat):Prop:=if c=1 then l<=3 else if c=2 then l=1 else l=0
theorem aBv {s:VS} {x:AW} {z:Int} {k c:Nat} (h:shp x.Op=some (k,c)):okM p s x z c ↔ jR p s x z/\rL c x.AS.length:=by
 have h0:=h
 unfold shp at h
 unfold jR rL
 split at h
 ·rename_i h1;cases h;rw [a1X (by omega),a1X (by omega)];simp [okM]
 split at h
 ·rename_i h1;cases h;rw [a1X (by omega),a1X (by omega)];simp [okM]
 split at h
 ·rename_i h1;cases h;rw [a1Y (.inl h1)];simp [okM]
 split at h
 ·rename_i h1;cases h;rw [a1X (by omega),a1X (by omega)];simp [okM]
 split at h
 ·rename_i h1;cases h;rw [a1Y (.inr h1)];simp [okM]
 split at h
 ·rename_i h1;cases h;rw [a1X (by omega),a1Y h1];simp [okM]
 ·cases h
open Classical in
theorem rnode_go (hp:SmP p) (hall:∀ d∈p.AE,okD d=true) (hm:3000001<=m) (hv:RVis p f (eK m)) (hv':RVis p f (eK (m - 1))) {s:VS} (hs:WS p s) {n z:Int} (hu:unm s<=f+1) (hz:0<=z/\z+69+80*f<=100000) (h:0<=n/\n<(p.AD.length:Int)/\idx s.AP n=some false):
 ∃ L,eK (m+1) ⟨p,s.sz,ob s.AP,ob s.AT,false⟩ n z=some L/\ROut p (vis p (f+1) s n z) L:=by
 obtain⟨x,hx⟩:=eY h.1 h.2.1
 obtain⟨v1,v2⟩:=vis_go (f:=f) (z:=z) h hx
 have hun:∀ AT,unm ⟨s.sz.set n.toNat z,s.AP.set n.toNat true,AT⟩<=f:=fun AT=>by
  have:=aBX (p:=p) (z:=z) (AT:=AT) h.1 h.2.2;omega
 obtain⟨b,hb⟩:=eY (xs:=s.sz) h.1 (by rw [hs.sz];exact h.2.1)
 have hl1:((ob s.AP).set n.toNat 1).length=p.AD.length:=by simp [iU,hs.AP]
 have hl2:(ob s.AT).length=p.AE.length:=by rw [iU,hs.AT]
 have hgo:=tailR_eq hp hall hm hv hv' hs (n:=n) (z:=z) (kI hx) hun hz
 rw [eK]
 dsimp only
 rw [a1X (by omega),a1X (by omega),aCv h.2.2,bsm,a1X a0m,a1X (by omega),bsm,aR (by omega),bsm,bsm,hb,bsm,hx,bsm]
 cases hsh:shp x.Op with
 | none=>
  rw [aIt hsh,bsm];dsimp only
  rw [a0n,a1T,bsm,bsm,v2 (by rintro⟨⟨k,c,g,_⟩,_⟩;rw [hsh]at g;cases g)];exact⟨_,rfl,iZ hl1 hl2⟩
 | some kc=>
  obtain⟨k,c⟩:=kc;rw [aJg hsh,bsm];dsimp only
  rw [a0o,a1S];by_cases hk:(x.AN.length:Int)≠(k:Int)
  ·rw [a1Y hk,bsm,bsm,v2 (by rintro⟨⟨k',c',g,g2,_⟩,_⟩;rw [hsh]at g;cases g;omega)];exact⟨_,rfl,iZ hl1 hl2⟩
  ·rw [a1X hk];have hfin:(if x.AS.all (okE z)=true/\jR p s x z then rest p f s n z x else none)=vis p (f+1) s n z\/¬ rL c x.AS.length:=by
    by_cases ha:rL c x.AS.length
    ·left
     by_cases hq:x.AS.all (okE z)=true/\jR p s x z
     ·rw [a1Y hq,v1 ⟨⟨k,c,hsh,by omega,(aBv hsh).2 ⟨hq.2,ha⟩⟩,hq.1⟩]
     ·rw [a1X hq,v2];rintro⟨⟨k',c',g,_,g3⟩,g4⟩
      rw [hsh]at g;cases g
      exact hq ⟨g4,((aBv hsh).1 g3).1⟩
    ·exact .inr ha
   have hbad:¬ rL c x.AS.length->vis p (f+1) s n z=none:=fun ha=>v2 (by
    rintro⟨⟨k',c',g,_,g3⟩,_⟩
    rw [hsh]at g;cases g
    exact ha ((aBv hsh).1 g3).2)
   obtain⟨L,e1,e2⟩:=hgo;by_cases ha:rL c x.AS.length
   ·rw [hfin.resolve_right (fun q=>q ha)]at e2;refine⟨L,?_,e2⟩;rw [<- e1];unfold rL at ha;by_cases c1:c=1
    ·rw [a1Y c1]at ha ⊢;rw [a1Y (by omega),a1X (by omega),a1X (by omega),bsm];rfl
    ·rw [a1X c1]at ha ⊢;by_cases c2:c=2
     ·rw [a1Y c2]at ha ⊢;rw [a1X (by omega),a1Y (by omega),a1X (by omega),bsm];rfl
     ·rw [a1X c2]at ha ⊢;rw [a1X (by omega),a1Y (by omega),a1X (by omega),bsm];rfl
   ·rw [hbad ha];refine⟨⟨p,s.sz.set n.toNat z,(ob s.AP).set n.toNat 1,ob s.AT,true⟩,?_,iZ hl1 hl2⟩;unfold rL at ha;by_cases c1:c=1
    ·rw [a1Y c1]at ha ⊢;rw [a1Y (by omega),a1Y (by omega),bsm,bsm];rfl
    ·rw [a1X c1]at ha ⊢;by_cases c2:c=2
     ·rw [a1Y c2]at ha ⊢;rw [a1X (by omega),a1Y (by omega),a1Y (by omega),bsm,bsm];rfl
     ·rw [a1X c2]at ha ⊢;rw [a1X (by omega),a1Y (by omega),a1Y (by omega),bsm,bsm];rfl
theorem aF2 {s:VS} (hs:WS p s) {n z:Int} (h:¬ (0<=n/\n<(p.AD.length:Int)/\idx s.AP n=some false)):∃ L,eK (m+1) ⟨p,s.sz,ob s.AP,ob s.AT,false⟩ n z=some L/\ROut p none L:=by
 have hl1:(ob s.AP).length=p.AD.length:=by rw [iU,hs.AP]
 have hl2:(ob s.AT).length=p.AE.length:=by rw [iU,hs.AT]
 refine⟨⟨p,s.sz,ob s.AP,ob s.AT,true⟩,?_,iZ hl1 hl2⟩
 rw [eK]
 dsimp only
 by_cases h0:n<0
 ·rw [a1Y h0]
 ·rw [a1X h0];by_cases h1:(p.AD.length:Int)<=n
  ·rw [a1Y h1]
  ·rw [a1X h1];obtain⟨b,hb⟩:=eY (xs:=s.AP) (show 0<=n by omega) (by rw [hs.AP];omega)
   cases b with
   | false=>exact absurd ⟨by omega,by omega,hb⟩ h
   | true=>rw [aCv hb,bsm,a1Y rfl,a1Y (by omega)]
end
theorem rvis {p:AI} (hp:SmP p) (hall:∀ d∈p.AE,okD d=true) (f:Nat):∀ g,3000003+2*f<=g->RVis p f (eK g):=by
 induction f with
 | zero=>
  intro g hg;obtain⟨g,rfl⟩:∃ k,g=k+1:=⟨g - 1,by omega⟩
  refine⟨fun s n z hs hu h0 h1=>?_⟩
  have h:¬ (0<=n/\n<(p.AD.length:Int)/\idx s.AP n=some false):=fun q=>by have:=aFJ q.2.2;omega
  rw [zT h];exact aF2 hs h
 | succ f ih=>
  intro g hg;obtain⟨g,rfl⟩:∃ k,g=k+1:=⟨g - 1,by omega⟩
  refine⟨fun s n z hs hu h0 h1=>?_⟩
  by_cases h:0<=n/\n<(p.AD.length:Int)/\idx s.AP n=some false
  ·exact rnode_go hp hall (m:=g) (by omega) (ih g (by omega)) (ih (g - 1) (by omega)) hs hu ⟨h0,by omega⟩ h
  ·rw [zT h];exact aF2 hs h
open Go.SX Go.SW Go.Dt
abbrev F:Nat:=1000000000
theorem aE8:∀ x y:List UInt8,Op.bytesLess x y=(!(Op.bytesLess y x || decide (y=x)))
 | [],[]=>rfl
 | [],b :: y=>by simp [Op.bytesLess]
 | a :: x,[]=>by simp [Op.bytesLess]
 | a :: x,b :: y=>by
  have ih:=aE8 x y;simp only [Op.bytesLess,ih];by_cases h1:a<b
  ·have h2:¬ b<a:=fun h=>by have:=UInt8.lt_trans h1 h;exact absurd this (by simp)
   have h3:b≠a:=fun h=>by subst h;exact absurd h1 (by simp)
   simp [h1,h2,h3]
  ·by_cases h2:b<a
   ·have h3:a≠b:=fun h=>by subst h;exact absurd h2 (by simp)
    simp [h1,h2,h3]
   ·have h3:a=b:=by
     have a1:=UInt8.not_lt.1 h1;have a2:=UInt8.not_lt.1 h2
     exact UInt8.le_antisymm a2 a1
    subst h3;simp
theorem slt_sle (a b:ByteArray):slt a b=!sle b a:=by
 have he:decide (b=a)=decide (b.toList=a.toList):=by
  rw [decide_eq_decide];exact⟨fun h=>by rw [h],fun h=>(by have:=(aAv (i:=b) (j:=a));rw [beq_iff_eq.2 h]at this;exact of_decide_eq_true this.symm)⟩
 unfold sle slt
 rw [he];exact aE8 _ _
theorem aEv (s:ByteArray):∀ (k:Nat) (i:Int),qC s k i=gX s k i
 | 0,_=>rfl
 | k+1,i=>by
  rw [qC,gX];simp only [aEv s k]
theorem aEU {s:ByteArray} (hs:s.size<=2000000):∀ (k i:Nat),s.size<k+i->i<=s.size->gX s k (i:Int)=some (.inr false)\/gX s k (i:Int)=some (.inl ())
 | 0,i,h,h2=>by omega
 | k+1,i,h,h2=>by
  rw [gX];by_cases hi:i<s.size
  ·have hx:sidx s (i:Int)=some ((s[i]'hi).toNat:Int):=by
    unfold sidx;rw [a1Y (by omega)];simp [hi]
   rw [a1Y (by omega),hx,bsm];by_cases c1:((s[i]'hi).toNat:Int)<97
   ·rw [a1Y c1];exact .inl rfl
   ·rw [a1X c1,bsm];by_cases c2:122<((s[i]'hi).toNat:Int)
    ·rw [a1Y c2];exact .inl rfl
    ·rw [a1X c2,aR (by omega),bsm];exact aEU hs k (i+1) (by omega) (by omega)
  ·rw [a1X (by omega)];exact .inr rfl
theorem aEs {s:ByteArray} (hs:s.size<=2000000):∀ (k k' i:Nat),s.size<k+i->s.size<k'+i->i<=s.size->gX s k (i:Int)=gX s k' (i:Int)
 | 0,_,i,h,_,h2=>by omega
 | _,0,i,_,h,h2=>by omega
 | k+1,k'+1,i,h,h',h2=>by
  rw [gX,gX];by_cases hi:i<s.size
  ·have e:=aEs hs k k' (i+1) (by omega) (by omega) (by omega)
   have e2:((i+1:Nat):Int)=(i:Int)+1:=by omega
   rw [e2]at e;simp only [aR (i:=(i:Int)+1) (by omega),bsm,e]
  ·rw [a1X (by omega),a1X (by omega)]
open Classical in
theorem has_loop {a:ByteArray} (AC:List ByteArray):∀ (AB:List ByteArray) (k:Nat),AC.length<k->AB.length+AC.length<=3000000->oU (AB++AC) a k AB.length=some (if a∈AC then .inr true else .inl ()):=by
 induction AC with
 | nil=>
  intro AB k hk _;obtain _ | k:=k
  ·omega
  rw [oU,a1X (by simp),a1X (by simp)]
 | cons e AC ih=>
  intro AB k hk hB;obtain _ | k:=k
  ·omega
  simp only [a0R]at hk hB;rw [oU,a1Y (bC _ _ _),bE,bsm];by_cases he:e=a
  ·rw [a1Y he,a1Y (by simp [he])];rfl
  ·have hm:(a∈e :: AC) ↔ a∈AC:=by simp [Ne.symm he]
   rw [a1X he,aR (by omega),bsm,bL AB AC e,bB AB e,ih (AB++[e]) k (by omega) (by simp;omega)];by_cases hs:a∈AC
   ·rw [a1Y hs,a1Y (hm.2 hs)]
   ·rw [a1X hs,a1X (fun q=>hs (hm.1 q))]
open Classical in
theorem qO {f:Nat} {l:List ByteArray} {a:ByteArray} (hf:3900000<=f) (h:l.length<=3000000):xA f l a=some (decide (a∈l)):=by
 have:=has_loop (a:=a) l [] f (by omega) (by simp;omega)
 simp only [a1j,a0V,a0q]at this
 rw [xA,this,bsm]
 by_cases hs:a∈l
 ·rw [a1Y hs];simp [hs]
 ·rw [a1X hs];simp [hs]
theorem upd_get {g:aL ByteArray Bool} {k s:ByteArray}:(aL.upd g k true).get s=if s=k then some true else g.get s:=rfl
theorem aDL {f:Nat} (hf:3900000<=f) {s:ByteArray} (hs:s.size<=2000000):∃ b,rV F s=some b/\tK f s=some b:=by
 have hl:=aEU hs F 0 (by show s.size<1000000000+0;omega) (by omega)
 have hle:=aEs hs f F 0 (by omega) (by show s.size<1000000000+0;omega) (by omega)
 simp only [a0q]at hl hle
 rw [rV,tK,aEv,hle]
 by_cases c1:(s.size:Int)<1
 ·rw [a1Y c1];refine⟨false,?_,rfl⟩;rcases hl with h | h <;> rw [h,bsm]
  dsimp only
  rw [a1X (by omega)];rfl
 ·rw [a1X c1];by_cases c2:8<(s.size:Int)
  ·rw [a1Y c2];refine⟨false,?_,rfl⟩;rcases hl with h | h <;> rw [h,bsm]
   dsimp only
   rw [a1Y (by omega),a1X (by omega)];rfl
  ·rw [a1X c2];rcases hl with h | h
   ·rw [h];exact⟨false,rfl,rfl⟩
   ·rw [h,bsm,bsm];dsimp only
    rw [a1Y (by omega),a1Y (by omega),qO hf (by simp),bsm];refine⟨_,?_,rfl⟩;rw [aAj,bsm,bsm];congr 2
    simp only [upd_get,aL.none,a1d,List.not_mem_nil,or_false]
    repeat' split
    all_goals simp_all
def nm (s:ByteArray):Bool:=(rV F s).getD false
theorem nm_p {s:ByteArray} (hs:s.size<=2000000):rV F s=some (nm s):=by
 obtain⟨b,h,_⟩:=aDL (f:=F) (by decide) hs;unfold nm;rw [h];rfl
theorem nm_r {f:Nat} {s:ByteArray} (hs:s.size<=2000000) (hf:3900000<=f:=by decide):tK f s=some (nm s):=by
 obtain⟨b,h,h2⟩:=aDL hf hs;unfold nm;rw [h,h2];rfl
def okF:Option ByteArray->List ByteArray->Bool
 | _,[]=>true
 | q,s :: l=>nm s && (match q with | none=>true | some q=>slt q s) && okF (some s) l
theorem aE6 {α:Type} {AB AC:List α} {y:α} (h:0<AB.length):∃ q,AB.getLast? =some q/\idx (AB++y :: AC) ((AB.length:Int) - 1)=some q:=by
 have hne:AB≠[]:=fun e=>by rw [e]at h;simp at h
 have hd:=List.dropLast_concat_getLast hne
 generalize AB.dropLast=d,AB.getLast hne=q at hd
 subst hd
 refine⟨q,by simp,?_⟩
 rw [show(((d++[q]).length:Int) - 1)=(d.length:Int)from by simp]
 exact pZ (by simp)
theorem fl1 {nodes:List AW} {AV:List AM} {mn:Int} (AC:List ByteArray):∀ (AB:List ByteArray) (k:Nat),AC.length<k->AB.length+AC.length<=3000000->(∀ x∈AC,x.size<=2000000) ->
 mB F ⟨AB++AC,nodes,AV,mn⟩ k AB.length=some (if okF AB.getLast? AC=true then .inl () else .inr (.inr flaw)):=by
 induction AC with
 | nil=>
  intro AB k hk _ _;obtain _ | k:=k
  ·omega
  rw [mB,a1X (by simp),a1Y (by rfl)]
 | cons e AC ih=>
  intro AB k hk hB hx;obtain _ | k:=k
  ·omega
  simp only [a0R]at hk hB;have hgl:(AB++[e]).getLast? =some e:=by simp
  rw [mB,a1Y (bC _ _ _)];dsimp only
  rw [bE,bsm,nm_p (hx e (.head _)),bsm];have hst:okF AB.getLast? (e :: AC)=(nm e && (match AB.getLast? with | none=>true | some q=>slt q e) && okF (some e) AC):=by
   cases AB.getLast? <;> rfl
  cases hn:nm e with
  | false=>rw [hst,hn,Bool.false_and,Bool.false_and];rfl
  | true=>
   rw [a1T];rw [hn,a0p]at hst;have hnext:=ih (AB++[e]) k (by omega) (by simp;omega) (fun x h=>hx x (.tail _ h))
   rw [hgl]at hnext;by_cases h0:(AB.length:Int)=0
   ·have:AB=[]:=a0y (by omega)
    subst this;have hst:okF ([]:List ByteArray).getLast? (e :: AC)=okF (some e) AC:=by rw [hst];rfl
    rw [a1Y h0,eH,bsm,hst];dsimp only
    rw [bsm];dsimp only
    rw [aR (by simp),bsm,bL [] AC e,bB [] e,hnext]
   ·obtain⟨q,h1,h2⟩:=aE6 (AB:=AB) (AC:=AC) (y:=e) (by omega)
    have hst:okF AB.getLast? (e :: AC)=(slt q e && okF (some e) AC):=by rw [hst,h1]
    rw [a1X h0,aR (by omega),bsm,h2,bsm,hst];cases hl:slt q e with
    | false=>rfl
    | true=>
     rw [eH,bsm,a0p];dsimp only
     rw [bsm];dsimp only
     rw [aR (by omega),bsm,bL AB AC e,bB AB e,hnext]
theorem fr_bad {f:Nat} {p:AI} (AC:List ByteArray):∀ (AB:List ByteArray) (k:Nat),p.AF=AB++AC->AC.length<k->AB.length+AC.length<=3000000->iS f p k AB.length true=some true:=by
 induction AC with
 | nil=>
  intro AB k he hk _;obtain _ | k:=k
  ·omega
  rw [iS,he,a1X (by simp)]
 | cons e AC ih=>
  intro AB k he hk hB;obtain _ | k:=k
  ·omega
  simp only [a0R]at hk hB;rw [iS,he,a1Y (bC _ _ _),a1T,bsm,aR (by omega),bsm,bB AB e];exact ih (AB++[e]) k (by rw [he];simp) (by omega) (by simp;omega)
theorem fr1 {f:Nat} (hf:3900000<=f) {p:AI} (AC:List ByteArray):∀ (AB:List ByteArray) (k:Nat),p.AF=AB++AC->AC.length<k->AB.length+AC.length<=3000000->(∀ x∈AC,x.size<=2000000) ->
 iS f p k AB.length false=some (!okF AB.getLast? AC):=by
 induction AC with
 | nil=>
  intro AB k he hk _ _;obtain _ | k:=k
  ·omega
  rw [iS,he,a1X (by simp)];rfl
 | cons e AC ih=>
  intro AB k he hk hB hx;obtain _ | k:=k
  ·omega
  simp only [a0R]at hk hB;have hgl:(AB++[e]).getLast? =some e:=by simp
  have hst:okF AB.getLast? (e :: AC)=(nm e && (match AB.getLast? with | none=>true | some q=>slt q e) && okF (some e) AC):=by
   cases AB.getLast? <;> rfl
  have hnext:=ih (AB++[e]) k (by rw [he];simp) (by omega) (by simp;omega) (fun x h=>hx x (.tail _ h))
  have hbadn:=fr_bad (f:=f) (p:=p) AC (AB++[e]) k (by rw [he];simp) (by omega) (by simp;omega)
  rw [hgl]at hnext;rw [iS,he,a1Y (bC _ _ _),a1S,bE,bsm,nm_r (hx e (.head _)) hf,bsm,hst];cases hn:nm e with
  | false=>
   rw [a0n,a1T,bsm,aR (by omega),bsm,bB AB e,hbadn];rfl
  | true=>
   rw [a0o,a1S,a0p];by_cases h0:0<(AB.length:Int)
   ·obtain⟨q,h1,h2⟩:=aE6 (AB:=AB) (AC:=AC) (y:=e) (by omega)
    have hst2:(match AB.getLast? with | none=>true | some q=>slt q e)=!sle e q:=by rw [h1];exact slt_sle q e
    rw [hst2,a1Y h0,bsm,aR (by omega),bsm,h2,bsm,bsm,aR (by omega),bsm,bB AB e];cases hl:sle e q with
    | true=>rw [hbadn];rfl
    | false=>rw [hnext];rfl
   ·have:AB=[]:=a0y (by omega)
    subst this;rw [a1X h0,bsm,aR (by simp),bsm,bB [] e,hnext];simp
open Go.SX Go.SW Go.Dt
def start (p:AI):VS:=⟨List.replicate p.AD.length 0,List.replicate p.AD.length false,List.replicate p.AE.length false⟩
open Classical in
noncomputable def fC (p:AI):Option VS:=
 if p.AF.length<=12/\p.AD.length<=60/\p.AE.length<=12/\okF none p.AF=true then
  (vis p p.AD.length (start p) p.AG p.AF.length).bind fun s=>if s.AP.all id=true/\s.AT.all id=true then some s else none
 else none
theorem xL {p:AI}:WS p (start p):=⟨by simp [start],by simp [start],by simp [start]⟩
theorem xG {p:AI}:unm (start p)=p.AD.length:=by simp [unm,start,List.countP_replicate]
def GD (p:AI) (s:VS):Prop:=∀ i:Nat,s.AT[i]? =some true->∃ d,p.AE[i]? =some d/\okD d=true
theorem wF {p:AI} {g:VS->Int->Int->Option VS} (h:∀ s n z s',g s n z=some s'->GD p s->GD p s'):∀ (l:List (Int × Int)) (s s':VS),cU g s l=some s'->GD p s->GD p s'
 | [],s,s',e,h0=>by cases e;exact h0
 | x :: l,s,s',e,h0=>by
  obtain⟨s1,e1,e2⟩:=bind_some e;exact wF h l s1 s' e2 (h _ _ _ _ e1 h0)
theorem vis_gd {p:AI} (f:Nat):∀ (s:VS) (n z:Int) (s':VS),vis p f s n z=some s'->GD p s->GD p s':=by
 induction f with
 | zero=>intro s n z s' h;simp [vis]at h
 | succ f ih=>
  intro s n z s' h h0;simp only [vis]at h;split at h
  ·obtain⟨x,_,h⟩:=bind_some h;split at h
   ·split at h
    ·obtain⟨d,hd,h⟩:=bind_some h;split at h
     ·rename_i hok;obtain⟨s1,e1,h⟩:=bind_some h;obtain⟨s2,e2,e3⟩:=bind_some h;refine wF ih _ _ _ e3 (wF ih _ _ _ e2 (wF ih _ _ _ e1 ?_));intro i hi;by_cases hn:x.N.toNat=i
      ·obtain⟨j,hj,hj2,_⟩:=uQ hd;rw [<- hn,hj];simp only [a0r];exact⟨d,hj2,hok⟩
      ·simp only [List.getElem?_set_ne hn]at hi;exact h0 i hi
     ·cases h
    ·exact wF ih _ _ _ h h0
   ·cases h
  ·cases h
theorem aDp {p:AI} {s:VS} (h:fC p=some s):∀ d∈p.AE,okD d=true:=by
 unfold fC at h
 split at h
 ·obtain⟨s1,h1,h2⟩:=bind_some h;split at h2
  ·rename_i hc;cases h2;have hg:=vis_gd _ _ _ _ _ h1 (fun i hi=>by simp [start,List.getElem?_replicate]at hi)
   have hw:=((visO p p.AD.length).out _ _ _ _ xL (by rw [xG];exact a1B _) h1).1
   intro d hd;obtain⟨i,hi⟩:=a1e.1 hd;have hlt:=(a0K.1 hi).1;have hlt2:i<s.AT.length:=by rw [hw.AT];exact hlt
   have ht:s.AT[i]=true:=a0t.1 hc.2 _ (List.getElem_mem hlt2);obtain⟨d',h3,h4⟩:=hg i (by rw [a0I hlt2,ht])
   rw [hi]at h3;cases h3;exact h4
  ·cases h2
 ·cases h
theorem aH1 (AC:List Bool):∀ (AB:List Bool) (k:Nat),AC.length<k->AB.length+AC.length<=3000000->∃ r,oP (AB++AC) false k AB.length=some r/\((AC.all id=false/\∃ i:Int,r= .inr i/\0<=i)\/(AC.all id=true/\r= .inl ())):=by
 induction AC with
 | nil=>
  intro AB k hk _;obtain _ | k:=k
  ·omega
  exact⟨_,by rw [oP,a1X (by simp)], .inr ⟨rfl,rfl⟩⟩
 | cons e AC ih=>
  intro AB k hk hB;obtain _ | k:=k
  ·omega
  simp only [a0R]at hk hB;rw [oP,a1Y (bC _ _ _),bE,bsm];cases e with
  | false=>exact⟨_,rfl, .inl ⟨rfl,_,rfl,by omega⟩⟩
  | true=>
   rw [show(false==true)=false from rfl,a1S,aR (by omega),bsm,bL AB AC true,bB AB true];obtain⟨r,h1,h2⟩:=ih (AB++[true]) k (by omega) (by simp;omega)
   exact⟨r,h1,by simpa using h2⟩
theorem aDz {l:List Bool} (h:l.length<=3000000):uS F l false=some (!l.all id):=by
 obtain⟨r,h1,h2⟩:=aH1 l [] F (by show l.length<1000000000;omega) (by simp;omega)
 simp only [a1j,a0V,a0q]at h1
 rw [uS,aAZ,h1]
 rcases h2 with⟨h2,i,rfl,h3⟩ | ⟨h2,rfl⟩
 ·rw [h2];simp [h3]
 ·rw [h2];rfl
theorem aCT {p:AI} (hp:SmP p):vK F p=some (jC p (fC p)):=by
 obtain⟨fr,nodes,AV,mn⟩:=p
 have hf:=hp.free;have hn:=hp.nodes;have hd:=hp.AV
 dsimp only at hf hn hd
 rw [vK]
 dsimp only
 unfold fC
 dsimp only
 by_cases l1:fr.length<=12
 ·rw [a1Y (by omega)];by_cases l2:nodes.length<=60
  ·rw [a1Y (by omega)];by_cases l3:AV.length<=12
   ·rw [a1V (by omega),eH,bsm,bsm];dsimp only
    have e1:mB F ⟨fr,nodes,AV,mn⟩ F 0=some (if okF none fr=true then .inl () else .inr (.inr flaw)):=fl1 (nodes:=nodes) (AV:=AV) (mn:=mn) fr [] F (by show fr.length<1000000000;omega) (by simp;omega) hp.names
    rw [e1,bsm];by_cases hok:okF none fr=true
    ·rw [a1Y hok,a1Y ⟨l1,l2,l3,hok⟩];dsimp only
     have hmk:∀ {α:Type} (a:α) (k:Nat),k<=60->mk a (k:Int)=some (List.replicate k a):=fun a k hk=>by unfold mk;rw [a1Y (by omega)];simp
     rw [hmk 0 _ l2,bsm,hmk false _ l2,bsm,hmk false _ (by omega),bsm];have hv:=pvis hp (b:=1000000000 - nodes.length - 1) (by omega) nodes.length
     rw [show 1000000000 - nodes.length - 1+nodes.length+1=F from by show _=1000000000;omega]at hv
     have hrun:=hv.run (start ⟨fr,nodes,AV,mn⟩) mn fr.length xL (by rw [xG];exact a1B _) (by omega) (by omega)
     rw [show(⟨⟨fr,nodes,AV,mn⟩,List.replicate nodes.length 0,List.replicate nodes.length false,List.replicate AV.length false⟩:AX)=⟨⟨fr,nodes,AV,mn⟩,(start ⟨fr,nodes,AV,mn⟩).sz,(start ⟨fr,nodes,AV,mn⟩).AP,(start ⟨fr,nodes,AV,mn⟩).AT⟩from rfl,hrun,bsm];cases hc:vis ⟨fr,nodes,AV,mn⟩ nodes.length (start ⟨fr,nodes,AV,mn⟩) mn fr.length with
     | none=>rfl
     | some s=>
      obtain⟨w,_⟩:=(visO _ _).out _ _ _ _ xL (by rw [xG];exact a1B _) hc
      have wm:s.AP.length=nodes.length:=w.AP;have wd:s.AT.length=AV.length:=w.AT;simp only [jC];rw [bsm,aDz (by omega),bsm];cases hm:s.AP.all id with
      | false=>rw [a1X (fun q=>by cases q.1)];rfl
      | true=>
       rw [a0o,a0n,a1T,aDz (by omega),bsm];cases hm2:s.AT.all id with
       | false=>rw [a1X (fun q=>by cases q.2)];rfl
       | true=>rw [a1Y ⟨rfl,rfl⟩];rfl
    ·rw [a1X hok,a1X (fun q=>hok q.2.2.2)];rfl
   ·rw [a1U (by omega),dA,a1X (fun q=>l3 q.2.2.1)];rfl
  ·rw [a1X (by omega),dA,a1X (fun q=>l2 q.2.1)];rfl
 ·rw [a1X (by omega),dA,a1X (fun q=>l1 q.1)];rfl
theorem aGt {f:Nat} {p:AI} (AC:List AM):∀ (AB:List AM) (k:Nat),p.AE=AB++AC->AC.length<k->AB.length+AC.length<=3000000->jW f p k AB.length true=some true:=by
 induction AC with
 | nil=>
  intro AB k he hk _;obtain _ | k:=k
  ·omega
  rw [jW,he,a1X (by simp)]
 | cons e AC ih=>
  intro AB k he hk hB;obtain _ | k:=k
  ·omega
  simp only [a0R]at hk hB;rw [jW,he,a1Y (bC _ _ _),a1T,bsm,aR (by omega),bsm,bB AB e];exact ih (AB++[e]) k (by rw [he];simp) (by omega) (by simp;omega)
theorem al2 {f:Nat} (hf:3900000<=f) {p:AI} (hp:SmP p) (AC:List AM):∀ (AB:List AM) (k:Nat),p.AE=AB++AC->AC.length<k->AB.length+AC.length<=3000000->jW f p k AB.length false=some (!AC.all okD):=by
 induction AC with
 | nil=>
  intro AB k he hk _;obtain _ | k:=k
  ·omega
  rw [jW,he,a1X (by simp)];rfl
 | cons e AC ih=>
  intro AB k he hk hB;obtain _ | k:=k
  ·omega
  simp only [a0R]at hk hB;have hmem:e∈p.AE:=by rw [he];simp
  rw [jW,he,a1Y (bC _ _ _),a1S,bE,bsm,rdef_eq (by omega) (hp.AT e hmem),bsm,bsm,aR (by omega),bsm,bB AB e];cases h:okD e with
  | false=>rw [a0n,aGt AC (AB++[e]) k (by rw [he];simp) (by omega) (by simp;omega),show(e :: AC).all okD=(okD e && AC.all okD)from rfl,h];rfl
  | true=>rw [a0o,ih (AB++[e]) k (by rw [he];simp) (by omega) (by simp;omega),show(e :: AC).all okD=(okD e && AC.all okD)from rfl,h,a0p]
theorem aDE {L:Aa} (AC:List Int):∀ (AB:List Int) (k:Nat),L.Ah=AB++AC->AC.length<k->AB.length+AC.length<=3000000->jP L k AB.length true=some true:=by
 induction AC with
 | nil=>
  intro AB k he hk _;obtain _ | k:=k
  ·omega
  rw [jP,he,a1X (by simp)]
 | cons e AC ih=>
  intro AB k he hk hB;obtain _ | k:=k
  ·omega
  simp only [a0R]at hk hB;rw [jP,he,a1Y (bC _ _ _),a1T,bsm,aR (by omega),bsm,bB AB e];exact ih (AB++[e]) k (by rw [he];simp) (by omega) (by simp;omega)
theorem aCP {L:Aa} (AC:List Int):∀ (AB:List Int) (k:Nat),L.Ag=AB++AC->AC.length<k->AB.length+AC.length<=3000000->jT L k AB.length true=some true:=by
 induction AC with
 | nil=>
  intro AB k he hk _;obtain _ | k:=k
  ·omega
  rw [jT,he,a1X (by simp)]
 | cons e AC ih=>
  intro AB k he hk hB;obtain _ | k:=k
  ·omega
  simp only [a0R]at hk hB;rw [jT,he,a1Y (bC _ _ _),a1T,bsm,aR (by omega),bsm,bB AB e];exact ih (AB++[e]) k (by rw [he];simp) (by omega) (by simp;omega)
theorem al3 {L:Aa} (AC:List Bool):∀ (AB:List Int) (k:Nat),L.Ah=AB++ob AC->AC.length<k->AB.length+AC.length<=3000000->jP L k AB.length false=some (!AC.all id):=by
 induction AC with
 | nil=>
  intro AB k he hk _;obtain _ | k:=k
  ·omega
  rw [jP,he,a1X (by simp [ob])];rfl
 | cons e AC ih=>
  intro AB k he hk hB;obtain _ | k:=k
  ·omega
  simp only [a0R]at hk hB;have hob:ob (e :: AC)=(if e=true then 1 else 0) :: ob AC:=rfl
  rw [hob]at he;have he2:=he;rw [bL]at he2;rw [jP,he,a1Y (bC _ _ _),a1S,bE,bsm,bsm,aR (by omega),bsm,bB AB (if e=true then 1 else 0)];cases e with
  | false=>
   rw [a1X a0m]at he2 ⊢;rw [a1V (by omega),aDE (ob AC) (AB++[0]) k he2 (by rw [iU];omega) (by rw [iU];simp;omega)];rfl
  | true=>
   rw [a1Y rfl]at he2 ⊢;rw [a1U (by omega),ih (AB++[1]) k he2 (by omega) (by simp;omega)];simp
theorem al4 {L:Aa} (AC:List Bool):∀ (AB:List Int) (k:Nat),L.Ag=AB++ob AC->AC.length<k->AB.length+AC.length<=3000000->jT L k AB.length false=some (!AC.all id):=by
 induction AC with
 | nil=>
  intro AB k he hk _;obtain _ | k:=k
  ·omega
  rw [jT,he,a1X (by simp [ob])];rfl
 | cons e AC ih=>
  intro AB k he hk hB;obtain _ | k:=k
  ·omega
  simp only [a0R]at hk hB;have hob:ob (e :: AC)=(if e=true then 1 else 0) :: ob AC:=rfl
  rw [hob]at he;have he2:=he;rw [bL]at he2;rw [jT,he,a1Y (bC _ _ _),a1S,bE,bsm,bsm,aR (by omega),bsm,bB AB (if e=true then 1 else 0)];cases e with
  | false=>
   rw [a1X a0m]at he2 ⊢;rw [a1V (by omega),aCP (ob AC) (AB++[0]) k he2 (by rw [iU];omega) (by rw [iU];simp;omega)];rfl
  | true=>
   rw [a1Y rfl]at he2 ⊢;rw [a1U (by omega),ih (AB++[1]) k he2 (by omega) (by simp;omega)];simp
def AOut (p:AI) (o:Option VS) (L:Aa):Prop:=match o with
 | some s=>L=⟨p,s.sz,ob s.AP,ob s.AT,false⟩
 | none=>L.bad=true
theorem iK {f:Nat} {p:AI} (hp:SmP p) (hfu:3900000<=f:=by decide):∃ L,uA f p=some L/\AOut p (fC p) L:=by
 have hdefs:fC p≠none->∀ d∈p.AE,okD d=true:=fun h=>by
  cases hc:fC p with
  | none=>exact absurd hc h
  | some s=>exact aDp hc
 obtain⟨fr,nodes,AV,mn⟩:=p
 have hf:=hp.free;have hn:=hp.nodes;have hd:=hp.AV
 dsimp only at hf hn hd
 rw [uA]
 dsimp only
 have hno:∀ (q:¬ (fr.length<=12/\nodes.length<=60/\AV.length<=12/\okF none fr=true)),fC ⟨fr,nodes,AV,mn⟩=none:=fun q=>by unfold fC;rw [a1X q]
 by_cases l1:12<fr.length
 ·rw [a1Y (by omega),hno (fun q=>by omega)];exact⟨_,rfl,rfl⟩
 ·rw [a1X (by omega)];by_cases l2:60<nodes.length
  ·rw [a1Y (by omega),hno (fun q=>by omega)];exact⟨_,rfl,rfl⟩
  ·rw [a1X (by omega)];by_cases l3:12<AV.length
   ·rw [a1Y (by omega),hno (fun q=>by omega)];exact⟨_,rfl,rfl⟩
   ·rw [a1X (by omega)];have e1:iS f ⟨fr,nodes,AV,mn⟩ f 0 false=some (!okF none fr):=fr1 hfu (p:=⟨fr,nodes,AV,mn⟩) fr [] f rfl (by omega) (by simp;omega) hp.names
    have hmk:∀ (k:Nat),k<=60->mk (0:Int) (k:Int)=some (List.replicate k 0):=fun k hk=>by unfold mk;rw [a1Y (by omega)];simp
    rw [e1,bsm];cases hok:okF none fr with
    | false=>
     have e2:=aGt (f:=f) (p:=⟨fr,nodes,AV,mn⟩) AV [] f rfl (by omega) (by simp;omega)
     simp only [a0V,a0q]at e2;rw [a0n,e2,bsm,hmk _ (by omega),bsm,bsm,hmk _ (by omega),bsm,a1T,hno (fun q=>by rw [hok]at q;cases q.2.2.2)]
     exact⟨_,rfl,rfl⟩
    | true=>
     have e2:=al2 hfu hp (p:=⟨fr,nodes,AV,mn⟩) AV [] f rfl (by omega) (by simp;omega)
     simp only [a0V,a0q]at e2;rw [a0o,e2,bsm,hmk _ (by omega),bsm,bsm,hmk _ (by omega),bsm];cases had:AV.all okD with
     | false=>
      have:fC ⟨fr,nodes,AV,mn⟩=none:=by
       cases hc:fC ⟨fr,nodes,AV,mn⟩with
       | none=>rfl
       | some s=>
        have:=a0t.2 (hdefs (by rw [hc];simp))
        dsimp only at this
        rw [had]at this;cases this
      rw [this,a0n,a1T];exact⟨_,rfl,rfl⟩
     | true=>
      rw [a0o,a1S];have hv:=rvis hp (a0t.1 had) nodes.length f (by omega)
      obtain⟨L,h1,h2⟩:=hv.run (start ⟨fr,nodes,AV,mn⟩) mn fr.length xL (by rw [xG];exact a1B _) (by omega) (by omega)
      have hst:(⟨⟨fr,nodes,AV,mn⟩,List.replicate nodes.length 0,List.replicate nodes.length 0,List.replicate AV.length 0,false⟩:Aa)=⟨⟨fr,nodes,AV,mn⟩,(start ⟨fr,nodes,AV,mn⟩).sz,ob (start ⟨fr,nodes,AV,mn⟩).AP,ob (start ⟨fr,nodes,AV,mn⟩).AT,false⟩:=by
       simp [start,ob_rep]
      rw [hst,h1,bsm];have hcv:fC ⟨fr,nodes,AV,mn⟩=(vis ⟨fr,nodes,AV,mn⟩ nodes.length (start ⟨fr,nodes,AV,mn⟩) mn fr.length).bind fun s=>if s.AP.all id=true/\s.AT.all id=true then some s else none:=by
       unfold fC;rw [a1Y ⟨by show fr.length<=12;omega,by show nodes.length<=60;omega,by show AV.length<=12;omega,hok⟩]
      rw [hcv];cases hc:vis ⟨fr,nodes,AV,mn⟩ nodes.length (start ⟨fr,nodes,AV,mn⟩) mn fr.length with
      | none=>
       rw [hc]at h2;obtain⟨g1,g2,g3⟩:=h2;dsimp only at g2 g3
       have e3:=aDE (L:=L) L.Ah [] f rfl (by rw [g2];omega) (by simp;omega)
       have e4:=aCP (L:=L) L.Ag [] f rfl (by rw [g3];omega) (by simp;omega)
       simp only [a0V,a0q]at e3 e4;rw [g1,e3,bsm,e4,bsm];exact⟨_,rfl,rfl⟩
      | some s=>
       rw [hc]at h2;have h2:L=_:=h2;subst h2;obtain⟨w,_⟩:=(visO _ _).out _ _ _ _ xL (by rw [xG];exact a1B _) hc
       have wm:s.AP.length=nodes.length:=w.AP;have wd:s.AT.length=AV.length:=w.AT;have e3:=al3 (L:=⟨⟨fr,nodes,AV,mn⟩,s.sz,ob s.AP,ob s.AT,false⟩) s.AP [] f rfl (by omega) (by simp;omega)
       simp only [a0V,a0q]at e3;dsimp only
       rw [e3,bsm,bsm];cases hm:s.AP.all id with
       | false=>
        have e4:=aCP (L:=⟨⟨fr,nodes,AV,mn⟩,s.sz,ob s.AP,ob s.AT,false⟩) (ob s.AT) [] f rfl (by rw [iU];omega) (by rw [iU];simp;omega)
        simp only [a0V,a0q]at e4;rw [a0n,e4,bsm,a1X (fun q=>by cases q.1)]
        exact⟨_,rfl,rfl⟩
       | true=>
        have e4:=al4 (L:=⟨⟨fr,nodes,AV,mn⟩,s.sz,ob s.AP,ob s.AT,false⟩) s.AT [] f rfl (by omega) (by simp;omega)
        simp only [a0V,a0q]at e4;rw [a0o,e4,bsm];cases hm2:s.AT.all id with
        | false=>rw [a1X (fun q=>by cases q.2)];exact⟨_,rfl,rfl⟩
        | true=>rw [a1Y ⟨rfl,rfl⟩];exact⟨_,rfl,rfl⟩
theorem aEc {p:AI} (hp:SmP p):xT F p=some (if (fC p).isSome=true then 0 else 2):=by
 obtain⟨L,h1,h2⟩:=iK (f:=F) hp
 rw [xT,show(⟨p.AF,p.AD,p.AE,p.AG⟩:AI)=p from rfl,h1,bsm]
 cases hc:fC p with
 | none=>rw [hc]at h2;have h2:L.bad=true:=h2;rw [h2];rfl
 | some s=>rw [hc]at h2;have h2:L=_:=h2;subst h2;rfl
theorem aD9 {f:Nat} {p:AI} (hp:SmP p) {s:VS} (h:fC p=some s) (hf:3900000<=f:=by decide):uB f p=some s.sz:=by
 obtain⟨L,h1,h2⟩:=iK hp hf
 rw [h]at h2
 have h2:L=_:=h2
 subst h2
 rw [uB,show(⟨p.AF,p.AD,p.AE,p.AG⟩:AI)=p from rfl,h1,bsm]
open Go.SX Go.SW Go.Dt
theorem aEZ {p:AI} {sz:List Int} {AP AT:List Bool} (hl:sz.length=p.AD.length) (hB:sz.length<=1000):∀ (d i k:Nat),i+d=sz.length->d<k->lP ⟨p,sz,AP,AT⟩ p (fun x=>rS x.1 x.2) k (sz.take i) i=some sz
 | 0,i,k,h,hk=>by
  obtain _ | k:=k
  ·omega
  rw [lP,a1X (by omega),a1s (by omega)]
 | d+1,i,k,h,hk=>by
  obtain _ | k:=k
  ·omega
  have hi:i<sz.length:=by omega
  rw [lP,a1Y (by omega)];dsimp only
  rw [rS,show idx sz (i:Int)=some sz[i]from pZ (a0I hi),bsm,bsm];have hr:cQ (sz.take i++[sz[i]])=some (sz.take (i+1)):=by
   have:sz.take i++[sz[i]]=sz.take (i+1):=by rw [List.take_add_one,a0I hi];rfl
   rw [this];unfold cQ;rw [a1Y (by simp;omega)]
  rw [hr,bsm,aR (by omega),bsm];exact aEZ hl hB d (i+1) k (by omega) (by omega)
theorem aE7 {p:AI} (hp:SmP p) {s:VS} (h:fC p=some s) (hl:s.sz.length=p.AD.length) (hB:p.AD.length<=60):vF F p=some (s.sz,0):=by
 have e:=aEZ (p:=p) (sz:=s.sz) (AP:=s.AP) (AT:=s.AT) hl (by omega) s.sz.length 0 F (by omega) (by rw [hl];show _<1000000000;omega)
 rw [List.take_zero]at e
 rw [vF,aAV,aAu,show(⟨p.AF,p.AD,p.AE,p.AG⟩:AI)=p from rfl,aCT hp,bsm,h]
 simp only [jC]
 rw [xK]
 have e':lP ⟨p,s.sz,s.AP,s.AT⟩ p (fun x=>rS x.1 x.2) F [] 0=some s.sz:=e
 rw [e',bsm,bsm,bsm,bsm]
abbrev E:=List (Option (Int × Int))
def chs (m:Int) (d:AM):E:=(List.range d.AK.length).map fun c:Nat=>some (m,(c:Int))
def inE (e:E) (m:Int) (d:AM):E:=e++chs m d++List.replicate d.AO.length none
def ruE (e:E) (m:Int) (d:AM) (r:Af):E:=inE e m d++List.replicate (brs d.AK r.AU).toNat none
def subs (p:AI) (x:AW) (e:E):List (Int × E):=
 if x.Op=4 then match idx p.AE x.N with
  | some d=>d.AL.map (fun r=>(r.AQ,ruE e x.N d r))++(d.AO.map (fun y=>(y.AQ,inE e x.N d))++x.AN.map (fun k=>(k,inE e x.N d)))
  | none=>[]
 else x.AN.map (fun k=>(k,e))
def okT (p:AI) (x:AW) (size:Int):Prop:=
 ((x.Op=1\/x.Op=7)/\x.AN.length=0)\/((x.Op=3\/x.Op=5)/\x.AN.length=2)\/(x.Op=2/\x.AS.length<=3/\x.AN.length=0/\0<=x.N/\x.N<size)\/((x.Op=6\/x.Op=8)/\x.AN.length=1)\/(x.Op=4/\x.AN.length=1/\0<=x.N/\∃ d,idx p.AE x.N=some d/\okD d=true)
def Tr (p:AI):Nat->Int × E->Prop
 | 0,_=>False
 | h+1,q=>∃ x,idx p.AD q.1=some x/\0<=q.1/\okT p x q.2.length/\∀ k∈subs p x q.2,Tr p h k
structure Chg (s s':VS) (N:List (Int × E)) (D:List (Int × Int)):Prop where
 nn:(N.map (·.1)).Nodup
 dn:(D.map (·.1)).Nodup
 new:∀ q∈N,idx s.AP q.1=some false/\idx s'.AP q.1=some true/\idx s'.sz q.1=some (q.2.length:Int)
 newd:∀ q∈D,idx s.AT q.1=some false/\idx s'.AT q.1=some true
 old:∀ i,i ∉ N.map (·.1)->idx s'.AP i=idx s.AP i/\idx s'.sz i=idx s.sz i
 oldd:∀ i,i ∉ D.map (·.1)->idx s'.AT i=idx s.AT i
 ls:s'.sz.length=s.sz.length
 lm:s'.AP.length=s.AP.length
theorem Chg.nil {s:VS}:Chg s s [] []:=⟨List.nodup_nil,List.nodup_nil,fun i h=>(by cases h),fun i h=>(by cases h),fun i _=>⟨rfl,rfl⟩,fun i _=>rfl,rfl,rfl⟩
theorem Chg.trans {s s1 s2:VS} {N N':List (Int × E)} {D D':List (Int × Int)} (h:Chg s s1 N D) (k:Chg s1 s2 N' D'):Chg s s2 (N++N') (D++D'):=by
 have hd:∀ i∈N.map (·.1),i ∉ N'.map (·.1):=fun i hi hi'=>by
  obtain⟨q,hq,rfl⟩:=a1f.1 hi;obtain⟨q',hq',e⟩:=a1f.1 hi';have a:=(h.new q hq).2.1;have b:=(k.new q' hq').1;rw [e,a]at b;cases b
 have hdd:∀ i∈D.map (·.1),i ∉ D'.map (·.1):=fun i hi hi'=>by
  obtain⟨q,hq,rfl⟩:=a1f.1 hi;obtain⟨q',hq',e⟩:=a1f.1 hi';have a:=(h.newd q hq).2;have b:=(k.newd q' hq').1;rw [e,a]at b;cases b
 refine⟨?_,?_,fun q hq=>?_,fun q hq=>?_,fun i hi=>?_,fun i hi=>?_,by rw [k.ls,h.ls],by rw [k.lm,h.lm]⟩
 ·rw [a0X];exact a1k.2 ⟨h.nn,k.nn,fun a ha b hb e=>hd a ha (e ▸ hb)⟩
 ·rw [a0X];exact a1k.2 ⟨h.dn,k.dn,fun a ha b hb e=>hdd a ha (e ▸ hb)⟩
 ·rcases a1a.1 hq with hq | hq
  ·have o:=k.old q.1 (hd _ (a1f.2 ⟨q,hq,rfl⟩));obtain⟨a,b,c⟩:=h.new q hq;exact⟨a,by rw [o.1,b],by rw [o.2,c]⟩
  ·have o:=h.old q.1 (fun z=>hd _ z (a1f.2 ⟨q,hq,rfl⟩))
   obtain⟨a,b,c⟩:=k.new q hq;exact⟨by rw [<- o.1,a],b,c⟩
 ·rcases a1a.1 hq with hq | hq
  ·have o:=k.oldd q.1 (hdd _ (a1f.2 ⟨q,hq,rfl⟩));obtain⟨a,b⟩:=h.newd q hq;exact⟨a,by rw [o,b]⟩
  ·have o:=h.oldd q.1 (fun z=>hdd _ z (a1f.2 ⟨q,hq,rfl⟩))
   obtain⟨a,b⟩:=k.newd q hq;exact⟨by rw [<- o,a],b⟩
 ·rw [a0X,a1a,not_or]at hi;have a:=h.old i hi.1;have b:=k.old i hi.2;exact⟨by rw [b.1,a.1],by rw [b.2,a.2]⟩
 ·rw [a0X,a1a,not_or]at hi;rw [k.oldd i hi.2,h.oldd i hi.1]
def mark (s:VS) (n z:Int) (x:AW):VS:=⟨s.sz.set n.toNat z,s.AP.set n.toNat true,if x.Op=4 then s.AT.set x.N.toNat true else s.AT⟩
theorem aCC {g:VS->Int->Int->Option VS}:∀ (l m:List (Int × Int)) (s:VS),cU g s (l++m)=(cU g s l).bind fun s=>cU g s m
 | [],m,s=>rfl
 | x :: l,m,s=>by
  simp only [a0w,cU];cases g s x.1 x.2 with
  | none=>rfl
  | some s1=>exact aCC l m s1
theorem aBt {α:Type} {l:List α} {n:Int} {b:α} (h0:0<=n) (h:n<l.length):idx (l.set n.toNat b) n=some b:=by
 have:idx (l.set n.toNat b) (n.toNat:Int)=some b:=pZ (by rw [a0M,a1Y rfl,a1Y (by omega)])
 rwa [a0s h0]at this
theorem aBm {α:Type} {l:List α} {n i:Int} {b:α} (h0:0<=n) (h:i≠n):idx (l.set n.toNat b) i=idx l i:=by
 unfold idx
 split
 ·rename_i hi;exact List.getElem?_set_ne (by omega)
 ·rfl
theorem fX {α:Type} {l:List α} {n:Int} {a:α} (h:idx l n=some a):0<=n/\n<l.length:=by
 by_cases c:0<=n/\n<l.length
 ·exact c
 ·rw [aBw c]at h;cases h
open Go.SX Go.SW Go.Dt
def pick (l a:List Int):List Int:=a.map fun i=>(idx l i).getD 0
def upto (n:Int) (k:Nat):List Int:=(List.range k).map fun (i:Nat)=>n+(i:Int)
mutual
def opE (l:List Int):AR->Option AR
 | ⟨op,n,ks⟩=>(if op=2 then idx l n else some n).bind fun m=>(opL l ks).bind fun ks'=>some ⟨op,m,ks'⟩
def opL (l:List Int):List AR->Option (List AR)
 | []=>some []
 | k :: ks=>(opE l k).bind fun k'=>(opL l ks).bind fun ks'=>some (k' :: ks')
end
def kN (op:Int):Bool:=decide (op=4\/op=6\/op=7\/op=8)
def lB (ch:List Al):List Int->Option Int
 | []=>some 0
 | c :: js=>(idx ch c).bind fun y=>if 0<=y.Ak/\y.Ak<=3 then(lB ch js).bind fun k=>some (y.Ak+k) else none
structure FS where
 seen:List Bool
 lists:List (List Int)
 taken:List (List Int)
 nd:List AW
def FS.put (s:FS) (n:Int) (l t:List Int) (z:AW):FS:=⟨s.seen.set n.toNat true,s.lists.set n.toNat l,s.taken.set n.toNat t,s.nd.set n.toNat z⟩
def limD (d:AM):Prop:=d.AK.length<=30/\d.AO.length<=30/\d.AL.length<=30
open Classical in
open Classical in
open Classical in
structure LimF (f:Ad):Prop where
 node:∀ y∈f.AD,y.AS.length<=3/\y.AN.length<=2/\∀ l a,opL l y.AS=some a->y.AS.all (okE l.length)=true
 AV:∀ d∈f.AE,limD d/\∀ r∈d.AL,r.AU.length<=3
open Go.SX Go.SW Go.Dt
theorem idx_in {α:Type} {xs:List α} {i:Int} {y:α} (h:idx xs i=some y):0<=i/\i<(xs.length:Int):=by
 obtain⟨j,rfl,hj,_⟩:=uQ h
 have:=(a0K.1 hj).1
 omega
theorem okN_args {p:AI} {s:VS} {y:AW} {z:Int} (h:okN p s y z):y.AS.length<=3/\y.AN.length<=2/\y.AS.all (okE z)=true/\y.Op≠0:=by
 obtain⟨⟨k,c,h1,h2,h3⟩,h4⟩:=h
 have h5:y.AS.length<=3:=by
  unfold okM at h3;split at h3
  ·omega
  ·omega
  ·omega
  ·omega
  ·omega
 refine⟨h5,?_,h4,fun h0=>?_⟩
 ·unfold shp at h1;split at h1
  ·cases h1;omega
  ·split at h1
   ·cases h1;omega
   ·split at h1
    ·cases h1;omega
    ·split at h1
     ·cases h1;omega
     ·split at h1
      ·cases h1;omega
      ·split at h1
       ·cases h1;omega
       ·cases h1
 ·rw [h0]at h1;simp [shp]at h1
open Go.SX Go.SW Go.Dt
theorem dI {β:Type} {l:List β} (h:l.length<=1000000000):cQ l=some l:=a1Y h
theorem mk_ok {α:Type} {z:α} {n:Nat} (h:n<=1000000000):mk z (n:Int)=some (List.replicate n z):=by unfold mk;rw [a1Y (by omega),a0r]
structure SmF (f:Ad):Prop where
 nodes:f.AD.length<=2000000
 AV:f.AE.length<=2000000
 free:f.AF.length<=2000000
 names:∀ x∈f.AF,x.size<=2000000
 args:∀ x∈f.AD,x.AS.length<=2000000/\x.AN.length<=2000000/\∀ e∈x.AS,nE e<=2000000
 takes:∀ x∈f.AD,x.Ab.length<=2000000
 AT:∀ d∈f.AE,smD d
 take:f.Ab.length<=2000000
theorem idx_ok {α:Type} {xs:List α} {i:Int} (h0:0<=i) (h1:i<(xs.length:Int)):∃ y,idx xs i=some y:=by
 obtain⟨j,rfl⟩:=Int.eq_ofNat_of_zero_le h0
 exact⟨xs[j],pZ (a0I (by omega))⟩
theorem aED (n:Int) (i:Nat):upto n (i+1)=upto n i++[n+(i:Int)]:=by simp [upto,List.range_succ]
theorem iL {n:Int} {k:Nat}:(upto n k).length=k:=by simp [upto]
theorem aEV {n:Int} {m:Nat} (hn:0<=n/\n<=1000000000) (hm:m<=500000000):∀ (j i k:Nat),i+j=m->j<k->lU n m k (upto n i) i=some (upto n m)
 | 0,i,k+1,h,_=>by
  rw [lU,a1X (by omega),show i=m from by omega]
 | j+1,i,k+1,h,hk=>by
  rw [lU,a1Y (by omega),aR (by omega),bsm,dI (by simp [iL];omega),bsm,aR (by omega),bsm,<- aED,show(i:Int)+1=((i+1:Nat):Int)from by omega];exact aEV hn hm j (i+1) k (by omega) (by omega)
theorem from_p {AA:Nat} {n m:Int} (hn:0<=n/\n<=1000000000) (h0:0<=m) (hm:m<=500000000) (hf:m<AA):uH AA n m=some (upto n m.toNat):=by
 obtain⟨m,rfl⟩:=Int.eq_ofNat_of_zero_le h0
 have h:=aEV (m:=m) hn (by omega) m 0 AA (by omega) (by omega)
 rw [a0r]
 rw [uH,show lU n m AA [] 0=_ from h,bsm]
theorem aFE {n:Int} {m:Nat} {l:List Int} (hn:0<=n/\n<=1000000000) (hm:l.length+m<=900000000):∀ (j i k:Nat),i+j=m->j<k->lG n m k (l++upto n i) i=some (l++upto n m)
 | 0,i,k+1,h,_=>by
  rw [lG,a1X (by omega),show i=m from by omega]
 | j+1,i,k+1,h,hk=>by
  rw [lG,a1Y (by omega),aR (by omega),bsm,dI (by simp [iL];omega),bsm,aR (by omega),bsm,a0u,<- aED,show(i:Int)+1=((i+1:Nat):Int)from by omega];exact aFE hn hm j (i+1) k (by omega) (by omega)
theorem aAA {AA:Nat} {n m:Int} {l:List Int} (hn:0<=n/\n<=1000000000) (h0:0<=m) (hm:(l.length:Int)+m<=900000000) (hf:m<AA):qH AA l n m=some (l++upto n m.toNat):=by
 obtain⟨m,rfl⟩:=Int.eq_ofNat_of_zero_le h0
 have h:=aFE (m:=m) (l:=l) hn (by omega) m 0 AA (by omega) (by omega)
 rw [a0r]
 have e:l++upto n 0=l:=by simp [upto]
 rw [e]at h
 rw [qH,a1j,dI (by omega),bsm,show lG n m AA l 0=_ from h,bsm]
theorem aBO {a b:List Int} (h:a.length+b.length<=1000000000):sG a b=some (a++b):=by
 rw [sG,iW,a1j,dI (by omega),bsm,bsm,dI (by simp;omega),bsm]
theorem takes_p (op:Int):tO op=some (kN op):=by
 rw [tO]
 by_cases a:op=4
 ·rw [a1Y a,bsm,kN,a1V (by omega)]
 by_cases b:op=6
 ·rw [a1X a,a1Y b,bsm,kN,a1V (by omega)]
 by_cases c:op=7
 ·rw [a1X a,a1X b,a1Y c,bsm,kN,a1V (by omega)]
 ·rw [a1X a,a1X b,a1X c,bsm,kN];congr 1;rw [decide_eq_decide];omega
theorem aIY {d:AM} {a nd:Int} (AC:List Int):∀ (AB:List Int) (k:Nat) (w:Int),AC.length<k->AB.length+AC.length<=3000000->0<=w->w+3*AC.length<=1000000000 ->
 kL d ⟨a,AB++AC,nd⟩ k w AB.length=some (match lB d.AK AC with | some m=> .inl (w+m) | none=> .inr (-1)):=by
 induction AC with
 | nil=>
  intro AB k w hk _ _ _;obtain _ | k:=k
  ·omega
  rw [kL,a1X (by simp)];simp [lB]
 | cons e AC ih=>
  intro AB k w hk hB h0 hw;obtain _ | k:=k
  ·omega
  simp only [a0R]at hk hB hw;rw [kL,a1Y (bC _ _ _)];dsimp only
  rw [bE,bsm,lB];by_cases c1:e<0
  ·rw [a1Y c1,show idx d.AK e=none from by unfold idx;rw [a1X (by omega)]];rfl
  rw [a1X c1];by_cases c2:(d.AK.length:Int)<=e
  ·have:idx d.AK e=none:=by
    cases hi:idx d.AK e with
    | none=>rfl
    | some y=>have:=idx_in hi;omega
   rw [a1Y c2,this];rfl
  rw [a1X c2];obtain⟨y,hy⟩:=idx_ok (xs:=d.AK) (i:=e) (by omega) (by omega)
  simp only [hy,bsm];by_cases c3:y.Ak<0
  ·rw [a1Y c3,a1X (by omega)]
  rw [a1X c3];by_cases c4:3<y.Ak
  ·rw [a1Y c4,a1X (by omega)]
  rw [a1X c4,a1Y (by omega),aR (by omega),bsm,aR (by omega),bsm,bL,bB,ih (AB++[e]) k _ (by omega) (by simp;omega) (by omega) (by omega)];cases lB d.AK AC with
  | none=>rfl
  | some m=>rw [bsm];dsimp only;rw [Int.add_assoc]
theorem more_p {AA:Nat} {d:AM} {r:Af} (hf:r.AU.length<AA) (hB:r.AU.length<=2000000):rT AA d r=some (match lB d.AK r.AU with | some m=>m | none=>-1):=by
 have h:=aIY (d:=d) (a:=r.At) (nd:=r.AQ) r.AU [] AA 0 hf (by simp;omega) (by omega) (by omega)
 simp only [a1j,a0V,a0q]at h
 rw [rT,h,bsm]
 cases lB d.AK r.AU with
 | none=>rfl
 | some m=>dsimp only;rw [Int.zero_add]
theorem bring_r {AA:Nat} {d:AM} {r:Af} (hf:r.AU.length<AA) (hB:r.AU.length<=2000000):tG AA d r=some (if r.AU.length<=3 then match lB d.AK r.AU with | some m=>m | none=>-1 else -1):=by
 have hl:∀ (k:Nat) (x i:Int),qI d r k x i=kL d r k x i:=fun k=>by
  induction k with
  | zero=>intro x i;rfl
  | succ k ih=>
   intro x i;rw [qI,kL];simp only [ih]
 rw [tG]
 by_cases c:3<(r.AU.length:Int)
 ·rw [a1Y c,a1X (by omega)]
 ·rw [a1X c,a1Y (by omega),<- more_p hf hB,rT,hl];rfl
theorem aI1 {d:AM} (AC:List Af):∀ (AB:List Af) (k:Nat),d.AL=AB++AC->AC.length<k->AB.length+AC.length<=3000000->(∀ r∈AC,r.AU.length<=2000000)->nJ d k AB.length AB=some (AB++AC):=by
 induction AC with
 | nil=>
  intro AB k hd hk _ _;obtain _ | k:=k
  ·omega
  rw [nJ,hd,a1X (by simp)];simp
 | cons e AC ih=>
  intro AB k hd hk hB hr;obtain _ | k:=k
  ·omega
  simp only [a0R]at hk hB;have:=hr e (.head _);rw [nJ,hd,a1Y (bC _ _ _),bE,bsm,iW,a1j,dI (by omega),bsm,bsm,show(⟨e.At,e.AU,e.AQ⟩:Af)=e from rfl,dI (by simp;omega),bsm,aR (by omega),bsm,bB,ih (AB++[e]) k (by rw [hd,bL]) (by omega) (by simp;omega) (fun x hx=>hr x (.tail _ hx)),<- bL]
theorem aJy {AA:Nat} {ds:List AM} (AC:List AM):∀ (AB:List AM) (k:Nat),ds=AB++AC->AC.length<k->AB.length+AC.length<=3000000->(∀ d∈AC,smD d)->2000000<AA->nT AA ds k AB AB.length=some (AB++AC):=by
 induction AC with
 | nil=>
  intro AB k hd hk _ _ _;obtain _ | k:=k
  ·omega
  rw [nT,hd,a1X (by simp)];simp
 | cons e AC ih=>
  intro AB k hd hk hB hr hf;obtain _ | k:=k
  ·omega
  simp only [a0R]at hk hB;have hs:=hr e (.head _);obtain⟨s1,s2,s3,s4⟩:=hs;have h2:=aI1 (d:=e) e.AL [] AA rfl (by omega) (by simp;omega) s4
  simp only [a1j,a0V,a0q]at h2;rw [nT,hd,a1Y (bC _ _ _),bE,bsm,zN,a1j,dI (by omega),bsm,bsm,zI,a1j,dI (by omega),bsm,bsm,h2,bsm,show(⟨e.AK,e.AO,e.AL⟩:AM)=e from rfl,dI (by simp;omega),bsm,bsm,aR (by omega),bsm,<- hd,bB,ih (AB++[e]) k (by rw [hd,bL]) (by omega) (by simp;omega) (fun x hx=>hr x (.tail _ hx)) hf,<- bL,hd]
theorem copied_p {AA:Nat} {ds:List AM} (hf:2000000<AA) (hB:ds.length<=2000000) (hs:∀ d∈ds,smD d):wP AA ds=some ds:=by
 have h:=aJy (AA:=AA) (ds:=ds) ds [] AA rfl (by omega) (by simp;omega) hs hf
 simp only [a1j,a0V,a0q]at h
 rw [wP,h,bsm]
theorem aGO {ds:List AM} {i:Int} {d:AM} (hi:idx ds i=some d) (AC:List Af):∀ (AB:List Af) (k:Nat),d.AL=AB++AC->AC.length<k->AB.length+AC.length<=3000000->(∀ r∈AC,r.AU.length<=2000000)->oJ ds i k AB.length AB=some (AB++AC):=by
 induction AC with
 | nil=>
  intro AB k hd hk _ _;obtain _ | k:=k
  ·omega
  rw [oJ,hi,bsm,hd,a1X (by simp)];simp
 | cons e AC ih=>
  intro AB k hd hk hB hr;obtain _ | k:=k
  ·omega
  simp only [a0R]at hk hB;have:=hr e (.head _);rw [oJ,hi,bsm,hd,a1Y (bC _ _ _),bsm,hd,bE,bsm,a1j,dI (by omega),bsm,show(⟨e.At,e.AU,e.AQ⟩:Af)=e from rfl,dI (by simp;omega),bsm,aR (by omega),bsm,bB,ih (AB++[e]) k (by rw [hd,bL]) (by omega) (by simp;omega) (fun x hx=>hr x (.tail _ hx)),<- bL]
theorem aI5 {AA:Nat} {ds:List AM} (AC:List AM):∀ (AB:List AM) (k:Nat),ds=AB++AC->AC.length<k->AB.length+AC.length<=3000000->(∀ d∈AC,smD d)->2000000<AA->oN AA ds k AB AB.length=some (AB++AC):=by
 induction AC with
 | nil=>
  intro AB k hd hk _ _ _;obtain _ | k:=k
  ·omega
  rw [oN,hd,a1X (by simp)];simp
 | cons e AC ih=>
  intro AB k hd hk hB hr hf;obtain _ | k:=k
  ·omega
  simp only [a0R]at hk hB;have hs:=hr e (.head _);obtain⟨s1,s2,s3,s4⟩:=hs;have hi:idx ds (AB.length:Int)=some e:=by rw [hd];exact bE _ _ _
  have h2:=aGO hi e.AL [] AA rfl (by omega) (by simp;omega) s4
  simp only [a1j,a0V,a0q]at h2;rw [oN,a1Y (by rw [hd];exact bC _ _ _),hi,bsm,a1j,dI (by omega),bsm,bsm,a1j,dI (by omega),bsm,h2,bsm,show(⟨e.AK,e.AO,e.AL⟩:AM)=e from rfl,dI (by simp;omega),bsm,bsm,aR (by omega),bsm,bB,ih (AB++[e]) k (by rw [hd,bL]) (by omega) (by simp;omega) (fun x hx=>hr x (.tail _ hx)) hf,<- bL]
theorem copied_r {AA:Nat} {ds:List AM} (hf:2000000<AA) (hB:ds.length<=2000000) (hs:∀ d∈ds,smD d):xV AA ds=some ds:=by
 have h:=aI5 (AA:=AA) (ds:=ds) ds [] AA rfl (by omega) (by simp;omega) hs hf
 simp only [a1j,a0V,a0q]at h
 rw [xV,h,bsm]
open Go.SX Go.SW Go.Dt
def chD (d:AM) (z:Int):List (Int × Int):=d.AL.map (fun r=>(r.AQ,z+own d+brs d.AK r.AU))++d.AO.map (fun y=>(y.AQ,z+own d))
def gJ (p:AI) (x:AW) (z:Int):List (Int × Int):=
 if x.Op=4 then match idx p.AE x.N with
  | some d=>chD d z++x.AN.map (fun k=>(k,z+own d))
  | none=>[]
 else x.AN.map (fun k=>(k,z))
structure Ok1 (p:AI) (x:AW) (z:Int):Prop where
 def_:x.Op=4->∃ d,idx p.AE x.N=some d/\okD d=true
 name:x.Op=2\/x.Op=6\/x.Op=8->0<=x.N/\x.N<z
 args:x.AS.all (okE z)=true
 la:x.AS.length<=3
 lk:x.AN.length<=2
 stop:x.Op=7->x.AN=[]
structure gH (p:AI) (sz:List Int) (rk:Int->Nat) (i:Int) (x:AW) (z:Int):Prop where
 node:idx p.AD i=some x
 size:idx sz i=some z
 ok:Ok1 p x z
 pos:0<=z
 below:∀ c∈gJ p x z,idx sz c.1=some c.2/\rk c.1<rk i/\∃ y,idx p.AD c.1=some y
def Nw (s s':VS) (i:Int):Prop:=idx s.AP i=some false/\idx s'.AP i=some true
structure Kp (s s':VS):Prop where
 old:∀ i,idx s.AP i=some true->idx s'.AP i=some true/\idx s'.sz i=idx s.sz i
 lm:s'.AP.length=s.AP.length
theorem Kp.refl {s:VS}:Kp s s:=⟨fun _ h=>⟨h,rfl⟩,rfl⟩
theorem Kp.trans {a b c:VS} (h:Kp a b) (k:Kp b c):Kp a c:=⟨fun i hi=>⟨(k.old i (h.old i hi).1).1,((k.old i (h.old i hi).1).2).trans (h.old i hi).2⟩,k.lm.trans h.lm⟩
theorem aCt {l m:List Bool} (h:m.length=l.length) {i:Int} (hi:idx m i=some true):idx l i=some true\/idx l i=some false:=by
 have h1:=fX hi
 obtain⟨b,hb⟩:=eY (xs:=l) h1.1 (by omega)
 cases b
 ·exact .inr hb
 ·exact .inl hb
structure Vo (p:AI) (f:Nat) (Z:Int) (s s':VS) (rk:Int->Nat):Prop where
 kp:Kp s s'
 good:∀ i,Nw s s' i->rk i<f/\∃ x z,gH p s'.sz rk i x z/\z+100*(rk i:Int)<=Z/\∀ c∈gJ p x z,Nw s s' c.1
theorem aFr {p:AI} {f:Nat} {zm:Int} (ih:∀ s s' n z,s.sz.length=s.AP.length->0<=z->vis p f s n z=some s'->s'.sz.length=s'.AP.length/\∃ rk,Vo p f (z+100*f) s s' rk/\Nw s s' n/\idx s'.sz n=some z):
 ∀ (l:List (Int × Int)) (s s':VS),s.sz.length=s.AP.length->(∀ c∈l,0<=c.2/\c.2<=zm)->cU (vis p f) s l=some s'->s'.sz.length=s'.AP.length/\∃ rk,Vo p f (zm+100*f) s s' rk/\∀ c∈l,Nw s s' c.1/\idx s'.sz c.1=some c.2
 | [],s,s',hs,_,h=>by
  cases h;exact⟨hs,fun _=>0,⟨.refl,fun i hi=>by have:=hi.1.symm.trans hi.2;cases this⟩,fun c hc=>by cases hc⟩
 | c :: l,s,s',hs,hz,h=>by
  obtain⟨s1,e1,e2⟩:=bind_some h;obtain⟨l1,rk1,v1,n1,z1⟩:=ih s s1 c.1 c.2 hs (hz c (.head _)).1 e1;have hzc:=(hz c (.head _)).2;obtain⟨l2,rk2,v2,n2⟩:=aFr ih l s1 s' l1 (fun c hc=>hz c (.tail _ hc)) e2
  refine⟨l2,fun i=>if idx s1.AP i=some true then rk1 i else rk2 i,⟨v1.kp.trans v2.kp,fun i hi=>?_⟩,fun c' hc'=>?_⟩
  ·by_cases hm:idx s1.AP i=some true
   ·obtain⟨h1,x,z,g,hZ,hb⟩:=v1.good i ⟨hi.1,hm⟩;rw [a1Y hm];refine⟨h1,x,z,⟨g.node,(v2.kp.old i hm).2.trans g.size,g.ok,g.pos,fun c hc=>?_⟩,by omega,fun c hc=>?_⟩
    ·have hc1:=(hb c hc).2;obtain⟨q1,q2,q3⟩:=g.below c hc;refine⟨(v2.kp.old c.1 hc1).2.trans q1,?_,q3⟩;simp only [a1Y hm,a1Y hc1];exact q2
    ·exact⟨(hb c hc).1,(v2.kp.old c.1 (hb c hc).2).1⟩
   ·have hm2:idx s1.AP i=some false:=by
     rcases aCt v2.kp.lm hi.2 with h | h
     ·exact absurd h hm
     ·exact h
    obtain⟨h1,x,z,g,hZ,hb⟩:=v2.good i ⟨hm2,hi.2⟩;rw [a1X hm];refine⟨h1,x,z,⟨g.node,g.size,g.ok,g.pos,fun c hc=>?_⟩,hZ,fun c hc=>?_⟩
    ·have hc1:=(hb c hc).1;obtain⟨q1,q2,q3⟩:=g.below c hc;refine⟨q1,?_,q3⟩;simp only [a1X hm,hc1,a1P,Bool.false_eq_true,if_false];exact q2
    ·refine⟨?_,(hb c hc).2⟩;rcases aCt (l:=s.AP) (m:=s'.AP) (v2.kp.lm.trans v1.kp.lm) (hb c hc).2 with h | h
     ·have:=(v1.kp.old _ h).1.symm.trans (hb c hc).1;cases this
     ·exact h
  ·rcases a1d.1 hc' with rfl | hc'
   ·exact⟨⟨n1.1,(v2.kp.old _ n1.2).1⟩,(v2.kp.old _ n1.2).2.trans z1⟩
   ·obtain⟨h1,h2⟩:=n2 c' hc';refine⟨⟨?_,h1.2⟩,h2⟩;rcases aCt (l:=s.AP) (m:=s'.AP) (v2.kp.lm.trans v1.kp.lm) h1.2 with h | h
    ·have:=(v1.kp.old _ h).1.symm.trans h1.1;cases this
    ·exact h
theorem tP (d:AM):0<=own d:=by unfold own;omega
theorem chs2_pos {p:AI} {x:AW} {z:Int} (hz:0<=z) (hd:x.Op=4->∃ d,idx p.AE x.N=some d/\okD d=true):∀ c∈gJ p x z,0<=c.2/\c.2<=z+69:=by
 intro c hc
 unfold gJ at hc
 split at hc
 ·rename_i h4;obtain⟨d,e,ok⟩:=hd h4;rw [e]at hc;simp only [chD,a1a,a1f]at hc;have:=tP d;have hl:=gI ok;have ho:own d<=60:=by unfold own;omega
  rcases hc with(⟨r,hr,rfl⟩ | ⟨y,hy,rfl⟩) | ⟨k,hk,rfl⟩
  ·have b:=yW (ch:=d.AK) (js:=r.AU) (hl.2.2.2.2 r hr).2;have:=(hl.2.2.2.2 r hr).1;simp only;omega
  ·simp only;omega
  ·simp only;omega
 ·simp only [a1f]at hc;obtain⟨k,_,rfl⟩:=hc;simp only;omega
theorem okN_ok1 {p:AI} {s:VS} {x:AW} {z:Int} (h:okN p s x z) (hd:x.Op=4->∃ d,idx p.AE x.N=some d/\okD d=true):Ok1 p x z:=by
 have ⟨la,lk,aa,_⟩:=okN_args h
 refine⟨hd,fun ho=>?_,aa,la,lk,fun o7=>?_⟩
 rotate_left
 ·obtain⟨⟨k,c,hs,hk,_⟩,_⟩:=h;rw [o7]at hs;simp [shp]at hs;obtain⟨rfl,rfl⟩:=hs;exact a0y hk
 obtain⟨⟨k,c,hs,_,hm⟩,_⟩:=h
 rcases ho with ho | ho | ho <;> rw [ho]at hs <;> simp [shp]at hs <;> obtain⟨rfl,rfl⟩:=hs <;> exact hm.1
theorem vis_step {p:AI} {f:Nat} {s s':VS} {n z:Int} (h:vis p (f+1) s n z=some s'):
 ∃ x,idx p.AD n=some x/\idx s.AP n=some false/\okN p s x z/\(x.Op=4->∃ d,idx p.AE x.N=some d/\okD d=true)/\cU (vis p f) (mark s n z x) (gJ p x z)=some s':=by
 simp only [vis]at h
 split at h
 ·rename_i h1;obtain⟨x,ex,h⟩:=bind_some h;split at h
  ·rename_i h2;refine⟨x,ex,h1.2.2,h2,?_⟩;split at h
   ·rename_i h4;obtain⟨d,ed,h⟩:=bind_some h;split at h
    ·rename_i h5;refine⟨fun _=>⟨d,ed,h5⟩,?_⟩
     simp only [mark,gJ,a1Y h4,ed,chD];rw [a0u,aCC];obtain⟨s1,e1,h⟩:=bind_some h;rw [e1,bsm,aCC];exact h
    ·cases h
   ·rename_i h4;refine⟨fun q=>absurd q h4,?_⟩
    simp only [mark,gJ,a1X h4];exact h
  ·cases h
 ·cases h
theorem vis_vo {p:AI}:∀ (f:Nat) (s s':VS) (n z:Int),s.sz.length=s.AP.length->0<=z->vis p f s n z=some s'->s'.sz.length=s'.AP.length/\∃ rk,Vo p f (z+100*f) s s' rk/\Nw s s' n/\idx s'.sz n=some z
 | 0,s,s',n,z,_,_,h=>by simp [vis]at h
 | f+1,s,s',n,z,hs,hz,h=>by
  obtain⟨x,ex,hm,ok,hd,hl⟩:=vis_step h;have h0:=fX hm;have hml:(mark s n z x).AP.length=s.AP.length:=by simp [mark]
  obtain⟨l2,rk,v,hc⟩:=aFr (p:=p) (f:=f) (zm:=z+69) (fun s s' n z=>vis_vo f s s' n z) (gJ p x z) (mark s n z x) s' (by simp [mark,hs]) (chs2_pos hz hd) hl
  have e1:idx (mark s n z x).AP n=some true:=aBt h0.1 h0.2;have e2:idx (mark s n z x).sz n=some z:=aBt h0.1 (by omega)
  have e3:∀ i,i≠n->idx (mark s n z x).AP i=idx s.AP i/\idx (mark s n z x).sz i=idx s.sz i:=fun i hi=>⟨aBm h0.1 hi,aBm h0.1 hi⟩
  have hn:=v.kp.old n e1;have hw:∀ i,Nw (mark s n z x) s' i->Nw s s' i/\i≠n:=fun i hi=>by
   have hne:i≠n:=fun q=>by subst q;have:=e1.symm.trans hi.1;cases this
   exact⟨⟨(e3 i hne).1.symm.trans hi.1,hi.2⟩,hne⟩
  refine⟨l2,fun i=>if i=n then f else rk i,⟨⟨fun i hi=>?_,v.kp.lm.trans hml⟩,fun i hi=>?_⟩,⟨hm,hn.1⟩,hn.2.trans e2⟩
  ·have hne:i≠n:=fun q=>by subst q;have:=hm.symm.trans hi;cases this
   have:=v.kp.old i ((e3 i hne).1.trans hi);exact⟨this.1,this.2.trans (e3 i hne).2⟩
  ·by_cases hne:i=n
   ·subst hne;rw [a1Y rfl];refine⟨a1F f,x,z,⟨ex,hn.2.trans e2,okN_ok1 ok hd,hz,fun c hcm=>?_⟩,by omega,fun c hcm=>(hw _ (hc c hcm).1).1⟩
    obtain⟨q1,q2⟩:=hc c hcm;obtain⟨q3,y,_,g,_,_⟩:=v.good _ q1;refine⟨q2,?_,y,g.node⟩;rw [a1Y rfl,a1X (hw _ q1).2];exact q3
   ·have hi':Nw (mark s n z x) s' i:=⟨(e3 i hne).1.trans hi.1,hi.2⟩;obtain⟨q1,y,w,g,hZ,hb⟩:=v.good i hi';rw [a1X hne];refine⟨Nat.lt_succ_of_lt q1,y,w,⟨g.node,g.size,g.ok,g.pos,fun c hcm=>?_⟩,by omega,fun c hcm=>(hw _ (hb c hcm)).1⟩
    obtain⟨r1,r2,r3⟩:=g.below c hcm;refine⟨r1,?_,r3⟩;rw [a1X hne,a1X (hw _ (hb c hcm)).2];exact r2
structure Fm (p:AI) (sz:List Int) (rk:Int->Nat):Prop where
 len:sz.length=p.AD.length
 n60:p.AD.length<=60
 f12:p.AF.length<=12
 d12:p.AE.length<=12
 good:∀ i,0<=i->i<(p.AD.length:Int)->rk i<60/\∃ x z,gH p sz rk i x z/\z<=6012
 main:idx sz p.AG=some (p.AF.length:Int)
 oks:∀ d∈p.AE,okD d=true
theorem fm_of {p:AI} {s:VS} (h:fC p=some s):∃ rk,Fm p s.sz rk:=by
 have hd:=aDp h
 unfold fC at h
 split at h
 ·rename_i h1;obtain⟨s1,e1,h⟩:=bind_some h;split at h
  ·rename_i h2;cases h;obtain⟨l,rk,v,hn,hz⟩:=vis_vo _ _ _ _ _ (by simp [start]) (by omega) e1
   have hlm:s.AP.length=p.AD.length:=by rw [v.kp.lm];simp [start]
   refine⟨rk,by rw [l,hlm],h1.2.1,h1.1,h1.2.2.1,fun i h0 hi=>?_,hz,hd⟩
   have hs:idx (start p).AP i=some false:=by
    rw [start];simp only
    obtain⟨b,hb⟩:=eY (xs:=List.replicate p.AD.length false) h0 (by simpa using hi)
    rw [hb];have:=kI hb;rw [List.eq_of_mem_replicate this]
   have ht:idx s.AP i=some true:=by
    obtain⟨b,hb⟩:=eY (xs:=s.AP) h0 (by omega)
    have:=a0t.1 h2.1 b (kI hb);cases b
    ·cases this
    ·exact hb
   obtain⟨q,x,z,g,hZ,_⟩:=v.good i ⟨hs,ht⟩;exact⟨by omega,x,z,g,by omega⟩
  ·cases h
 ·cases h
open Go.SX Go.SW Go.Dt
abbrev Srt (l:List Int):Prop:=l.Pairwise (·<·)
theorem aCY:∀ {l m:List Int},Srt l->Srt m->(∀ i,i∈l ↔ i∈m)->l=m
 | [],[],_,_,_=>rfl
 | [],b :: m,_,_,h=>by have:=(h b).2 (.head _);cases this
 | a :: l,[],_,_,h=>by have:=(h a).1 (.head _);cases this
 | a :: l,b :: m,h1,h2,h=>by
  obtain⟨h1a,h1'⟩:=a1n.1 h1;obtain⟨h2a,h2'⟩:=a1n.1 h2;have e:a=b:=by
   have q1:a=b\/b<a:=by
    rcases a1d.1 ((h a).1 (.head _))with q | q
    ·exact .inl q
    ·exact .inr (h2a a q)
   have q2:b=a\/a<b:=by
    rcases a1d.1 ((h b).2 (.head _))with q | q
    ·exact .inl q
    ·exact .inr (h1a b q)
   omega
  subst e;refine congrArg (a :: ·) (aCY h1' h2' fun i=>?_)
  constructor
  ·intro hi;rcases a1d.1 ((h i).1 (.tail _ hi))with q | q
   ·have:=h1a i hi;omega
   ·exact q
  ·intro hi;rcases a1d.1 ((h i).2 (.tail _ hi))with q | q
   ·have:=h2a i hi;omega
   ·exact q
theorem tV:∀ {l:List Int} {a b:Int},Srt l->(∀ i∈l,a<=i/\i<b)->(l.length:Int)<=max 0 (b - a)
 | [],a,b,_,_=>by simp;omega
 | x :: l,a,b,h,hb=>by
  obtain⟨h1,h2⟩:=a1n.1 h;have:=tV (a:=x+1) (b:=b) h2 fun i hi=>⟨by have:=h1 i hi;omega,(hb i (.tail _ hi)).2⟩
  have:=hb x (.head _);simp only [a0R];omega
mutual
def nmE:AR->List Int
 | ⟨op,n,ks⟩=>(if op=2 then [n] else [])++nmL ks
def nmL:List AR->List Int
 | []=>[]
 | k :: ks=>nmE k++nmL ks
end
def nmO (x:AW):List Int:=if x.Op=2\/x.Op=6\/x.Op=8 then [x.N] else []
def nmN (x:AW):List Int:=nmO x++nmL x.AS
def kd (p:AI) (x:AW):List Int:=
 if x.Op=4 then match idx p.AE x.N with
  | some d=>(d.AL.map (·.AQ)++d.AO.map (·.AQ))++x.AN
  | none=>[]
 else x.AN
theorem wA {p:AI} {x:AW} {z m:Int} (h:m∈kd p x):∃ w,(m,w)∈gJ p x z:=by
 unfold kd at h;unfold gJ
 split at h
 ·rename_i h4;rw [a1Y h4];cases e:idx p.AE x.N with
  | none=>rw [e]at h;cases h
  | some d=>
   rw [e]at h;simp only [a1a,a1f]at h;simp only [chD,a1a,a1f];rcases h with(⟨r,hr,rfl⟩ | ⟨y,hy,rfl⟩) | h
   ·exact⟨_, .inl (.inl ⟨r,hr,rfl⟩)⟩
   ·exact⟨_, .inl (.inr ⟨y,hy,rfl⟩)⟩
   ·exact⟨_, .inr ⟨m,h,rfl⟩⟩
 ·rename_i h4;rw [a1X h4];exact⟨z,a1f.2 ⟨m,h,rfl⟩⟩
inductive Rch (p:AI):Int->Int->Prop
 | refl (n:Int):Rch p n n
 | step {n m k:Int} {x:AW} (h:idx p.AD n=some x) (hm:m∈kd p x) (r:Rch p m k):Rch p n k
def Occ (p:AI) (n i:Int):Prop:=∃ k x,Rch p n k/\idx p.AD k=some x/\i∈nmN x
theorem aDc {p:AI} {n k:Int} {x:AW} (h:idx p.AD n=some x):Rch p n k ↔ k=n\/∃ m∈kd p x,Rch p m k:=by
 constructor
 ·intro r;cases r with
  | refl=>exact .inl rfl
  | step h1 hm r=>rw [h]at h1;cases h1;exact .inr ⟨_,hm,r⟩
 ·rintro(rfl | ⟨m,hm,r⟩)
  ·exact .refl _
  ·exact .step h hm r
theorem aFT {p:AI} {n i:Int} {x:AW} (h:idx p.AD n=some x):Occ p n i ↔ i∈nmN x\/∃ m∈kd p x,Occ p m i:=by
 constructor
 ·rintro⟨k,y,r,hy,hi⟩
  rcases(aDc h).1 r with rfl | ⟨m,hm,r⟩
  ·rw [h]at hy;cases hy;exact .inl hi
  ·exact .inr ⟨m,hm,k,y,r,hy,hi⟩
 ·rintro(hi | ⟨m,hm,k,y,r,hy,hi⟩)
  ·exact⟨n,x, .refl _,h,hi⟩
  ·exact⟨k,y, .step h hm r,hy,hi⟩
def Has (g:aL Int Bool) (S:Int->Prop):Prop:=∀ i,(S i->g.get i=some true)/\(¬ S i->g.get i=none)
theorem Has.congr {g:aL Int Bool} {S U:Int->Prop} (h:Has g S) (e:∀ i,S i ↔ U i):Has g U:=fun i=>⟨fun hi=>(h i).1 ((e i).2 hi),fun hi=>(h i).2 fun q=>hi ((e i).1 q)⟩
theorem aBI {g:aL Int Bool} {S:Int->Prop} (h:Has g S) (n:Int):Has (aL.upd g n true) (fun i=>S i\/i=n):=fun i=>by
 have e:(aL.upd g n true).get i=if i=n then some true else g.get i:=rfl
 rw [e]
 constructor
 ·rintro(hi | rfl)
  ·split
   ·rfl
   ·exact(h i).1 hi
  ·rw [a1Y rfl]
 ·intro hi;rw [a1X (fun q=>hi (.inr q))];exact(h i).2 fun q=>hi (.inl q)
theorem has_none:Has (aL.none:aL Int Bool) (fun _=>False):=fun i=>⟨fun h=>h.elim,fun _=>rfl⟩
theorem aG6 {rec:aL Int Bool->AR->Option (aL Int Bool)} {op n:Int} (AC:List AR):∀ (AB:List AR) (k:Nat) (g:aL Int Bool) (S:Int->Prop),AC.length<k->AB.length+AC.length<=3000000 ->
 (∀ e∈AC,∀ g S,Has g S->∃ g',rec g e=some g'/\Has g' (fun i=>S i\/i∈nmE e))->Has g S->∃ g',lL rec ⟨op,n,AB++AC⟩ k AB.length g=some g'/\Has g' (fun i=>S i\/i∈nmL AC):=by
 induction AC with
 | nil=>
  intro AB k g S hk _ _ h;obtain _ | k:=k
  ·omega
  rw [lL,a1X (by simp)];exact⟨g,rfl,h.congr fun i=>by simp [nmL]⟩
 | cons e AC ih=>
  intro AB k g S hk hB hr h;obtain _ | k:=k
  ·omega
  simp only [a0R]at hk hB;obtain⟨g1,e1,h1⟩:=hr e (.head _) g S h;obtain⟨g2,e2,h2⟩:=ih (AB++[e]) k g1 _ (by omega) (by simp;omega) (fun x hx=>hr x (.tail _ hx)) h1
  refine⟨g2,?_,h2.congr fun i=>by simp only [nmL,a1a];exact or_assoc⟩
  rw [lL,a1Y (bC _ _ _),bE,bsm,pK,e1,bsm,aR (by omega),bsm,bL,bB,e2]
theorem asks_p (AA:Nat):∀ (e:AR) (g:aL Int Bool) (S:Int->Prop),nE e<AA->nE e<=2000000->Has g S->∃ g',kH AA g e=some g'/\Has g' (fun i=>S i\/i∈nmE e):=by
 induction AA with
 | zero=>intro e g S h;omega
 | succ AA ih=>
  intro ⟨op,n,ks⟩ g S hf hB h
  simp only [nE]at hf hB;have hlen:=rB ks;have step:∀ g1 S1,Has g1 S1->∃ g',lL (kH AA) ⟨op,n,ks⟩ AA 0 g1=some g'/\Has g' (fun i=>S1 i\/i∈nmL ks):=fun g1 S1 h1=>by
   have:=aG6 (rec:=kH AA) (op:=op) (n:=n) ks [] AA g1 S1 (by omega) (by simp;omega) (fun e he g S hg=>ih e g S (by have:=fY he;omega) (by have:=fY he;omega) hg) h1
   simpa using this
  rw [kH];dsimp only
  by_cases o2:op=2
  ·obtain⟨g',e1,h1⟩:=step _ _ (aBI h n);rw [a1Y o2,bsm,e1];exact⟨g',rfl,h1.congr fun i=>by simp only [nmE,a1Y o2,a1a,a1i];exact or_assoc⟩
  ·obtain⟨g',e1,h1⟩:=step _ _ h;rw [a1X o2,bsm,e1];exact⟨g',rfl,h1.congr fun i=>by simp only [nmE,a1X o2,a1j]⟩
theorem asksL_p {AA:Nat} {op nn:Int} {ks:List Int} (hf:2000000<AA) (AC:List AR):∀ (AB:List AR) (k:Nat) (g:aL Int Bool) (S:Int->Prop),AC.length<k->AB.length+AC.length<=3000000->(∀ e∈AC,nE e<=2000000)->Has g S ->
 ∃ g',mD AA ⟨op,nn,AB++AC,ks⟩ k AB.length g=some g'/\Has g' (fun i=>S i\/i∈nmL AC):=by
 induction AC with
 | nil=>
  intro AB k g S hk _ _ h;obtain _ | k:=k
  ·omega
  rw [mD,a1X (by simp)];exact⟨g,rfl,h.congr fun i=>by simp [nmL]⟩
 | cons e AC ih=>
  intro AB k g S hk hB hr h;obtain _ | k:=k
  ·omega
  simp only [a0R]at hk hB;have he:=hr e (.head _);obtain⟨g1,e1,h1⟩:=asks_p AA e g S (by omega) he h
  obtain⟨g2,e2,h2⟩:=ih (AB++[e]) k g1 _ (by omega) (by simp;omega) (fun x hx=>hr x (.tail _ hx)) h1
  refine⟨g2,?_,h2.congr fun i=>by simp only [nmL,a1a];exact or_assoc⟩
  rw [mD,a1Y (bC _ _ _),bE,bsm,pK,e1,bsm,aR (by omega),bsm,bL,bB,e2]
theorem kind_p (op:Int):∃ v u1 u2,hP op=some v/\dW 207 (.agg #[]) v=some (u1,decide (op=2))/\dW 208 (.agg #[]) v=some (u2,decide (op=6\/op=8)):=by
 by_cases h:shp op=none
 ·refine⟨.nilIface, .agg #[], .agg #[],aE5 h,?_,?_⟩
  ·have h2:op≠2:=fun q=>by subst q;simp [shp]at h
   rw [a1U h2];rfl
  ·have h2:¬ (op=6\/op=8):=fun q=>by rcases q with rfl | rfl <;> simp [shp]at h
   rw [a1U h2];rfl
 ·have:op=1\/op=7\/op=3\/op=2\/op=5\/op=6\/op=8\/op=4:=by
   unfold shp at h;by_cases a1:op=1\/op=7
   ·omega
   ·rw [a1X a1]at h;by_cases a2:op=3
    ·omega
    ·rw [a1X a2]at h;by_cases a3:op=2
     ·omega
     ·rw [a1X a3]at h;by_cases a4:op=5
      ·omega
      ·rw [a1X a4]at h;by_cases a5:op=6\/op=8
       ·omega
       ·rw [a1X a5]at h;by_cases a6:op=4
        ·omega
        ·rw [a1X a6]at h;exact absurd rfl h
  rcases this with rfl | rfl | rfl | rfl | rfl | rfl | rfl | rfl <;> exact⟨_,_,_,rfl,rfl,rfl⟩
theorem b1_p {L:AX} {AA:Nat} {n:Int} {x:AW} (hx:idx L.p.AD n=some x) (hf:3000000<AA) (hl:x.AS.length<=2000000) (ha:∀ e∈x.AS,nE e<=2000000) {g:aL Int Bool} {S:Int->Prop} (h:Has g S):
 ∃ g',rG AA L n g=some g'/\Has g' (fun i=>S i\/i∈nmN x):=by
 obtain⟨v,u1,u2,e1,e2,e3⟩:=kind_p x.Op
 have step:∀ g1 S1,Has g1 S1->∃ g',mD AA x AA 0 g1=some g'/\Has g' (fun i=>S1 i\/i∈nmL x.AS):=fun g1 S1 h1=>by
  have:=asksL_p (AA:=AA) (op:=x.Op) (nn:=x.N) (ks:=x.AN) (by omega) x.AS [] AA g1 S1 (by omega) (by simp;omega) ha h1
  simpa using this
 unfold rG
 rw [hx,bsm,e1,bsm,e2,bsm]
 dsimp only
 rw [e3,bsm]
 dsimp only
 by_cases o2:x.Op=2
 ·obtain⟨g',q1,q2⟩:=step _ _ (aBI h x.N);rw [a1V o2,a1T,bsm,q1];exact⟨g',rfl,q2.congr fun i=>by simp only [nmN,nmO,a1Y (show x.Op=2\/x.Op=6\/x.Op=8 from .inl o2),a1a,a1i];exact or_assoc⟩
 ·rw [a1U o2,a1S];by_cases o6:x.Op=6\/x.Op=8
  ·obtain⟨g',q1,q2⟩:=step _ _ (aBI h x.N);rw [a1V o6,a1T,bsm,q1];exact⟨g',rfl,q2.congr fun i=>by simp only [nmN,nmO,a1Y (show x.Op=2\/x.Op=6\/x.Op=8 from .inr o6),a1a,a1i];exact or_assoc⟩
  ·obtain⟨g',q1,q2⟩:=step _ _ h;rw [a1U o6,a1S,bsm,q1];exact⟨g',rfl,q2.congr fun i=>by simp only [nmN,nmO,a1X (show ¬ (x.Op=2\/x.Op=6\/x.Op=8)from fun q=>q.elim o2 o6),a1j]⟩
abbrev YN (L:AX) (AA:Nat):Int->aL Int Bool->Option (aL Int Bool):=fun (x:Int) (t:aL Int Bool)=>rG AA L x t
abbrev RecB:=Int->(Int->aL Int Bool->Option (aL Int Bool))->aL Int Bool->AX->Option (aL Int Bool × Bool)
def Vis1 (p:AI) (rec:RecB) (Y:Int->aL Int Bool->Option (aL Int Bool)) (L:AX) (m:Int):Prop:=∀ g S,Has g S->∃ g',rec m Y g L=some (g',true)/\Has g' (fun i=>S i\/Occ p m i)
variable {p:AI} {rec:RecB} {Y:Int->aL Int Bool->Option (aL Int Bool)} {L:AX}
theorem bl1 {ch:List Al} {sp:List Aj} (AC:List Af):∀ (AB:List Af) (k:Nat) (g:aL Int Bool) (S:Int->Prop),AC.length<k->AB.length+AC.length<=3000000->(∀ r∈AC,Vis1 p rec Y L r.AQ)->Has g S ->
 ∃ g',pL rec Y L ⟨ch,sp,AB++AC⟩ k AB.length g=some (.inl g')/\Has g' (fun i=>S i\/∃ m∈AC.map (·.AQ),Occ p m i):=by
 induction AC with
 | nil=>
  intro AB k g S hk _ _ h;obtain _ | k:=k
  ·omega
  rw [pL,a1X (by simp)];exact⟨g,rfl,h.congr fun i=>by simp⟩
 | cons e AC ih=>
  intro AB k g S hk hB hr h;obtain _ | k:=k
  ·omega
  simp only [a0R]at hk hB;obtain⟨g1,e1,h1⟩:=hr e (.head _) g S h;obtain⟨g2,e2,h2⟩:=ih (AB++[e]) k g1 _ (by omega) (by simp;omega) (fun x hx=>hr x (.tail _ hx)) h1
  refine⟨g2,?_,h2.congr fun i=>by simp only [a0Y,a1d,exists_eq_or_imp];exact or_assoc⟩
  rw [pL,a1Y (bC _ _ _),bE,bsm,e1,bsm];dsimp only
  rw [a1T,aR (by omega),bsm,bL,bB,e2]
theorem bl2 {ch:List Al} {ru:List Af} (AC:List Aj):∀ (AB:List Aj) (k:Nat) (g:aL Int Bool) (S:Int->Prop),AC.length<k->AB.length+AC.length<=3000000->(∀ r∈AC,Vis1 p rec Y L r.AQ)->Has g S ->
 ∃ g',oO rec Y L ⟨ch,AB++AC,ru⟩ k AB.length g=some (.inl g')/\Has g' (fun i=>S i\/∃ m∈AC.map (·.AQ),Occ p m i):=by
 induction AC with
 | nil=>
  intro AB k g S hk _ _ h;obtain _ | k:=k
  ·omega
  rw [oO,a1X (by simp)];exact⟨g,rfl,h.congr fun i=>by simp⟩
 | cons e AC ih=>
  intro AB k g S hk hB hr h;obtain _ | k:=k
  ·omega
  simp only [a0R]at hk hB;obtain⟨g1,e1,h1⟩:=hr e (.head _) g S h;obtain⟨g2,e2,h2⟩:=ih (AB++[e]) k g1 _ (by omega) (by simp;omega) (fun x hx=>hr x (.tail _ hx)) h1
  refine⟨g2,?_,h2.congr fun i=>by simp only [a0Y,a1d,exists_eq_or_imp];exact or_assoc⟩
  rw [oO,a1Y (bC _ _ _),bE,bsm,e1,bsm];dsimp only
  rw [a1T,aR (by omega),bsm,bL,bB,e2]
theorem bl3 {op nn:Int} {ar:List AR} (AC:List Int):∀ (AB:List Int) (k:Nat) (g:aL Int Bool) (S:Int->Prop),AC.length<k->AB.length+AC.length<=3000000->(∀ r∈AC,Vis1 p rec Y L r)->Has g S ->
 ∃ g',oX rec Y L ⟨op,nn,ar,AB++AC⟩ k AB.length g=some (.inl g')/\Has g' (fun i=>S i\/∃ m∈AC,Occ p m i):=by
 induction AC with
 | nil=>
  intro AB k g S hk _ _ h;obtain _ | k:=k
  ·omega
  rw [oX,a1X (by simp)];exact⟨g,rfl,h.congr fun i=>by simp⟩
 | cons e AC ih=>
  intro AB k g S hk hB hr h;obtain _ | k:=k
  ·omega
  simp only [a0R]at hk hB;obtain⟨g1,e1,h1⟩:=hr e (.head _) g S h;obtain⟨g2,e2,h2⟩:=ih (AB++[e]) k g1 _ (by omega) (by simp;omega) (fun x hx=>hr x (.tail _ hx)) h1
  refine⟨g2,?_,h2.congr fun i=>by simp only [a1d,exists_eq_or_imp];exact or_assoc⟩
  rw [oX,a1Y (bC _ _ _),bE,bsm,e1,bsm];dsimp only
  rw [a1T,aR (by omega),bsm,bL,bB,e2]
theorem okE_le {z:Int} {e:AR} (h:okE z e=true):nE e<=60:=by
 simp only [okE,a0k,a1W]at h
 exact h.2
theorem Ok1.exps {x:AW} {z:Int} (h:Ok1 p x z):∀ e∈x.AS,nE e<=60:=fun e he=>okE_le (a0t.1 h.args e he)
theorem below_p {sz:List Int} {rk:Int->Nat} (hp:Fm p sz rk) (hL:L.p=p) {f2:Nat} (hf2:3000000<f2):∀ (r AA:Nat) (n:Int) (x:AW) (z:Int),gH p sz rk n x z->rk n<r->3000000+r<=AA->Vis1 p (gT AA) (YN L f2) L n:=by
 intro r
 induction r with
 | zero=>intro AA n x z _ h;omega
 | succ r ih=>
  intro AA n x z G hr hf g S h;obtain _ | AA:=AA
  ·omega
  have hx:idx L.p.AD n=some x:=by rw [hL];exact G.node
  obtain⟨g1,e1,h1⟩:=b1_p (L:=L) (AA:=f2) hx hf2 (by have:=G.ok.la;omega) (fun e he=>by have:=G.ok.exps e he;omega) h
  have sub:∀ m∈kd p x,Vis1 p (gT AA) (YN L f2) L m:=fun m hm=>by
   obtain⟨w,hw⟩:=wA (z:=z) hm;obtain⟨q1,q2,y,q3⟩:=G.below _ hw;have hm0:=fX q1;obtain⟨_,x',z',G',_⟩:=hp.good m hm0.1 (by have:=hp.len;omega)
   exact ih AA m x' z' G' (by simp only at q2;omega) (by omega)
  have e1':YN L f2 n g=some g1:=e1;rw [gT,e1',bsm,hx,bsm];by_cases o4:x.Op=4
  ·rw [a1Y o4];obtain⟨d,ed,okd⟩:=G.ok.def_ o4;have hlim:=gI okd;have ed':idx L.p.AE x.N=some d:=by rw [hL];exact ed
   have sub':=sub;simp only [kd,a1Y o4,ed]at sub;obtain⟨g2,e2,h2⟩:=bl1 (ch:=d.AK) (sp:=d.AO) d.AL [] AA g1 _ (by omega) (by simp;omega) (fun q hq=>sub q.AQ (a1b _ (a1b _ (a1f.2 ⟨q,hq,rfl⟩)))) h1
   obtain⟨g3,e3,h3⟩:=bl2 (ch:=d.AK) (ru:=d.AL) d.AO [] AA g2 _ (by omega) (by simp;omega) (fun q hq=>sub q.AQ (a1b _ (a1c _ (a1f.2 ⟨q,hq,rfl⟩)))) h2
   obtain⟨g4,e4,h4⟩:=bl3 (op:=x.Op) (nn:=x.N) (ar:=x.AS) x.AN [] AA g3 _ (by have:=G.ok.lk;omega) (by have:=G.ok.lk;simp;omega) (fun q hq=>sub q (a1c _ hq)) h3
   simp only [a1j,a0V,a0q]at e2 e3 e4;rw [ed',bsm,e2,bsm];dsimp only
   rw [bsm,e3,bsm];dsimp only
   rw [show(⟨x.Op,x.N,x.AS,x.AN⟩:AW)=x from rfl]at e4;rw [e4,bsm];dsimp only
   refine⟨g4,rfl,h4.congr fun i=>?_⟩
   rw [aFT G.node];simp only [kd,a1Y o4,ed,a1a];constructor
   ·rintro((((h | h) | ⟨m,hm,h⟩) | ⟨m,hm,h⟩) | ⟨m,hm,h⟩)
    ·exact .inl h
    ·exact .inr (.inl h)
    ·exact .inr (.inr ⟨m, .inl (.inl hm),h⟩)
    ·exact .inr (.inr ⟨m, .inl (.inr hm),h⟩)
    ·exact .inr (.inr ⟨m, .inr hm,h⟩)
   ·rintro(h | h | ⟨m,(hm | hm) | hm,h⟩)
    ·exact .inl (.inl (.inl (.inl h)))
    ·exact .inl (.inl (.inl (.inr h)))
    ·exact .inl (.inl (.inr ⟨m,hm,h⟩))
    ·exact .inl (.inr ⟨m,hm,h⟩)
    ·exact .inr ⟨m,hm,h⟩
  ·rw [a1X o4,bsm];dsimp only
   simp only [kd,a1X o4]at sub;obtain⟨g4,e4,h4⟩:=bl3 (op:=x.Op) (nn:=x.N) (ar:=x.AS) x.AN [] AA g1 _ (by have:=G.ok.lk;omega) (by have:=G.ok.lk;simp;omega) (fun q hq=>sub q hq) h1
   simp only [a1j,a0V,a0q]at e4;rw [show(⟨x.Op,x.N,x.AS,x.AN⟩:AW)=x from rfl]at e4;rw [e4,bsm];dsimp only
   refine⟨g4,rfl,h4.congr fun i=>?_⟩
   rw [aFT G.node];simp only [kd,a1X o4];exact or_assoc
theorem aBC {g:aL Int Bool} {S:Int->Prop} (h:Has g S) {z:Nat} (hz:z<=1000000):∀ (d i k:Nat) (acc:List Int),i+d=z->d<k->Srt acc->(∀ a∈acc,a<(i:Int))->acc.length<=i ->
 ∃ l,nU g z k acc i=some l/\Srt l/\∀ a,a∈l ↔ a∈acc\/((i:Int)<=a/\a<(z:Int)/\S a)
 | 0,i,k,acc,hi,hk,hs,ha,hl=>by
  obtain _ | k:=k
  ·omega
  rw [nU,a1X (by omega)];exact⟨acc,rfl,hs,fun a=>⟨.inl,fun q=>q.elim id fun q=>by omega⟩⟩
 | d+1,i,k,acc,hi,hk,hs,ha,hl=>by
  obtain _ | k:=k
  ·omega
  rw [nU,a1Y (by omega)];by_cases hS:S (i:Int)
  ·rw [(h _).1 hS,a1L,a1T,dI (by simp;omega),bsm,bsm,aR (by omega),bsm];obtain⟨l,e,q1,q2⟩:=aBC h hz d (i+1) k (acc++[(i:Int)]) (by omega) (by omega)
    (a1m.2 ⟨hs,a1o _ _,fun a ha' b hb=>by rw [a1i.1 hb];exact ha a ha'⟩)
    (fun a ha'=>by rcases a1a.1 ha' with q | q
                   ·have:=ha a q;omega
                   ·rw [a1i.1 q];omega) (by simp;omega)
   refine⟨l,e,q1,fun a=>?_⟩
   rw [q2,a1a,a1i];constructor
   ·rintro((q | rfl) | ⟨h1,h2,h3⟩)
    ·exact .inl q
    ·exact .inr ⟨by omega,by omega,hS⟩
    ·exact .inr ⟨by omega,h2,h3⟩
   ·rintro(q | ⟨h1,h2,h3⟩)
    ·exact .inl (.inl q)
    ·by_cases e0:a=(i:Int)
     ·exact .inl (.inr e0)
     ·exact .inr ⟨by omega,h2,h3⟩
  ·rw [(h _).2 hS,Option.getD_none,a1S,bsm,aR (by omega),bsm];obtain⟨l,e,q1,q2⟩:=aBC h hz d (i+1) k acc (by omega) (by omega) hs (fun a ha'=>by have:=ha a ha';omega) (by omega)
   refine⟨l,e,q1,fun a=>?_⟩
   rw [q2];constructor
   ·rintro(q | ⟨h1,h2,h3⟩)
    ·exact .inl q
    ·exact .inr ⟨by omega,h2,h3⟩
   ·rintro(q | ⟨h1,h2,h3⟩)
    ·exact .inl q
    ·by_cases e0:a=(i:Int)
     ·subst e0;exact absurd h3 hS
     ·exact .inr ⟨by omega,h2,h3⟩
def uG (p:AI) (n z:Int) (l:List Int):Prop:=Srt l/\∀ i,i∈l ↔ 0<=i/\i<z/\Occ p n i
theorem uG.uniq {n z:Int} {l m:List Int} (h:uG p n z l) (k:uG p n z m):l=m:=aCY h.1 k.1 fun i=>(h.2 i).trans (k.2 i).symm
theorem needs_p {sz:List Int} {rk:Int->Nat} (hp:Fm p sz rk) {AP AT:List Bool} {n:Int} {x:AW} {z:Int} (G:gH p sz rk n x z) (hz:z<=1000000):∃ l,tZ F ⟨p,sz,AP,AT⟩ n=some l/\uG p n z l:=by
 have hn:=fX G.node
 obtain⟨hr,_⟩:=hp.good n hn.1 hn.2
 obtain⟨g,e1,h1⟩:=below_p (L:=⟨p,sz,AP,AT⟩) hp rfl (f2:=F) (by decide) 60 F n x z G hr (by decide) aL.none _ has_none
 have h0:=G.pos
 obtain⟨l,e2,q1,q2⟩:=aBC h1 (z:=z.toNat) (by omega) z.toNat 0 F [] (by omega) (by unfold F;omega) .nil (fun a h=>by cases h) (a1K _)
 refine⟨l,?_,q1,fun i=>?_⟩
 ·unfold tZ aAL aAz;rw [bsm];dsimp only
  rw [e1,bsm,bsm,G.size,bsm];rw [a0s h0,a0q]at e2;rw [e2,bsm]
 ·rw [q2,a0s h0];simp only [List.not_mem_nil,false_or,a0q]
open Go.SX Go.SW Go.Dt
theorem add_scan {n:Int} (AC:List Int):∀ (AB:List Int) (k:Nat),AC.length<k->AB.length+AC.length<=900000000->(∀ a∈AB,a<n)->Srt (AB++AC) ->
 ∃ A B,AB++AC=A++B/\(∀ a∈A,a<n)/\(∀ b∈B,n<=b)/\pI (AB++AC) n k AB.length=some (A.length:Int):=by
 induction AC with
 | nil=>
  intro AB k hk _ hp _;obtain _ | k:=k
  ·omega
  rw [pI,a1X (by simp)];exact⟨AB,[],rfl,hp,fun b h=>(by cases h),rfl⟩
 | cons e AC ih=>
  intro AB k hk hB hp hs;obtain _ | k:=k
  ·omega
  simp only [a0R]at hk hB;rw [pI,a1Y (bC _ _ _),bE,bsm];by_cases he:e<n
  ·rw [a1Y he,aR (by omega),bsm,bL,bB];exact ih (AB++[e]) k (by omega) (by simp;omega) (fun a ha=>by
    rcases a1a.1 ha with q | q
    ·exact hp a q
    ·rw [a1i.1 q];exact he) (by rw [a0u];exact hs)
  ·rw [a1X he];refine⟨AB,e :: AC,rfl,hp,fun b hb=>?_,rfl⟩
   rcases a1d.1 hb with rfl | hb
   ·omega
   ·have:=(a1n.1 (a1m.1 hs).2.1).1 b hb;omega
theorem add_r {AA:Nat} {l:List Int} {n:Int} (hf:l.length<AA) (hB:l.length<=900000000) (hs:Srt l):∃ m,iE AA l n=some m/\Srt m/\∀ i,i∈m ↔ i∈l\/i=n:=by
 obtain⟨A,B,e,hA,hB2,h⟩:=add_scan (n:=n) l [] AA (by omega) (by simp;omega) (fun a h=>by cases h) hs
 simp only [a1j,a0V,a0q]at e h
 have hs':=hs
 rw [e]at hs'
 obtain⟨sA,sB,sAB⟩:=a1m.1 hs'
 have hl:l.length=A.length+B.length:=by rw [e,a0Q]
 have go:Srt (A++(n :: B))->(n ∉ B)->∃ m,((slc l (A.length:Int) (l.length:Int)).bind fun y3=>(cQ ([n]++y3)).bind fun z2=>(slc l 0 (A.length:Int)).bind fun y4=>(cQ (([]:List Int)++y4)).bind fun z3=>(cQ (z3++z2)).bind fun z4=>some z4)=some m/\Srt m/\∀ i,i∈m ↔ i∈l\/i=n:=by
  intro hsm hn;have e1:slc l (A.length:Int) (l.length:Int)=some B:=by
   unfold slc;rw [a1Y (by omega),a0r,a0r,a1r,e,List.drop_left]
  have e2:slc l 0 (A.length:Int)=some A:=by
   unfold slc;rw [a1Y (by omega)];simp [e]
  rw [e1,bsm,dI (by simp;omega),bsm,e2,bsm,dI (by simp;omega),bsm,dI (by simp;omega),bsm];refine⟨_,rfl,hsm,fun i=>?_⟩
  rw [e];simp only [a1j,a0w,a1a,a1d];constructor
  ·rintro(q | q | q)
   ·exact .inl (.inl q)
   ·exact .inr q
   ·exact .inl (.inr q)
  ·rintro((q | q) | q)
   ·exact .inl q
   ·exact .inr (.inr q)
   ·exact .inr (.inl q)
 unfold iE
 rw [h,bsm]
 cases B with
 | nil=>
  rw [a1X (by simp at hl;omega),bsm];dsimp only
  exact go (a1m.2 ⟨sA,a1o _ _,fun a ha b hb=>by rw [a1i.1 hb];exact hA a ha⟩) (by simp)
 | cons b B=>
  have hb:=hB2 b (.head _);have ib:idx l (A.length:Int)=some b:=by rw [e];exact bE A B b
  rw [a1Y (by simp at hl;omega),ib,bsm];by_cases hbn:b=n
  ·rw [a1Y hbn,bsm,bsm];dsimp only
   refine⟨l,rfl,hs,fun i=>⟨.inl,fun q=>q.elim id fun q=>?_⟩⟩
   rw [q,<- hbn,e];exact a1c _ (.head _)
  ·rw [a1X hbn,bsm];dsimp only
   have hlt:∀ c∈b :: B,n<c:=fun c hc=>by
    rcases a1d.1 hc with rfl | hc
    ·omega
    ·have:=(a1n.1 sB).1 c hc;omega
   exact go (a1m.2 ⟨sA,a1n.2 ⟨hlt,sB⟩,fun a ha c hc=>by
    rcases a1d.1 hc with rfl | hc
    ·exact hA a ha
    ·exact sAB a ha c hc⟩) (fun q=>by have:=hlt n q;omega)
theorem kidsR1 {ch:List Al} {sp:List Aj} (AC:List Af):∀ (AB:List Af) (acc:List Int) (k:Nat),AC.length<k->AB.length+AC.length<=3000000->acc.length+AC.length<=900000000 ->
 oA ⟨ch,sp,AB++AC⟩ k acc AB.length=some (acc++AC.map (·.AQ)):=by
 induction AC with
 | nil=>
  intro AB acc k hk _ _;obtain _ | k:=k
  ·omega
  rw [oA,a1X (by simp)];simp
 | cons e AC ih=>
  intro AB acc k hk hB hA;obtain _ | k:=k
  ·omega
  simp only [a0R]at hk hB hA;rw [oA,a1Y (bC _ _ _),bE,bsm,dI (by simp;omega),bsm,aR (by omega),bsm,bL,bB,ih (AB++[e]) (acc++[e.AQ]) k (by omega) (by simp;omega) (by simp;omega)];simp
theorem kidsR2 {ch:List Al} {ru:List Af} (AC:List Aj):∀ (AB:List Aj) (acc:List Int) (k:Nat),AC.length<k->AB.length+AC.length<=3000000->acc.length+AC.length<=900000000 ->
 pB ⟨ch,AB++AC,ru⟩ k acc AB.length=some (acc++AC.map (·.AQ)):=by
 induction AC with
 | nil=>
  intro AB acc k hk _ _;obtain _ | k:=k
  ·omega
  rw [pB,a1X (by simp)];simp
 | cons e AC ih=>
  intro AB acc k hk hB hA;obtain _ | k:=k
  ·omega
  simp only [a0R]at hk hB hA;rw [pB,a1Y (bC _ _ _),bE,bsm,dI (by simp;omega),bsm,aR (by omega),bsm,bL,bB,ih (AB++[e]) (acc++[e.AQ]) k (by omega) (by simp;omega) (by simp;omega)];simp
theorem kids_r {p:AI} {n:Int} {x:AW} {z:Int} {AA:Nat} (hx:idx p.AD n=some x) (ok:Ok1 p x z) (hf:3000<AA):vV AA p n=some (kd p x)/\(kd p x).length<=62:=by
 have:=ok.lk
 unfold vV kd
 rw [hx,bsm]
 by_cases o4:x.Op=4
 ·obtain⟨d,ed,okd⟩:=ok.def_ o4;have hl:=gI okd;rw [a1Y o4,a1Y o4,ed];dsimp only
  rw [bsm];have e1:=kidsR1 (ch:=d.AK) (sp:=d.AO) d.AL [] [] AA (by omega) (by simp;omega) (by simp;omega)
  have e2:=kidsR2 (ch:=d.AK) (ru:=d.AL) d.AO [] (d.AL.map (·.AQ)) AA (by omega) (by simp;omega) (by simp;omega)
  simp only [a1j,a0V,a0q]at e1 e2;rw [e1,bsm,e2,bsm,dI (by simp;omega),bsm];exact⟨rfl,by simp;omega⟩
 ·rw [a1X o4,a1X o4,bsm,dI (by simp;omega),bsm];exact⟨rfl,by omega⟩
theorem aEr {p:AI} {sz:List Int} {rk:Int->Nat} (hp:Fm p sz rk) {n k:Int} (r:Rch p n k):(0<=n/\n<(p.AD.length:Int))->0<=k/\k<(p.AD.length:Int):=by
 induction r with
 | refl n=>exact id
 | step h hm _ ih=>
  intro hn;apply ih
  obtain⟨_,x,z,G,_⟩:=hp.good _ hn.1 hn.2;have hx:=G.node;rw [h]at hx;cases hx
  obtain⟨w,hw⟩:=wA (z:=z) hm;obtain⟨q1,_⟩:=G.below _ hw;have:=fX q1;have:=hp.len;simp only at *;omega
def Bel (p:AI) (rec:AI->List Int->Int->Option (List Int)) (m:Int):Prop:=∀ out,Srt out->(∀ i∈out,0<=i/\i<(p.AD.length:Int))->∃ l,rec p out m=some l/\Srt l/\∀ i,i∈l ↔ i∈out\/Rch p m i
theorem belR {p:AI} {rec:AI->List Int->Int->Option (List Int)} (hg:∀ m k,m∈(List.range p.AD.length).map (fun i:Nat=>(i:Int))->Rch p m k->0<=k/\k<(p.AD.length:Int)) (AC:List Int):∀ (AB out:List Int) (k:Nat),AC.length<k->AB.length+AC.length<=3000000 ->
 (∀ m∈AC,Bel p rec m/\m∈(List.range p.AD.length).map (fun i:Nat=>(i:Int)))->Srt out->(∀ i∈out,0<=i/\i<(p.AD.length:Int))->∃ l,nF rec p (AB++AC) k out AB.length=some l/\Srt l/\∀ i,i∈l ↔ i∈out\/∃ m∈AC,Rch p m i:=by
 induction AC with
 | nil=>
  intro AB out k hk _ _ hs _;obtain _ | k:=k
  ·omega
  rw [nF,a1X (by simp)];exact⟨out,rfl,hs,fun i=>by simp⟩
 | cons e AC ih=>
  intro AB out k hk hB hr hs ho;obtain _ | k:=k
  ·omega
  simp only [a0R]at hk hB;obtain⟨h1,h2⟩:=hr e (.head _);obtain⟨l1,e1,s1,m1⟩:=h1 out hs ho;obtain⟨l2,e2,s2,m2⟩:=ih (AB++[e]) l1 k (by omega) (by simp;omega) (fun m hm=>hr m (.tail _ hm)) s1 (fun i hi=>by
   rcases(m1 i).1 hi with q | q
   ·exact ho i q
   ·exact hg e i h2 q)
  refine⟨l2,?_,s2,fun i=>?_⟩
  ·rw [nF,a1Y (bC _ _ _),bE,bsm];rw [show(⟨p.AF,p.AD,p.AE,p.AG⟩:AI)=p from rfl,e1,bsm,aR (by omega),bsm,bL,bB,e2]
  ·rw [m2,m1];simp only [a1d,exists_eq_or_imp];exact or_assoc
theorem below_r {p:AI} {sz:List Int} {rk:Int->Nat} (hp:Fm p sz rk):∀ (r AA:Nat) (n:Int) (x:AW) (z:Int),gH p sz rk n x z->rk n<r->3000000+r<=AA->Bel p (lC AA) n:=by
 intro r
 induction r with
 | zero=>intro AA n x z _ h;omega
 | succ r ih=>
  intro AA n x z G hr hf out hs ho;obtain _ | AA:=AA
  ·omega
  have hn:=fX G.node;have h60:=hp.n60;have hl:=tV hs ho;obtain⟨l1,e1,s1,m1⟩:=add_r (AA:=AA) (n:=n) (by omega) (by omega) hs
  obtain⟨e2,hk⟩:=kids_r (AA:=AA) G.node G.ok (by omega)
  have sub:∀ m∈kd p x,Bel p (lC AA) m/\m∈(List.range p.AD.length).map (fun i:Nat=>(i:Int)):=fun m hm=>by
   obtain⟨w,hw⟩:=wA (z:=z) hm;obtain⟨q1,q2,y,q3⟩:=G.below _ hw;have hm0:=fX q1;have:=hp.len;obtain⟨_,x',z',G',_⟩:=hp.good m hm0.1 (by simp only at *;omega)
   refine⟨ih AA m x' z' G' (by simp only at q2;omega) (by omega),a1f.2 ⟨m.toNat,List.mem_range.2 (by simp only at *;omega),by simp only at *;omega⟩⟩
  obtain⟨l2,e3,s2,m2⟩:=belR (fun m k hm hr=>by
   obtain⟨j,hj,rfl⟩:=a1f.1 hm;have:=List.mem_range.1 hj;exact aEr hp hr ⟨by omega,by omega⟩) (kd p x) [] l1 AA (by omega) (by simp;omega) sub s1 (fun i hi=>by
    rcases(m1 i).1 hi with q | q
    ·exact ho i q
    ·rw [q];exact hn)
  simp only [a1j,a0V,a0q]at e3;refine⟨l2,?_,s2,fun i=>?_⟩
  ·rw [lC,e1,bsm,show(⟨p.AF,p.AD,p.AE,p.AG⟩:AI)=p from rfl,e2,bsm,e3,bsm]
  ·rw [m2,m1,aDc G.node];exact or_assoc
theorem nm_in {s:Int}:(∀ (e:AR),fE s e=true->∀ i∈nmE e,0<=i/\i<s)/\∀ (ks:List AR),fL s ks=true->∀ i∈nmL ks,0<=i/\i<s:=⟨go,goL⟩
where
 go:∀ (e:AR),fE s e=true->∀ i∈nmE e,0<=i/\i<s
  | ⟨op,n,ks⟩,h,i,hi=>by
   simp only [fE,a0k]at h;simp only [nmE,a1a]at hi;rcases hi with hi | hi
   ·split at hi
    ·rename_i o2;rw [a1i.1 hi];have h1:=h.1;simp [loc,o2]at h1;omega
    ·cases hi
   ·exact goL ks h.2 i hi
 goL:∀ (ks:List AR),fL s ks=true->∀ i∈nmL ks,0<=i/\i<s
  | [],_,i,hi=>by cases hi
  | k :: ks,h,i,hi=>by
   simp only [fL,a0k]at h;simp only [nmL,a1a]at hi;rcases hi with hi | hi
   ·exact go k h.1 i hi
   ·exact goL ks h.2 i hi
theorem aFX {s:Int}:∀ {ks:List AR},ks.all (okE s)=true->∀ i∈nmL ks,0<=i/\i<s
 | [],_,i,hi=>by cases hi
 | k :: ks,h,i,hi=>by
  simp only [List.all_cons,a0k]at h;simp only [nmL,a1a]at hi;rcases hi with hi | hi
  ·have h1:=h.1;simp only [okE,a0k]at h1;exact nm_in.1 k h1.1.1 i hi
  ·exact aFX h.2 i hi
theorem Ok1.names {p:AI} {x:AW} {z:Int} (h:Ok1 p x z):∀ i∈nmN x,0<=i/\i<z:=by
 intro i hi
 simp only [nmN,a1a]at hi
 rcases hi with hi | hi
 ·unfold nmO at hi;split at hi
  ·rename_i o;rw [a1i.1 hi];exact h.name o
  ·cases hi
 ·exact aFX h.args i hi
def AddR (z:Int) (o:Option (List Int)) (out ns:List Int):Prop:=∃ l,o=some l/\Srt l/\(∀ i,i∈l ↔ i∈out\/(i∈ns/\i<z))/\∀ i∈l,0<=i/\i<z
theorem aGI {rec:List Int->AR->Int->Option (List Int)} {op n z:Int} (AC:List AR):∀ (AB:List AR) (out:List Int) (k:Nat),AC.length<k->AB.length+AC.length<=3000000 ->
 (∀ e∈AC,∀ out,Srt out->(∀ i∈out,0<=i/\i<z)->AddR z (rec out e z) out (nmE e))->Srt out->(∀ i∈out,0<=i/\i<z)->AddR z (lD rec ⟨op,n,AB++AC⟩ z k out AB.length) out (nmL AC):=by
 induction AC with
 | nil=>
  intro AB out k hk _ _ hs ho;obtain _ | k:=k
  ·omega
  rw [lD,a1X (by simp)];exact⟨out,rfl,hs,fun i=>by simp [nmL],ho⟩
 | cons e AC ih=>
  intro AB out k hk hB hr hs ho;obtain _ | k:=k
  ·omega
  simp only [a0R]at hk hB;obtain⟨l1,e1,s1,m1,b1⟩:=hr e (.head _) out hs ho;obtain⟨l2,e2,s2,m2,b2⟩:=ih (AB++[e]) l1 k (by omega) (by simp;omega) (fun x hx=>hr x (.tail _ hx)) s1 b1
  refine⟨l2,?_,s2,fun i=>?_,b2⟩
  ·rw [lD,a1Y (bC _ _ _),bE,bsm,e1,bsm,aR (by omega),bsm,bL,bB,e2]
  ·rw [m2,m1];simp only [nmL,a1a];constructor
   ·rintro((q | ⟨q,r⟩) | ⟨q,r⟩)
    ·exact .inl q
    ·exact .inr ⟨.inl q,r⟩
    ·exact .inr ⟨.inr q,r⟩
   ·rintro(q | ⟨q | q,r⟩)
    ·exact .inl (.inl q)
    ·exact .inl (.inr ⟨q,r⟩)
    ·exact .inr ⟨q,r⟩
theorem aGD {AA:Nat} {z n:Int} {out:List Int} (hz:z<=1000000) (hf:1000001<AA) (hs:Srt out) (ho:∀ i∈out,0<=i/\i<z) (h0:0<=n) (hn:n<z):AddR z (iE AA out n) out [n]:=by
 have hl:=tV hs ho
 obtain⟨l,e,s1,m⟩:=add_r (AA:=AA) (l:=out) (n:=n) (by omega) (by omega) hs
 refine⟨l,e,s1,fun i=>?_,fun i hi=>?_⟩
 ·rw [m,a1i];constructor
  ·rintro(q | rfl)
   ·exact .inl q
   ·exact .inr ⟨rfl,hn⟩
  ·rintro(q | ⟨q,_⟩)
   ·exact .inl q
   ·exact .inr q
 ·rcases(m i).1 hi with q | rfl
  ·exact ho i q
  ·exact⟨h0,hn⟩
theorem need_r {z w:Int} (hz:z<=1000000) (AA:Nat):∀ (e:AR) (out:List Int),1000001+nE e<AA->nE e<=2000000->fE w e=true->Srt out->(∀ i∈out,0<=i/\i<z)->AddR z (jY AA out e z) out (nmE e):=by
 induction AA with
 | zero=>intro e out h;omega
 | succ AA ih=>
  intro ⟨op,n,ks⟩ out hf hB hok hs ho
  simp only [nE]at hf hB;simp only [fE,a0k]at hok;have hlen:=rB ks;have hfl:∀ e∈ks,fE w e=true:=fun e he=>by
   have:=hok.2;clear ih hf hB hlen hok;induction ks with
   | nil=>cases he
   | cons k ks ih=>
    simp only [fL,a0k]at this;rcases a1d.1 he with rfl | he
    ·exact this.1
    ·exact ih he this.2
  have step:∀ o1,Srt o1->(∀ i∈o1,0<=i/\i<z)->AddR z (lD (jY AA) ⟨op,n,ks⟩ z AA o1 0) o1 (nmL ks):=fun o1 h1 h2=>by
   have:=aGI (rec:=jY AA) (op:=op) (n:=n) (z:=z) ks [] o1 AA (by omega) (by simp;omega) (fun e he out hs ho=>ih e out (by have:=fY he;omega) (by have:=fY he;omega) (hfl e he) hs ho) h1 h2
   simpa using this
  rw [jY];dsimp only
  by_cases o2:op=2
  ·rw [a1Y o2];have h1:=hok.1;simp [loc,o2]at h1;by_cases hn:n<z
   ·obtain⟨l1,e1,s1,m1,b1⟩:=aGD (AA:=AA) hz (by omega) hs ho h1.1 hn
    obtain⟨l2,e2,s2,m2,b2⟩:=step l1 s1 b1;rw [a1Y hn,e1,bsm,bsm,e2,bsm];refine⟨l2,rfl,s2,fun i=>?_,b2⟩
    rw [m2,m1];simp only [nmE,a1Y o2,a1a];constructor
    ·rintro((q | ⟨q,r⟩) | ⟨q,r⟩)
     ·exact .inl q
     ·exact .inr ⟨.inl q,r⟩
     ·exact .inr ⟨.inr q,r⟩
    ·rintro(q | ⟨q | q,r⟩)
     ·exact .inl (.inl q)
     ·exact .inl (.inr ⟨q,r⟩)
     ·exact .inr ⟨q,r⟩
   ·obtain⟨l2,e2,s2,m2,b2⟩:=step out hs ho;rw [a1X hn,bsm,e2,bsm];refine⟨l2,rfl,s2,fun i=>?_,b2⟩
    rw [m2];simp only [nmE,a1Y o2,a1a,a1i];constructor
    ·rintro(q | ⟨q,r⟩)
     ·exact .inl q
     ·exact .inr ⟨.inr q,r⟩
    ·rintro(q | ⟨q | q,r⟩)
     ·exact .inl q
     ·subst q;exact absurd r hn
     ·exact .inr ⟨q,r⟩
  ·obtain⟨l2,e2,s2,m2,b2⟩:=step out hs ho;rw [a1X o2,bsm,e2,bsm];exact⟨l2,rfl,s2,fun i=>by rw [m2];simp only [nmE,a1X o2,a1j],b2⟩
theorem needs2 {z w:Int} (hz:z<=1000000) {AA:Nat} (hf:4000000<AA) {op nn:Int} {ks:List Int} (AC:List AR):∀ (AB:List AR) (out:List Int) (k:Nat),AC.length<k->AB.length+AC.length<=3000000->AC.all (okE w)=true->Srt out->(∀ i∈out,0<=i/\i<z) ->
 AddR z (jK AA z ⟨op,nn,AB++AC,ks⟩ k out AB.length) out (nmL AC):=by
 induction AC with
 | nil=>
  intro AB out k hk _ _ hs ho;obtain _ | k:=k
  ·omega
  rw [jK,a1X (by simp)];exact⟨out,rfl,hs,fun i=>by simp [nmL],ho⟩
 | cons e AC ih=>
  intro AB out k hk hB hr hs ho;obtain _ | k:=k
  ·omega
  simp only [a0R]at hk hB;simp only [List.all_cons,a0k]at hr;have h1:=hr.1;simp only [okE,a0k,a1W]at h1;obtain⟨l1,e1,s1,m1,b1⟩:=need_r hz AA e out (by omega) (by omega) h1.1.1 hs ho
  obtain⟨l2,e2,s2,m2,b2⟩:=ih (AB++[e]) l1 k (by omega) (by simp;omega) hr.2 s1 b1
  refine⟨l2,?_,s2,fun i=>?_,b2⟩
  ·rw [jK,a1Y (bC _ _ _),bE,bsm,e1,bsm,aR (by omega),bsm,bL,bB,e2]
  ·rw [m2,m1];simp only [nmL,a1a];constructor
   ·rintro((q | ⟨q,r⟩) | ⟨q,r⟩)
    ·exact .inl q
    ·exact .inr ⟨.inl q,r⟩
    ·exact .inr ⟨.inr q,r⟩
   ·rintro(q | ⟨q | q,r⟩)
    ·exact .inl (.inl q)
    ·exact .inl (.inr ⟨q,r⟩)
    ·exact .inr ⟨q,r⟩
theorem node_r {p:AI} {x:AW} {z w:Int} (ok:Ok1 p x w) (hz:z<=1000000) {AA:Nat} (hf:4000000<AA) {out:List Int} (hs:Srt out) (ho:∀ i∈out,0<=i/\i<z):
 AddR z ((if x.Op=2 then
  if x.N<z then
   (iE AA out x.N).bind fun y6=>
   some y6
  else
   some out
 else
  if x.Op=6 then
   if x.N<z then
    (iE AA out x.N).bind fun y7=>
    some y7
   else
    some out
  else
   if x.Op=8 then
    if x.N<z then
     (iE AA out x.N).bind fun y8=>
     some y8
    else
     some out
   else
    some out).bind fun x7=>
 jK AA z x AA x7 0) out (nmN x):=by
 have step:∀ o1,Srt o1->(∀ i∈o1,0<=i/\i<z)->AddR z (jK AA z x AA o1 0) o1 (nmL x.AS):=fun o1 h1 h2=>by
  have:=needs2 (w:=w) hz hf (op:=x.Op) (nn:=x.N) (ks:=x.AN) x.AS [] o1 AA (by have:=ok.la;omega) (by have:=ok.la;simp;omega) ok.args h1 h2
  simpa using this
 have yes:x.Op=2\/x.Op=6\/x.Op=8->AddR z ((if x.N<z then(iE AA out x.N).bind fun y6=>some y6 else some out).bind fun x7=>jK AA z x AA x7 0) out (nmN x):=fun o=>by
  have hn0:=(ok.name o).1;by_cases hn:x.N<z
  ·obtain⟨l1,e1,s1,m1,b1⟩:=aGD (AA:=AA) hz (by omega) hs ho hn0 hn
   obtain⟨l2,e2,s2,m2,b2⟩:=step l1 s1 b1;rw [a1Y hn,e1,bsm,bsm,e2];refine⟨l2,rfl,s2,fun i=>?_,b2⟩
   rw [m2,m1];simp only [nmN,nmO,a1Y o,a1a];constructor
   ·rintro((q | ⟨q,r⟩) | ⟨q,r⟩)
    ·exact .inl q
    ·exact .inr ⟨.inl q,r⟩
    ·exact .inr ⟨.inr q,r⟩
   ·rintro(q | ⟨q | q,r⟩)
    ·exact .inl (.inl q)
    ·exact .inl (.inr ⟨q,r⟩)
    ·exact .inr ⟨q,r⟩
  ·obtain⟨l2,e2,s2,m2,b2⟩:=step out hs ho;rw [a1X hn,bsm,e2];refine⟨l2,rfl,s2,fun i=>?_,b2⟩
   rw [m2];simp only [nmN,nmO,a1Y o,a1a,a1i];constructor
   ·rintro(q | ⟨q,r⟩)
    ·exact .inl q
    ·exact .inr ⟨.inr q,r⟩
   ·rintro(q | ⟨q | q,r⟩)
    ·exact .inl q
    ·subst q;exact absurd r hn
    ·exact .inr ⟨q,r⟩
 by_cases o2:x.Op=2
 ·rw [a1Y o2];exact yes (.inl o2)
 ·rw [a1X o2];by_cases o6:x.Op=6
  ·rw [a1Y o6];exact yes (.inr (.inl o6))
  ·rw [a1X o6];by_cases o8:x.Op=8
   ·rw [a1Y o8];exact yes (.inr (.inr o8))
   ·rw [a1X o8,bsm];obtain⟨l2,e2,s2,m2,b2⟩:=step out hs ho;refine⟨l2,e2,s2,fun i=>?_,b2⟩
    rw [m2];simp only [nmN,nmO,a1X (show ¬ (x.Op=2\/x.Op=6\/x.Op=8)from fun q=>q.elim o2 fun q=>q.elim o6 o8),a1j]
theorem nodes_r {p:AI} {z:Int} (hz:z<=1000000) {AA:Nat} (hf:4000000<AA) (AC:List Int):∀ (AB out:List Int) (k:Nat),AC.length<k->AB.length+AC.length<=3000000->(∀ m∈AC,∃ x w,idx p.AD m=some x/\Ok1 p x w)->Srt out->(∀ i∈out,0<=i/\i<z) ->
 ∃ l,oF AA p z (AB++AC) k out AB.length=some l/\Srt l/\(∀ i,i∈l ↔ i∈out\/((∃ m∈AC,∃ x,idx p.AD m=some x/\i∈nmN x)/\i<z))/\∀ i∈l,0<=i/\i<z:=by
 induction AC with
 | nil=>
  intro AB out k hk _ _ hs ho;obtain _ | k:=k
  ·omega
  rw [oF,a1X (by simp)];exact⟨out,rfl,hs,fun i=>by simp,ho⟩
 | cons e AC ih=>
  intro AB out k hk hB hr hs ho;obtain _ | k:=k
  ·omega
  simp only [a0R]at hk hB;obtain⟨x,w,hx,ok⟩:=hr e (.head _);obtain⟨l1,e1,s1,m1,b1⟩:=node_r ok hz hf hs ho;obtain⟨l2,e2,s2,m2,b2⟩:=ih (AB++[e]) l1 k (by omega) (by simp;omega) (fun m hm=>hr m (.tail _ hm)) s1 b1
  refine⟨l2,?_,s2,fun i=>?_,b2⟩
  ·rw [oF,a1Y (bC _ _ _),bE,bsm,hx,bsm,e1,bsm,aR (by omega),bsm,bL,bB,e2]
  ·rw [m2,m1];simp only [a1d,exists_eq_or_imp];constructor
   ·rintro((q | ⟨q,r⟩) | ⟨q,r⟩)
    ·exact .inl q
    ·exact .inr ⟨.inl ⟨x,hx,q⟩,r⟩
    ·exact .inr ⟨.inr q,r⟩
   ·rintro(q | ⟨⟨y,hy,q⟩ | q,r⟩)
    ·exact .inl (.inl q)
    ·rw [hx]at hy;cases hy;exact .inl (.inr ⟨q,r⟩)
    ·exact .inr ⟨q,r⟩
theorem aFc {f:Nat} (hf:4000100<f) {p:AI} (hp:SmP p) {s:VS} (hc:fC p=some s) {rk:Int->Nat} (hm:Fm p s.sz rk) {n:Int} {x:AW} {z:Int} (G:gH p s.sz rk n x z) (hz:z<=1000000):∃ l,iP f p n=some l/\uG p n z l:=by
 have hn:=fX G.node
 obtain⟨hr,_⟩:=hm.good n hn.1 hn.2
 have h60:=hm.n60
 obtain⟨l1,e1,s1,m1⟩:=below_r hm 60 f n x z G hr (by omega) [] .nil (fun i h=>by cases h)
 have hb:∀ i∈l1,0<=i/\i<(p.AD.length:Int):=fun i hi=>by
  rcases(m1 i).1 hi with q | q
  ·cases q
  ·exact aEr hm q hn
 have hl:=tV s1 hb
 obtain⟨l2,e2,s2,m2,b2⟩:=nodes_r (p:=p) hz (AA:=f) (by omega) l1 [] [] f (by omega) (by simp;omega) (fun m hmm=>by
  obtain⟨_,y,w,G',_⟩:=hm.good m (hb m hmm).1 (hb m hmm).2;exact⟨y,w,G'.node,G'.ok⟩) .nil (fun i h=>by cases h)
 simp only [a1j,a0V,a0q]at e2
 refine⟨l2,?_,s2,fun i=>?_⟩
 ·unfold iP aAf;rw [show(⟨p.AF,p.AD,p.AE,p.AG⟩:AI)=p from rfl,aD9 hp hc (by omega),bsm,G.size,bsm,e1,bsm,bsm,e2,bsm]
 ·constructor
  ·intro hi;refine⟨(b2 i hi).1,(b2 i hi).2,?_⟩;rcases(m2 i).1 hi with q | ⟨⟨m,hmm,y,hy,q⟩,_⟩
   ·cases q
   ·rcases(m1 m).1 hmm with r | r
    ·cases r
    ·exact⟨m,y,r,hy,q⟩
  ·rintro⟨h0,h1,k,y,r,hy,q⟩
   exact(m2 i).2 (.inr ⟨⟨k,(m1 k).2 (.inr r),y,hy,q⟩,h1⟩)
open Go.SX Go.SW Go.Dt
theorem aDW {d:Array Int} (hd:∀ i j,i<=j->j<d.size->d[i]! <=d[j]!):∀ m,m<=d.size->Srt (Go.Lib.compactUpTo d m)/\(∀ a∈Go.Lib.compactUpTo d m,∃ j,j<m/\d[j]! =a)/\(∀ j,j<m->d[j]! ∈Go.Lib.compactUpTo d m)
 | 0,_=>⟨by simp [Go.Lib.compactUpTo],fun a h=>by simp [Go.Lib.compactUpTo]at h,fun j h=>by omega⟩
 | m+1,hm=>by
  obtain⟨h1,h2,h3⟩:=aDW hd m (by omega)
  rw [Go.Lib.compactUpTo_succ];by_cases hk:m=0\/d[m]! ≠d[m - 1]!
  ·rw [a1Y (by simpa [Go.Lib.keeps] using hk)];refine⟨a1m.2 ⟨h1,a1o _ _,fun a ha b hb=>?_⟩,fun a ha=>?_,fun j hj=>?_⟩
   ·rw [a1i.1 hb];obtain⟨j,hj,rfl⟩:=h2 a ha;have q1:=hd j (m - 1) (by omega) (by omega)
    have q2:=hd (m - 1) m (by omega) (by omega)
    rcases hk with hk | hk
    ·omega
    ·omega
   ·rcases a1a.1 ha with q | q
    ·obtain⟨j,hj,e⟩:=h2 a q;exact⟨j,by omega,e⟩
    ·exact⟨m,by omega,(a1i.1 q).symm⟩
   ·by_cases e:j=m
    ·subst e;exact a1c _ (.head _)
    ·exact a1b _ (h3 j (by omega))
  ·rw [a1X (by simpa [Go.Lib.keeps] using hk),a0v];have hk':m≠0/\d[m]! =d[m - 1]! :=⟨fun q=>hk (.inl q),Classical.byContradiction fun q=>hk (.inr q)⟩
   refine⟨h1,fun a ha=>?_,fun j hj=>?_⟩
   ·obtain⟨j,hj,e⟩:=h2 a ha;exact⟨j,by omega,e⟩
   ·by_cases e:j=m
    ·subst e;rw [hk'.2];exact h3 _ (by omega)
    ·exact h3 j (by omega)
theorem aIT (l:List Int):Srt (Go.Lib.compact (fB l))/\∀ i,i∈Go.Lib.compact (fB l) ↔ i∈l:=by
 have hs:(fB l).Pairwise (fun a b=>a<=b):=by
  have:=List.pairwise_mergeSort (le:=fun x y:Int=>decide (x<=y)) (fun a b c h1 h2=>by simp at *;omega) (fun a b=>by simp;omega) l
  exact this.imp fun h=>by simpa using h
 have hd:∀ i j,i<=j->j<(fB l).toArray.size->(fB l).toArray[i]! <=(fB l).toArray[j]! :=fun i j hij hj=>by
  have hj':j<(fB l).length:=by simpa using hj
  have hi':i<(fB l).length:=by omega
  rcases a1E i j with h | h
  ·have:=(List.pairwise_iff_getElem.1 hs) i j hi' hj' h;simpa [hi',hj'] using this
  ·have:i=j:=by omega
   subst this;exact Int.le_refl _
 obtain⟨h1,h2,h3⟩:=aDW hd (fB l).length (by simp)
 refine⟨h1,fun i=>?_⟩
 have hm:i∈fB l ↔ i∈l:=List.mem_mergeSort
 rw [<- hm]
 constructor
 ·intro h;obtain⟨j,hj,rfl⟩:=h2 i h;simp [hj]
 ·intro h;obtain⟨j,hj,rfl⟩:=List.mem_iff_getElem.1 h;have:=h3 j hj;show(fB l)[j]∈Go.Lib.compactUpTo (fB l).toArray (fB l).length
  simpa [hj] using this
structure Cx (p:AI) (s:VS) (rk:Int->Nat):Prop where
 sm:SmP p
 chk_:fC p=some s
 fm:Fm p s.sz rk
def cP (p:AI) (n:Int):List Int:=(iP F p n).getD []
structure NeedB (p:AI) (s:VS) (n z:Int):Prop where
 r:∀ f,4000100<f->iP f p n=some (cP p n)
 p_:tZ F ⟨p,s.sz,s.AP,s.AT⟩ n=some (cP p n)
 is:uG p n z (cP p n)
 len:((cP p n).length:Int)<=z
variable {p:AI} {s:VS} {rk:Int->Nat}
theorem Cx.need (C:Cx p s rk) {n:Int} (h0:0<=n) (h1:n<(p.AD.length:Int)):∃ x z,gH p s.sz rk n x z/\z<=6012/\NeedB p s n z:=by
 obtain⟨_,x,z,G,hz⟩:=C.fm.good n h0 h1
 obtain⟨l,e1,i1⟩:=aFc (f:=F) (by decide) C.sm C.chk_ C.fm G (by omega)
 have hall:∀ f,4000100<f->iP f p n=some l:=fun f hf=>by
  obtain⟨l',e1',i1'⟩:=aFc hf C.sm C.chk_ C.fm G (by omega)
  rw [i1.uniq i1'];exact e1'
 obtain⟨m,e2,i2⟩:=needs_p C.fm (AP:=s.AP) (AT:=s.AT) G (by omega)
 have hl:cP p n=l:=by simp [cP,e1]
 have hm:m=l:=i2.uniq i1
 have:=tV i1.1 (a:=0) (b:=z) fun i hi=>⟨((i1.2 i).1 hi).1,((i1.2 i).1 hi).2.1⟩
 have:=G.pos
 exact⟨x,z,G,hz,⟨by rw [hl];exact hall,by rw [hl,<- hm];exact e2,by rw [hl];exact i1,by rw [hl];omega⟩⟩
def gY (p:AI):List (List Int):=(List.range p.AD.length).map fun (i:Nat)=>cP p i
theorem aBB {n:Int} (h0:0<=n) (h1:n<(p.AD.length:Int)):idx (gY p) n=some (cP p n):=by
 have:idx (gY p) (n.toNat:Int)=some (cP p n):=pZ (by
  unfold gY;rw [a0L,List.getElem?_range (by omega),a1N,a0s h0])
 rwa [a0s h0]at this
theorem aEh (C:Cx p s rk):∀ (d i k:Nat),i+d=p.AD.length->d<k->nG ⟨p,s.sz,s.AP,s.AT⟩ p (fun x=>tJ F x.1 x.2) k ((gY p).take i) i=some (gY p)
 | 0,i,k,h,hk=>by
  obtain _ | k:=k
  ·omega
  rw [nG,a1X (by omega),a1s (by simp [gY];omega)]
 | d+1,i,k,h,hk=>by
  obtain _ | k:=k
  ·omega
  have hi:i<p.AD.length:=by omega
  obtain⟨x,z,G,_,N⟩:=C.need (n:=(i:Int)) (by omega) (by omega)
  have h60:=C.fm.n60;rw [nG,a1Y (by omega)];simp only [tJ];rw [N.p_,bsm,bsm];have e:(gY p).take i++[cP p i]=(gY p).take (i+1):=by
   rw [List.take_add_one];simp [gY,hi]
  rw [e,dI (by simp [gY];omega),bsm,aR (by omega),bsm];exact aEh C d (i+1) k (by omega) (by omega)
theorem needs_S (C:Cx p s rk):vM F p=some (gY p,0):=by
 have e:=aEh C p.AD.length 0 F (by omega) (by have:=C.fm.n60;unfold F;omega)
 rw [List.take_zero,a0q]at e
 rw [vM,yK,yV,show(⟨p.AF,p.AD,p.AE,p.AG⟩:AI)=p from rfl,aCT C.sm,bsm,C.chk_]
 simp only [jC]
 rw [yF,e,bsm,bsm,bsm,bsm]
def bG (p:AI) (n:Int):List Int:=(iV F p n).getD []
def dks (d:AM):List Int:=d.AL.map (·.AQ)++d.AO.map (·.AQ)
def rX (p:AI) (d:AM) (z:Int) (l:List Int):Prop:=Srt l/\∀ i,i∈l ↔ 0<=i/\i<z/\∃ m∈dks d,i∈cP p m
theorem rX.uniq {d:AM} {z:Int} {l m:List Int} (h:rX p d z l) (k:rX p d z m):l=m:=aCY h.1 k.1 fun i=>(h.2 i).trans (k.2 i).symm
theorem want1 {f:Nat} {ch:List Al} {sp:List Aj} (AC:List Af):∀ (AB:List Af) (acc:List Int) (k:Nat),AC.length<k->AB.length+AC.length<=3000000->acc.length+6012*AC.length<=900000000->(∀ r∈AC,iP f p r.AQ=some (cP p r.AQ)/\(cP p r.AQ).length<=6012) ->
 oW f p ⟨ch,sp,AB++AC⟩ k acc AB.length=some (acc++(AC.map (·.AQ)).flatMap (cP p)):=by
 induction AC with
 | nil=>
  intro AB acc k hk _ _ _;obtain _ | k:=k
  ·omega
  rw [oW,a1X (by simp)];simp
 | cons e AC ih=>
  intro AB acc k hk hB hA hr;obtain _ | k:=k
  ·omega
  simp only [a0R]at hk hB hA;obtain⟨h1,h2⟩:=hr e (.head _);rw [oW,a1Y (bC _ _ _),bE,bsm,show(⟨p.AF,p.AD,p.AE,p.AG⟩:AI)=p from rfl,h1,bsm,dI (by simp;omega),bsm,aR (by omega),bsm,bL,bB,
   ih (AB++[e]) (acc++cP p e.AQ) k (by omega) (by simp;omega) (by simp;omega) (fun r hr'=>hr r (.tail _ hr'))]
  simp
theorem want2 {f:Nat} {ch:List Al} {ru:List Af} (AC:List Aj):∀ (AB:List Aj) (acc:List Int) (k:Nat),AC.length<k->AB.length+AC.length<=3000000->acc.length+6012*AC.length<=900000000->(∀ r∈AC,iP f p r.AQ=some (cP p r.AQ)/\(cP p r.AQ).length<=6012) ->
 pM f p ⟨ch,AB++AC,ru⟩ k acc AB.length=some (acc++(AC.map (·.AQ)).flatMap (cP p)):=by
 induction AC with
 | nil=>
  intro AB acc k hk _ _ _;obtain _ | k:=k
  ·omega
  rw [pM,a1X (by simp)];simp
 | cons e AC ih=>
  intro AB acc k hk hB hA hr;obtain _ | k:=k
  ·omega
  simp only [a0R]at hk hB hA;obtain⟨h1,h2⟩:=hr e (.head _);rw [pM,a1Y (bC _ _ _),bE,bsm,show(⟨p.AF,p.AD,p.AE,p.AG⟩:AI)=p from rfl,h1,bsm,dI (by simp;omega),bsm,aR (by omega),bsm,bL,bB,
   ih (AB++[e]) (acc++cP p e.AQ) k (by omega) (by simp;omega) (by simp;omega) (fun r hr'=>hr r (.tail _ hr'))]
  simp
def kX (u:List Bool) (S:Int->Prop) (z:Nat):Prop:=u.length=z/\∀ i:Int,0<=i->i<z->(S i->idx u i=some true)/\(¬ S i->idx u i=some false)
theorem want3 {z:Nat} (AC:List Int):∀ (AB:List Int) (u:List Bool) (S:Int->Prop) (k:Nat),AC.length<k->AB.length+AC.length<=900000000->(∀ i∈AC,0<=i)->kX u S z ->
 ∃ u',mM z (AB++AC) k u AB.length=some u'/\kX u' (fun i=>S i\/i∈AC) z:=by
 induction AC with
 | nil=>
  intro AB u S k hk _ _ h;obtain _ | k:=k
  ·omega
  rw [mM,a1X (by simp)];exact⟨u,rfl,h.1,fun i h0 h1=>⟨fun q=>(h.2 i h0 h1).1 (q.elim id fun q=>by cases q),fun q=>(h.2 i h0 h1).2 fun r=>q (.inl r)⟩⟩
 | cons e AC ih=>
  intro AB u S k hk hB hr h;obtain _ | k:=k
  ·omega
  simp only [a0R]at hk hB;have h0:=hr e (.head _);have next:∀ u1,kX u1 (fun i=>S i\/i=e) z->∃ u',mM z (AB++e :: AC) k u1 ((AB.length:Int)+1)=some u'/\kX u' (fun i=>S i\/i∈e :: AC) z:=fun u1 h1=>by
   obtain⟨u2,e2,h2⟩:=ih (AB++[e]) u1 _ k (by omega) (by simp;omega) (fun i hi=>hr i (.tail _ hi)) h1
   refine⟨u2,by rw [bL,bB];exact e2,h2.1,fun i q0 q1=>⟨fun q=>(h2.2 i q0 q1).1 ?_,fun q=>(h2.2 i q0 q1).2 fun r=>q ?_⟩⟩
   ·rcases q with q | q
    ·exact .inl (.inl q)
    ·rcases a1d.1 q with q | q
     ·exact .inl (.inr q)
     ·exact .inr q
   ·rcases r with(r | r) | r
    ·exact .inl r
    ·exact .inr (r ▸ .head _)
    ·exact .inr (.tail _ r)
  rw [mM,a1Y (bC _ _ _),bE,bsm];by_cases hz:e<(z:Int)
  ·obtain⟨b,hb⟩:=eY (xs:=u) h0 (by rw [h.1];exact hz)
   rw [a1Y hz,bsm,hb,bsm,bsm,aR (by omega),bsm];refine next _ ⟨by simp [h.1],fun i q0 q1=>⟨fun q=>?_,fun q=>?_⟩⟩
   ·by_cases ei:i=e
    ·subst ei;exact aBt h0 (by rw [h.1];exact hz)
    ·rw [aBm h0 ei];exact(h.2 i q0 q1).1 (q.elim id fun r=>absurd r ei)
   ·have ei:i≠e:=fun r=>q (.inr r)
    rw [aBm h0 ei];exact(h.2 i q0 q1).2 fun r=>q (.inl r)
  ·rw [a1X hz,bsm,aR (by omega),bsm];refine next u ⟨h.1,fun i q0 q1=>⟨fun q=>(h.2 i q0 q1).1 (q.elim id fun r=>by omega),fun q=>(h.2 i q0 q1).2 fun r=>q (.inl r)⟩⟩
theorem want4 {u:List Bool} {S:Int->Prop} {z:Nat} (h:kX u S z) (hz:z<=1000000):∀ (d i k:Nat) (acc:List Int),i+d=z->d<k->Srt acc->(∀ a∈acc,a<(i:Int))->acc.length<=i ->
 ∃ l,pD z u k acc i=some l/\Srt l/\∀ a,a∈l ↔ a∈acc\/((i:Int)<=a/\a<(z:Int)/\S a)
 | 0,i,k,acc,hi,hk,hs,ha,hl=>by
  obtain _ | k:=k
  ·omega
  rw [pD,a1X (by omega)];exact⟨acc,rfl,hs,fun a=>⟨.inl,fun q=>q.elim id fun q=>by omega⟩⟩
 | d+1,i,k,acc,hi,hk,hs,ha,hl=>by
  obtain _ | k:=k
  ·omega
  rw [pD,a1Y (by omega)];by_cases hS:S (i:Int)
  ·rw [(h.2 _ (by omega) (by omega)).1 hS,bsm,a1T,dI (by simp;omega),bsm,bsm,aR (by omega),bsm];obtain⟨l,e,q1,q2⟩:=want4 h hz d (i+1) k (acc++[(i:Int)]) (by omega) (by omega)
    (a1m.2 ⟨hs,a1o _ _,fun a ha' b hb=>by rw [a1i.1 hb];exact ha a ha'⟩)
    (fun a ha'=>by rcases a1a.1 ha' with q | q
                   ·have:=ha a q;omega
                   ·rw [a1i.1 q];omega) (by simp;omega)
   refine⟨l,e,q1,fun a=>?_⟩
   rw [q2,a1a,a1i];constructor
   ·rintro((q | rfl) | ⟨h1,h2,h3⟩)
    ·exact .inl q
    ·exact .inr ⟨by omega,by omega,hS⟩
    ·exact .inr ⟨by omega,h2,h3⟩
   ·rintro(q | ⟨h1,h2,h3⟩)
    ·exact .inl (.inl q)
    ·by_cases e0:a=(i:Int)
     ·exact .inl (.inr e0)
     ·exact .inr ⟨by omega,h2,h3⟩
  ·rw [(h.2 _ (by omega) (by omega)).2 hS,bsm,a1S,bsm,aR (by omega),bsm];obtain⟨l,e,q1,q2⟩:=want4 h hz d (i+1) k acc (by omega) (by omega) hs (fun a ha'=>by have:=ha a ha';omega) (by omega)
   refine⟨l,e,q1,fun a=>?_⟩
   rw [q2];constructor
   ·rintro(q | ⟨h1,h2,h3⟩)
    ·exact .inl q
    ·exact .inr ⟨by omega,h2,h3⟩
   ·rintro(q | ⟨h1,h2,h3⟩)
    ·exact .inl q
    ·by_cases e0:a=(i:Int)
     ·subst e0;exact absurd h3 hS
     ·exact .inr ⟨by omega,h2,h3⟩
theorem Cx.dks (C:Cx p s rk) {n:Int} {x:AW} {z:Int} (G:gH p s.sz rk n x z) (o4:x.Op=4):∃ d,idx p.AE x.N=some d/\okD d=true/\∀ m∈dks d,∃ w,NeedB p s m w/\w<=6012:=by
 obtain⟨d,ed,okd⟩:=G.ok.def_ o4
 refine⟨d,ed,okd,fun m hm=>?_⟩
 obtain⟨w,hw⟩:=wA (p:=p) (x:=x) (z:=z) (m:=m) (by unfold kd;rw [a1Y o4,ed];exact a1b _ hm)
 obtain⟨q1,_⟩:=G.below _ hw
 have h1:=fX q1
 have:=C.fm.len
 obtain⟨_,w',_,hw',N⟩:=C.need (n:=m) h1.1 (by simp only at *;omega)
 exact⟨w',N,hw'⟩
theorem aB0 (C:Cx p s rk) {n:Int} {x:AW} {z:Int} (G:gH p s.sz rk n x z) (hz:z<=6012) (o4:x.Op=4):∃ d,idx p.AE x.N=some d/\okD d=true/\(∀ f,4000100<f->iV f p n=some (bG p n))/\rX p d z (bG p n):=by
 obtain⟨d,ed,okd,hd⟩:=C.dks G o4
 refine⟨d,ed,okd,?_⟩
 have hl:=gI okd
 have h0:=G.pos
 have fin:∃ l,(∀ f,4000100<f->iV f p n=some l)/\rX p d z l:=by
  have main:∀ f,4000100<f->∃ l,iV f p n=some l/\rX p d z l:=fun f hf=>by
   have e1:=want1 (f:=f) (p:=p) (ch:=d.AK) (sp:=d.AO) d.AL [] [] f (by omega) (by simp;omega) (by simp;omega) (fun r hr=>by
    obtain⟨w,N,hw⟩:=hd r.AQ (a1b _ (a1f.2 ⟨r,hr,rfl⟩));exact⟨N.r f hf,by have:=N.len;omega⟩)
   have hb:∀ m∈dks d,(cP p m).length<=6012:=fun m hm=>by obtain⟨w,N,hw⟩:=hd m hm;have:=N.len;omega
   have hfl:∀ ms:List Int,(∀ m∈ms,(cP p m).length<=6012)->(ms.flatMap (cP p)).length<=6012*ms.length:=fun ms=>by
    induction ms with
    | nil=>simp
    | cons m ms ih=>
     intro h;have q1:=h m (.head _);have q2:=ih fun m hm=>h m (.tail _ hm)
     simp only [a0C,a0Q,a0R];omega
   have hr:=hfl (d.AL.map (·.AQ)) fun m hm=>hb m (a1b _ hm)
   rw [a0U]at hr;have hs:=hfl (d.AO.map (·.AQ)) fun m hm=>hb m (a1c _ hm)
   rw [a0U]at hs;have e2:=want2 (f:=f) (p:=p) (ch:=d.AK) (ru:=d.AL) d.AO [] ((d.AL.map (·.AQ)).flatMap (cP p)) f (by omega) (by simp;omega) (by omega) (fun r hr=>by
    obtain⟨w,N,hw⟩:=hd r.AQ (a1c _ (a1f.2 ⟨r,hr,rfl⟩));exact⟨N.r f hf,by have:=N.len;omega⟩)
   rw [<- a0B]at e2;simp only [a1j,a0V,a0q]at e1 e2;have h3:kX (List.replicate z.toNat false) (fun _=>False) z.toNat:=⟨by simp,fun i q0 q1=>⟨fun q=>q.elim,fun _=>by
    obtain⟨b,hb⟩:=eY (xs:=List.replicate z.toNat false) q0 (by simpa using q1)
    rw [hb,List.eq_of_mem_replicate (kI hb)]⟩⟩
   have hmem:∀ i∈(dks d).flatMap (cP p),∃ m∈dks d,i∈cP p m:=fun i hi=>List.mem_flatMap.1 hi
   have hnn:∀ i∈(dks d).flatMap (cP p),0<=i:=fun i hi=>by
    obtain⟨m,hm,hi⟩:=hmem i hi;obtain⟨w,N,_⟩:=hd m hm;exact((N.is.2 i).1 hi).1
   have hlen:((dks d).flatMap (cP p)).length<=500000:=by
    rw [Go.Proofs.YtgidgoahhepmlaaGreat.dks,a0B,a0Q];omega
   obtain⟨u,e3,h4⟩:=want3 (z:=z.toNat) ((dks d).flatMap (cP p)) [] _ _ f (by omega) (by rw [a0V];omega) hnn h3
   obtain⟨l,e4,s4,m4⟩:=want4 h4 (by omega) z.toNat 0 f [] (by omega) (by omega) .nil (fun a h=>by cases h) (a1K _)
   simp only [a1j,a0V,a0q]at e3 e4;rw [a0s h0]at e3 e4;have e:iV f p n=some l:=by
    unfold iV;rw [G.node,bsm,a1X (by simp [o4]),show(⟨p.AF,p.AD,p.AE,p.AG⟩:AI)=p from rfl,aD9 C.sm C.chk_ (by omega),bsm,G.size,bsm,show mk false z=mk false (z.toNat:Int)from by rw [a0s h0],mk_ok (by omega),bsm,ed,bsm,e1,bsm,e2,bsm];rw [show(d.AL.map (·.AQ)++d.AO.map (·.AQ))=Go.Proofs.YtgidgoahhepmlaaGreat.dks d from rfl,e3,bsm,e4,bsm]
   refine⟨l,e,s4,fun i=>?_⟩
   rw [m4];simp only [List.not_mem_nil,false_or,a0s h0,a0q,List.mem_flatMap]
  obtain⟨l,_,i0⟩:=main F (by decide)
  exact⟨l,fun f hf=>by
   obtain⟨l',e',i'⟩:=main f hf;rw [i0.uniq i'];exact e',i0⟩
 obtain⟨l,e,i0⟩:=fin
 have hw:bG p n=l:=by simp [bG,e F (by decide)]
 rw [hw]
 exact⟨e,i0⟩
theorem aBV (C:Cx p s rk) {n:Int} {x:AW} {z:Int} (G:gH p s.sz rk n x z) (o4:x.Op≠4):(∀ f,4000100<f->iV f p n=some (bG p n))/\bG p n=cP p n:=by
 have hn:=fX G.node
 obtain⟨_,_,_,_,N⟩:=C.need hn.1 hn.2
 have e:∀ f,4000100<f->iV f p n=some (cP p n):=fun f hf=>by
  unfold iV;rw [G.node,bsm,a1Y o4,show(⟨p.AF,p.AD,p.AE,p.AG⟩:AI)=p from rfl,N.r f hf,bsm]
 have hw:bG p n=cP p n:=by simp [bG,e F (by decide)]
 exact⟨by rw [hw];exact e,hw⟩
theorem ask1 {sz:List Int} {n z:Int} (hz:idx sz n=some z) (AC:List Int):∀ (AB acc:List Int) (k:Nat),AC.length<k->AB.length+AC.length<=900000000->acc.length+AC.length<=900000000 ->
 oI sz n (AB++AC) k AB.length acc=some (acc++AC.filter (fun y=>decide (y<z))):=by
 induction AC with
 | nil=>
  intro AB acc k hk _ _;obtain _ | k:=k
  ·omega
  rw [oI,a1X (by simp)];simp
 | cons e AC ih=>
  intro AB acc k hk hB hA;obtain _ | k:=k
  ·omega
  simp only [a0R]at hk hB hA;rw [oI,a1Y (bC _ _ _),bE,bsm,hz,bsm];by_cases h:e<z
  ·rw [a1Y h,dI (by simp;omega),bsm,bsm,aR (by omega),bsm,bL,bB,ih (AB++[e]) (acc++[e]) k (by omega) (by simp;omega) (by simp;omega)];simp [h]
  ·rw [a1X h,bsm,aR (by omega),bsm,bL,bB,ih (AB++[e]) acc k (by omega) (by simp;omega) (by omega)];simp [h]
def iR (p:AI) (z:Int) (m:Int):List Int:=(cP p m).filter (fun y=>decide (y<z))
theorem ask_p {sz:List Int} {n z m:Int} (hz:idx sz n=some z) (hm:0<=m/\m<(p.AD.length:Int)) (hl:(cP p m).length<=6012) {acc:List Int} (ha:acc.length<=800000000):uW F m (gY p) sz n acc=some (acc++iR p z m):=by
 unfold uW
 rw [aBB hm.1 hm.2,bsm]
 have:=ask1 hz (cP p m) [] acc F (by unfold F;omega) (by simp;omega) (by omega)
 simpa [iR] using this
theorem ask2 {sz:List Int} {n z:Int} {e1 e2:Int} (hz:idx sz n=some z) {ch:List Al} {sp:List Aj} (AC:List Af):∀ (AB:List Af) (acc:List Int) (k:Nat),AC.length<k->AB.length+AC.length<=3000000->acc.length+6012*AC.length<=800000000 ->
 (∀ r∈AC,(0<=r.AQ/\r.AQ<(p.AD.length:Int))/\(cP p r.AQ).length<=6012)->oV F (gY p,e1) (sz,e2) n ⟨ch,sp,AB++AC⟩ k AB.length acc=some (acc++(AC.map (·.AQ)).flatMap (iR p z)):=by
 induction AC with
 | nil=>
  intro AB acc k hk _ _ _;obtain _ | k:=k
  ·omega
  rw [oV,a1X (by simp)];simp
 | cons e AC ih=>
  intro AB acc k hk hB hA hr;obtain _ | k:=k
  ·omega
  simp only [a0R]at hk hB hA;obtain⟨h1,h2⟩:=hr e (.head _);have hb:(iR p z e.AQ).length<=6012:=a1C (a0T _ _) h2;rw [oV,a1Y (bC _ _ _),bE,bsm];simp only
  rw [ask_p hz h1 h2 (by omega),bsm,aR (by omega),bsm,bL,bB,ih (AB++[e]) (acc++iR p z e.AQ) k (by omega) (by simp;omega) (by simp;omega) (fun r hr'=>hr r (.tail _ hr'))];simp
theorem ask3 {sz:List Int} {n z:Int} {e1 e2:Int} (hz:idx sz n=some z) {ch:List Al} {ru:List Af} (AC:List Aj):∀ (AB:List Aj) (acc:List Int) (k:Nat),AC.length<k->AB.length+AC.length<=3000000->acc.length+6012*AC.length<=800000000 ->
 (∀ r∈AC,(0<=r.AQ/\r.AQ<(p.AD.length:Int))/\(cP p r.AQ).length<=6012)->nV F (gY p,e1) (sz,e2) n ⟨ch,AB++AC,ru⟩ k AB.length acc=some (acc++(AC.map (·.AQ)).flatMap (iR p z)):=by
 induction AC with
 | nil=>
  intro AB acc k hk _ _ _;obtain _ | k:=k
  ·omega
  rw [nV,a1X (by simp)];simp
 | cons e AC ih=>
  intro AB acc k hk hB hA hr;obtain _ | k:=k
  ·omega
  simp only [a0R]at hk hB hA;obtain⟨h1,h2⟩:=hr e (.head _);have hb:(iR p z e.AQ).length<=6012:=a1C (a0T _ _) h2;rw [nV,a1Y (bC _ _ _),bE,bsm];simp only
  rw [ask_p hz h1 h2 (by omega),bsm,aR (by omega),bsm,bL,bB,ih (AB++[e]) (acc++iR p z e.AQ) k (by omega) (by simp;omega) (by simp;omega) (fun r hr'=>hr r (.tail _ hr'))];simp
def Asks (p:AI) (g:aL Int (List Int)) (k:Nat):Prop:=∀ i:Int,0<=i->i<(k:Int)->g.get i=some (bG p i)
theorem aCb (C:Cx p s rk):∀ (d i k:Nat) (g:aL Int (List Int)),i+d=p.AD.length->d<k->Asks p g i->∃ g',pH F p (gY p,0) (s.sz,0) k i g=some g'/\Asks p g' p.AD.length
 | 0,i,k,g,h,hk,ha=>by
  obtain _ | k:=k
  ·omega
  rw [pH,a1X (by omega)];exact⟨g,rfl,by rw [<- h];exact ha⟩
 | d+1,i,k,g,h,hk,ha=>by
  obtain _ | k:=k
  ·omega
  have h60:=C.fm.n60;obtain⟨x,z,G,hz,N⟩:=C.need (n:=(i:Int)) (by omega) (by omega)
  rw [pH,a1Y (by omega),G.node,bsm];have next:Asks p (aL.upd g (i:Int) (bG p i)) (i+1):=fun j h0 h1=>by
   have e:(aL.upd g (i:Int) (bG p i)).get j=if j=(i:Int)then some (bG p i) else g.get j:=rfl
   rw [e];by_cases ej:j=(i:Int)
   ·rw [a1Y ej,ej]
   ·rw [a1X ej];exact ha j h0 (by omega)
  by_cases o4:x.Op=4
  ·obtain⟨d',ed,okd,e0,iw⟩:=aB0 C G hz o4;obtain⟨d2,ed2,_,hd⟩:=C.dks G o4;rw [ed]at ed2;cases ed2
   have hl:=gI okd;have hin:∀ m∈dks d',(0<=m/\m<(p.AD.length:Int))/\(cP p m).length<=6012:=fun m hm=>by
    obtain⟨w,N,hw⟩:=hd m hm;refine⟨?_,by have:=N.len;omega⟩
    obtain⟨w2,hw2⟩:=wA (p:=p) (x:=x) (z:=z) (m:=m) (by unfold kd;rw [a1Y o4,ed];exact a1b _ hm)
    obtain⟨q1,_⟩:=G.below _ hw2;have h1:=fX q1;have:=C.fm.len;simp only at *;omega
   have e2:=ask2 (p:=p) (e1:=0) (e2:=0) G.size (ch:=d'.AK) (sp:=d'.AO) d'.AL [] [] F (by unfold F;omega) (by simp;omega) (by simp;omega) (fun r hr=>hin r.AQ (a1b _ (a1f.2 ⟨r,hr,rfl⟩)))
   have hfl:∀ ms:List Int,(∀ m∈ms,(cP p m).length<=6012)->(ms.flatMap (iR p z)).length<=6012*ms.length:=fun ms=>by
    induction ms with
    | nil=>simp
    | cons m ms ih=>
     intro h;have q1:(iR p z m).length<=6012:=a1C (a0T _ _) (h m (.head _));have q2:=ih fun m hm=>h m (.tail _ hm)
     simp only [a0C,a0Q,a0R];omega
   have hr:=hfl (d'.AL.map (·.AQ)) fun m hm=>(hin m (a1b _ hm)).2
   rw [a0U]at hr;have e3:=ask3 (p:=p) (e1:=0) (e2:=0) G.size (ch:=d'.AK) (ru:=d'.AL) d'.AO [] ((d'.AL.map (·.AQ)).flatMap (iR p z)) F (by unfold F;omega) (by simp;omega) (by omega) (fun r hr=>hin r.AQ (a1c _ (a1f.2 ⟨r,hr,rfl⟩)))
   rw [<- a0B]at e3;simp only [a1j,a0V,a0q]at e2 e3;have hc:=aIT ((dks d').flatMap (iR p z));have hw:Go.Lib.compact (fB ((dks d').flatMap (iR p z)))=bG p i:=rX.uniq (p:=p) (d:=d') (z:=z) ⟨hc.1,fun j=>by
    rw [hc.2,List.mem_flatMap];constructor
    ·rintro⟨m,hm,hj⟩
     obtain⟨w,N,_⟩:=hd m hm;have hj':=List.mem_filter.1 hj;exact⟨((N.is.2 j).1 hj'.1).1,by simpa using hj'.2,m,hm,hj'.1⟩
    ·rintro⟨_,h1,m,hm,hj⟩
     exact⟨m,hm,List.mem_filter.2 ⟨hj,by simpa using h1⟩⟩⟩ iw
   rw [a1X (by simp [o4]),ed,bsm,e2,bsm,bsm];rw [e3,bsm];rw [show(d'.AL.map (·.AQ)++d'.AO.map (·.AQ))=Go.Proofs.YtgidgoahhepmlaaGreat.dks d' from rfl,aB2,bsm,aCw,bsm,bsm,hw,aR (by omega),bsm];exact aCb C d (i+1) k _ (by omega) (by omega) next
  ·obtain⟨_,e⟩:=aBV C G o4;rw [a1Y o4,aBB (by omega) (by omega),bsm,bsm,aR (by omega),bsm];rw [e]at next;exact aCb C d (i+1) k _ (by omega) (by omega) next
theorem asked_p (C:Cx p s rk):∃ g,tT F p=some (g,0)/\Asks p g p.AD.length/\g.get (-1)=some (cP p p.AG):=by
 have h60:=C.fm.n60
 obtain⟨g,e,ha⟩:=aCb C p.AD.length 0 F aL.none (by omega) (by unfold F;omega) (fun i h0 h1=>by omega)
 have hm:=fX C.fm.main
 have:=C.fm.len
 rw [a0q]at e
 refine⟨aL.upd g (-1) (cP p p.AG),?_,fun i h0 h1=>?_,rfl⟩
 ·unfold tT;rw [show(⟨p.AF,p.AD,p.AE,p.AG⟩:AI)=p from rfl,needs_S C,bsm];simp only [ne_eq,not_true_eq_false,if_false];rw [aE7 C.sm C.chk_ C.fm.len h60,bsm,e,bsm,aBB hm.1 (by omega),bsm]
 ·show(if i=-1 then some (cP p p.AG) else g.get i)=_
  rw [a1X (by omega)];exact ha i h0 h1
open Go.SX Go.SW Go.Dt
def fndA (x:Int):List Int->Int->Int
 | [],_=>-1
 | y :: l,k=>if x=y then k else fndA x l (k+1)
def fnd (l:List Int) (x:Int):Int:=fndA x l 0
theorem aHN {x:Int} (AC:List Int):∀ (AB:List Int) (k:Nat),AC.length<k->AB.length+AC.length<=900000000 ->
 ∃ r,jQ (AB++AC) x k AB.length=some r/\((r= .inl ()/\fndA x AC AB.length=-1)\/r= .inr (fndA x AC AB.length)):=by
 induction AC with
 | nil=>
  intro AB k hk _;obtain _ | k:=k
  ·omega
  rw [jQ,a1X (by simp)];exact⟨_,rfl, .inl ⟨rfl,rfl⟩⟩
 | cons e AC ih=>
  intro AB k hk hB;obtain _ | k:=k
  ·omega
  simp only [a0R]at hk hB;rw [jQ,a1Y (bC _ _ _),bE,bsm];by_cases h:x=e
  ·rw [a1Y h,bsm];exact⟨_,rfl, .inr (by rw [fndA,a1Y h])⟩
  ·rw [a1X h,aR (by omega),bsm,fndA,a1X h,bL,bB];exact ih (AB++[e]) k (by omega) (by simp;omega)
theorem sN {AA:Nat} {l:List Int} {x:Int} (hf:l.length<AA) (hB:l.length<=900000000):kO AA l x=some (fnd l x):=by
 obtain⟨r,e,h⟩:=aHN (x:=x) l [] AA hf (by simp;omega)
 simp only [a1j,a0V,a0q]at e h
 rw [kO,e,bsm]
 rcases h with⟨rfl,h⟩ | rfl
 ·dsimp only;rw [fnd,h]
 ·rfl
theorem aDv {x:Int}:∀ (k:Nat) (l:List Int) (i:Int),qS l x k i=jQ l x k i
 | 0,_,_=>rfl
 | k+1,l,i=>by
  rw [qS,jQ];simp only [aDv k,eq_comm]
theorem zH {AA:Nat} {l:List Int} {x:Int} (hf:l.length<AA) (hB:l.length<=900000000):qK AA l x=some (fnd l x):=by
 rw [<- sN hf hB,qK,kO,aDv]
 cases jQ l x AA 0 with
 | none=>rfl
 | some o=>cases o <;> rfl
theorem aHz {AA:Nat} {list:List Int} (hf:list.length<AA) (hB:list.length<=900000000) (AC:List Int):∀ (AB acc:List Int) (k:Nat),AC.length<k->AB.length+AC.length<=900000000->acc.length+AC.length<=900000000 ->
 kK AA list (AB++AC) k acc AB.length=some (acc++AC.map (fnd list)):=by
 induction AC with
 | nil=>
  intro AB acc k hk _ _;obtain _ | k:=k
  ·omega
  rw [kK,a1X (by simp)];simp
 | cons e AC ih=>
  intro AB acc k hk hB1 hA;obtain _ | k:=k
  ·omega
  simp only [a0R]at hk hB1 hA;rw [kK,a1Y (bC _ _ _),bE,bsm,sN hf hB,bsm,dI (by simp;omega),bsm,aR (by omega),bsm,bL,bB,ih (AB++[e]) (acc++[fnd list e]) k (by omega) (by simp;omega) (by simp;omega)];simp
theorem inds_p {AA:Nat} {list l:List Int} (hf:list.length<AA) (hB:list.length<=900000000) (hf2:l.length<AA) (hB2:l.length<=900000000):tA AA list l=some (l.map (fnd list)):=by
 have:=aHz hf hB l [] [] AA hf2 (by simp;omega) (by simp;omega)
 simp only [a1j,a0V,a0q]at this
 rw [tA,this,bsm]
theorem aEM {AA:Nat} {list:List Int} (hf:list.length<AA) (hB:list.length<=900000000):∀ (k:Nat) (l acc:List Int) (i:Int),qW AA list l k acc i=kK AA list l k acc i
 | 0,_,_,_=>rfl
 | k+1,l,acc,i=>by
  rw [qW,kK];simp only [aEM hf hB k,zH hf hB,sN hf hB]
theorem aFa {AA:Nat} {list l:List Int} (hf:list.length<AA) (hB:list.length<=900000000) (hf2:l.length<AA) (hB2:l.length<=900000000):uN AA list l=some (l.map (fnd list)):=by
 rw [<- inds_p hf hB hf2 hB2,uN,tA,aEM hf hB]
mutual
def flE (l:List Int):AR->AR
 | ⟨op,n,ks⟩=>⟨op,if op=2 then fnd l n else n,flL l ks⟩
def flL (l:List Int):List AR->List AR
 | []=>[]
 | k :: ks=>flE l k :: flL l ks
end
theorem aIj {rec:AR->List Int->Option AR} {op n:Int} {l:List Int} (AC:List AR):∀ (AB acc:List AR) (k:Nat),AC.length<k->AB.length+AC.length<=3000000->acc.length+AC.length<=900000000 ->
 (∀ e∈AC,rec e l=some (flE l e))->kU rec ⟨op,n,AB++AC⟩ l k AB.length acc=some (acc++flL l AC):=by
 induction AC with
 | nil=>
  intro AB acc k hk _ _ _;obtain _ | k:=k
  ·omega
  rw [kU,a1X (by simp)];simp [flL]
 | cons e AC ih=>
  intro AB acc k hk hB hA hr;obtain _ | k:=k
  ·omega
  simp only [a0R]at hk hB hA;rw [kU,a1Y (bC _ _ _),bE,bsm,pK,hr e (.head _),bsm,dI (by simp;omega),bsm,aR (by omega),bsm,bL,bB,ih (AB++[e]) (acc++[flE l e]) k (by omega) (by simp;omega) (by simp;omega) (fun x hx=>hr x (.tail _ hx))];simp [flL]
theorem aBz {l:List Int} (hl:l.length<=1000000) (AA:Nat):∀ (e:AR),1000001+nE e<AA->nE e<=2000000->jX AA e l=some (flE l e):=by
 induction AA with
 | zero=>intro e h;omega
 | succ AA ih=>
  intro ⟨op,n,ks⟩ hf hB
  simp only [nE]at hf hB;have hlen:=rB ks;have hloop:=aIj (rec:=jX AA) (op:=op) (n:=n) (l:=l) ks [] [] AA (by omega) (by simp;omega) (by simp;omega) (fun e he=>ih e (by have:=fY he;omega) (by have:=fY he;omega))
  simp only [a1j,a0V,a0q]at hloop;rw [jX];dsimp only
  by_cases o2:op=2
  ·rw [a1Y o2,sN (by omega) (by omega),bsm,bsm,hloop,bsm,flE,a1Y o2]
  ·rw [a1X o2,bsm,hloop,bsm,flE,a1X o2]
theorem aEp {rec rec':AR->List Int->Option AR} {op n:Int} {l:List Int} {ks:List AR} (hr:∀ e∈ks,rec e l=rec' e l):∀ (k:Nat) (acc:List AR) (i:Int),qP rec ⟨op,n,ks⟩ l k acc i=kU rec' ⟨op,n,ks⟩ l k i acc
 | 0,_,_=>rfl
 | k+1,acc,i=>by
  rw [qP,kU];dsimp only
  split
  ·cases h:idx ks i with
   | none=>rfl
   | some y=>simp only [bsm,pK,hr y (kI h),aEp hr k]
  ·rfl
theorem clexp_r {l:List Int} (hl:l.length<=1000000) (AA:Nat):∀ (e:AR),1000001+nE e<AA->nE e<=2000000->lN AA e l=some (flE l e):=by
 induction AA with
 | zero=>intro e h;omega
 | succ AA ih=>
  intro ⟨op,n,ks⟩ hf hB
  rw [<- aBz hl (AA+1) ⟨op,n,ks⟩ hf hB];simp only [nE]at hf hB;rw [lN,jX];dsimp only
  rw [zH (by omega) (by omega),sN (by omega) (by omega)];simp only [aEp (rec:=lN AA) (rec':=jX AA) (op:=op) (n:=n) (l:=l) (ks:=ks) (fun e he=>by
   rw [ih e (by have:=fY he;omega) (by have:=fY he;omega),aBz hl AA e (by have:=fY he;omega) (by have:=fY he;omega)])]
theorem args_p {AA:Nat} {l:List Int} (hl:l.length<=1000000) (hf:2000000<AA) {op n:Int} {ks:List Int} (AC:List AR):∀ (AB acc:List AR) (k:Nat),AC.length<k->AB.length+AC.length<=3000000->acc.length+AC.length<=900000000->(∀ e∈AC,nE e<=60) ->
 nR AA l ⟨op,n,AB++AC,ks⟩ k AB.length acc=some (acc++flL l AC):=by
 induction AC with
 | nil=>
  intro AB acc k hk _ _ _;obtain _ | k:=k
  ·omega
  rw [nR,a1X (by simp)];simp [flL]
 | cons e AC ih=>
  intro AB acc k hk hB hA hr;obtain _ | k:=k
  ·omega
  simp only [a0R]at hk hB hA;have:=hr e (.head _);rw [nR,a1Y (bC _ _ _),bE,bsm,pK,aBz hl AA e (by omega) (by omega),bsm,dI (by simp;omega),bsm,aR (by omega),bsm,bL,bB,ih (AB++[e]) (acc++[flE l e]) k (by omega) (by simp;omega) (by simp;omega) (fun x hx=>hr x (.tail _ hx))];simp [flL]
theorem args_r {AA:Nat} {l:List Int} (hl:l.length<=1000000) (hf:2000000<AA) {op n:Int} {ks:List Int} (AC:List AR):∀ (AB acc:List AR) (k:Nat),AC.length<k->AB.length+AC.length<=3000000->acc.length+AC.length<=900000000->(∀ e∈AC,nE e<=60) ->
 pR AA l ⟨op,n,AB++AC,ks⟩ k AB.length acc=some (acc++flL l AC):=by
 induction AC with
 | nil=>
  intro AB acc k hk _ _ _;obtain _ | k:=k
  ·omega
  rw [pR,a1X (by simp)];simp [flL]
 | cons e AC ih=>
  intro AB acc k hk hB hA hr;obtain _ | k:=k
  ·omega
  simp only [a0R]at hk hB hA;have:=hr e (.head _);rw [pR,a1Y (bC _ _ _),bE,bsm,clexp_r hl AA e (by omega) (by omega),bsm,dI (by simp;omega),bsm,aR (by omega),bsm,bL,bB,ih (AB++[e]) (acc++[flE l e]) k (by omega) (by simp;omega) (by simp;omega) (fun x hx=>hr x (.tail _ hx))];simp [flL]
theorem aDU {ch:List Al}:∀ {js:List Int},(∀ c∈js,∃ y,idx ch c=some y/\0<=y.Ak/\y.Ak<=3)->lB ch js=some (brs ch js)
 | [],_=>rfl
 | c :: js,h=>by
  obtain⟨y,hy,hm⟩:=h c (.head _);rw [lB,hy,bsm,a1Y hm,aDU fun c hc=>h c (.tail _ hc),bsm,brs,hy]
theorem aBg {AA:Nat} {d:AM} {r:Af} (hf:3000<AA) (okd:okD d=true) (hr:r∈d.AL):rT AA d r=some (brs d.AK r.AU)/\tG AA d r=some (brs d.AK r.AU)/\0<=brs d.AK r.AU/\brs d.AK r.AU<=9:=by
 have h:=(gI okd).2.2.2.2 r hr
 have hb:=yW h.2
 have hm:=aDU h.2
 refine⟨?_,?_,hb.1,by omega⟩
 ·rw [more_p (by omega) (by omega),hm]
 ·rw [bring_r (by omega) (by omega),a1Y h.1,hm]
def yN (x:AW) (list w:List Int):Int:=if x.Op=6\/x.Op=8 then fnd w x.N else if x.Op=2 then fnd list x.N else x.N
def yT (x:AW) (list w:List Int):List Int:=if kN x.Op=true then w.map (fnd list) else []
def yOf (x:AW) (list w:List Int):Ae:=⟨x.Op,yN x list w,flL list x.AS,x.AN,yT x list w⟩
abbrev C3:=Int × List Int × Int
def fR (d:AM) (z:Int) (ins:List Int):List C3:=d.AL.map fun r=>(r.AQ,ins++upto (z+own d) (brs d.AK r.AU).toNat,z+own d+brs d.AK r.AU)
def fS (d:AM) (z:Int) (ins:List Int):List C3:=d.AO.map fun y=>(y.AQ,ins,z+own d)
def eU (w:List Int) (z:Int) (d:AM):List Int:=w++upto z (own d).toNat
def fD (p:AI) (x:AW) (z:Int) (w:List Int):List C3:=
 if x.Op=4 then match idx p.AE x.N with
  | some d=>fR d z (eU w z d)++fS d z (eU w z d)
  | none=>[]
 else []
def fK (p:AI) (x:AW) (list:List Int) (z:Int) (w:List Int):List C3:=
 if x.Op=4 then match idx p.AE x.N with
  | some d=>x.AN.map fun k=>(k,list++upto z (own d).toNat,z+own d)
  | none=>[]
 else x.AN.map fun k=>(k,if x.Op=6\/x.Op=8 then w else list,z)
def dT (g:Int->List Int->Int->List Ae->List Ae):List C3->List Ae->List Ae
 | [],nd=>nd
 | c :: l,nd=>dT g l (g c.1 c.2.1 c.2.2 nd)
theorem aCk {g:Int->List Int->Int->List Ae->List Ae}:∀ (l m:List C3) (nd:List Ae),dT g (l++m) nd=dT g m (dT g l nd)
 | [],_,_=>rfl
 | c :: l,m,nd=>aCk l m _
def put (p:AI):Nat->Int->List Int->Int->List Ae->List Ae
 | 0,_,_,_,nd=>nd
 | h+1,n,list,z,nd=>match idx p.AD n with
  | none=>nd
  | some x=>dT (put p h) (fK p x list z (bG p n)) (dT (put p h) (fD p x z (bG p n)) (nd.set n.toNat (yOf x list (bG p n))))
theorem aC0 {g:Int->List Int->Int->List Ae->List Ae} (hg:∀ n l z nd,(g n l z nd).length=nd.length):∀ (l:List C3) (nd:List Ae),(dT g l nd).length=nd.length
 | [],_=>rfl
 | c :: l,nd=>(aC0 hg l _).trans (hg _ _ _ _)
theorem yO {p:AI}:∀ (h:Nat) (n:Int) (l:List Int) (z:Int) (nd:List Ae),(put p h n l z nd).length=nd.length
 | 0,_,_,_,_=>rfl
 | h+1,n,l,z,nd=>by
  rw [put];split
  ·rfl
  ·rw [aC0 (yO h),aC0 (yO h),a0W]
theorem rQ {p:AI} {x:AW} {z:Int} {w:List Int} {c:C3} (h:c∈fD p x z w):(c.1,c.2.2)∈gJ p x z:=by
 unfold fD at h;unfold gJ
 split at h
 ·rename_i o4;rw [a1Y o4];cases e:idx p.AE x.N with
  | none=>rw [e]at h;cases h
  | some d=>
   rw [e]at h;simp only [fR,fS,a1a,a1f]at h;simp only [chD,a1a,a1f];rcases h with⟨r,hr,rfl⟩ | ⟨y,hy,rfl⟩
   ·exact .inl (.inl ⟨r,hr,rfl⟩)
   ·exact .inl (.inr ⟨y,hy,rfl⟩)
 ·cases h
theorem uX {p:AI} {x:AW} {list:List Int} {z:Int} {w:List Int} {c:C3} (h:c∈fK p x list z w):(c.1,c.2.2)∈gJ p x z:=by
 unfold fK at h;unfold gJ
 split at h
 ·rename_i o4;rw [a1Y o4];cases e:idx p.AE x.N with
  | none=>rw [e]at h;cases h
  | some d=>
   rw [e]at h;obtain⟨k,hk,rfl⟩:=a1f.1 h;simp only [a1a,a1f];exact .inr ⟨k,hk,rfl⟩
 ·rename_i o4;rw [a1X o4];obtain⟨k,hk,rfl⟩:=a1f.1 h;exact a1f.2 ⟨k,hk,rfl⟩
theorem zU {g:Int->List Int->Int->List Ae->List Ae} {n:Nat} {y:Ae}:∀ (l:List C3) (nd:List Ae),(∀ c∈l,∀ nd,g c.1 c.2.1 c.2.2 (nd.set n y)=(g c.1 c.2.1 c.2.2 nd).set n y)->dT g l (nd.set n y)=(dT g l nd).set n y
 | [],_,_=>rfl
 | c :: l,nd,h=>by
  rw [dT,dT,h c (.head _),zU l _ fun c hc=>h c (.tail _ hc)]
theorem Fm.child {p:AI} {sz:List Int} {rk:Int->Nat} (hm:Fm p sz rk) {n:Int} {x:AW} {z:Int} (G:gH p sz rk n x z) {c:Int × Int} (h:c∈gJ p x z):rk c.1<rk n/\∃ y,gH p sz rk c.1 y c.2:=by
 obtain⟨q1,q2,_⟩:=G.below c h
 have h1:=fX q1
 have:=hm.len
 obtain⟨_,y,w,G',_⟩:=hm.good c.1 h1.1 (by omega)
 have e:=G'.size
 rw [q1]at e;cases e
 exact⟨q2,y,G'⟩
theorem aCp {p:AI} {sz:List Int} {rk:Int->Nat} (hm:Fm p sz rk) {n:Int} (h0:0<=n) {y:Ae}:∀ (h:Nat) (m:Int) (x:AW) (w:Int) (l:List Int) (nd:List Ae),gH p sz rk m x w->rk m<rk n->put p h m l w (nd.set n.toNat y)=(put p h m l w nd).set n.toNat y
 | 0,_,_,_,_,_,_,_=>rfl
 | h+1,m,x,w,l,nd,G,hr=>by
  have hmn:m≠n:=fun e=>by subst e;omega
  have hm0:=fX G.node;have ne:m.toNat≠n.toNat:=by omega
  rw [put,put,G.node];dsimp only
  rw [List.set_comm _ _ ne.symm,zU,zU]
  ·intro c hc nd;obtain⟨r1,x',G'⟩:=hm.child G (uX hc);exact aCp hm h0 h c.1 x' c.2.2 c.2.1 nd G' (by simp only at *;omega)
  ·intro c hc nd;obtain⟨r1,x',G'⟩:=hm.child G (rQ hc);exact aCp hm h0 h c.1 x' c.2.2 c.2.1 nd G' (by simp only at *;omega)
open Go.SX Go.SW Go.Dt
abbrev RecF:=Int->List Int->AI->aL Int (List Int)->Ad->List Int->Option Ad
section
variable {p:AI} {rec:RecF} {G:aL Int (List Int)} {sz:List Int} {g:Int->List Int->Int->List Ae->List Ae} {Fr:List ByteArray} {Tk:List Int} {Df:List AM} {Mn:Int} {N:Nat}
def RunF (p:AI) (rec:RecF) (G:aL Int (List Int)) (sz:List Int) (g:Int->List Int->Int->List Ae->List Ae) (Fr:List ByteArray) (Tk:List Int) (Df:List AM) (Mn:Int) (N:Nat) (c:C3):Prop:=
 ∀ nd:List Ae,nd.length=N->rec c.1 c.2.1 p G ⟨Fr,Tk,nd,Df,Mn⟩ sz=some ⟨Fr,Tk,g c.1 c.2.1 c.2.2 nd,Df,Mn⟩/\(g c.1 c.2.1 c.2.2 nd).length=N
theorem fl2 {d:AM} {n z:Int} (hz:idx sz n=some z) (h0:0<=z/\z<=6012) (okd:okD d=true) {ol ins:List Int} (hol:(ol.length:Int)=own d) (hins:ins.length<=100000) {AA:Nat} (hf:10000<AA) (AC:List Af):
 ∀ (AB:List Af) (k:Nat) (nd:List Ae),d.AL=AB++AC->AC.length<k->AB.length+AC.length<=3000000->nd.length=N ->
 (∀ r∈AC,RunF p rec G sz g Fr Tk Df Mn N (r.AQ,ins++upto (z+own d) (brs d.AK r.AU).toNat,z+own d+brs d.AK r.AU)) ->
 nX AA rec n p G sz d ol ins k AB.length Fr Tk nd Df Mn=some (Fr,Tk,dT g (AC.map fun r=>(r.AQ,ins++upto (z+own d) (brs d.AK r.AU).toNat,z+own d+brs d.AK r.AU)) nd,Df,Mn)/\(dT g (AC.map fun r=>(r.AQ,ins++upto (z+own d) (brs d.AK r.AU).toNat,z+own d+brs d.AK r.AU)) nd).length=N:=by
 have hl:=gI okd
 have ho:0<=own d/\own d<=60:=⟨tP d,by unfold own;omega⟩
 induction AC with
 | nil=>
  intro AB k nd he hk _ hN _;obtain _ | k:=k
  ·omega
  rw [nX,he,a1X (by simp)];exact⟨rfl,hN⟩
 | cons e AC ih=>
  intro AB k nd he hk hB hN hr;obtain _ | k:=k
  ·omega
  simp only [a0R]at hk hB;have hmem:e∈d.AL:=by rw [he];simp
  obtain⟨m1,_,m2,m3⟩:=aBg (AA:=AA) (by omega) okd hmem
  obtain⟨r1,r2⟩:=hr e (.head _) nd hN;obtain⟨i1,i2⟩:=ih (AB++[e]) k (g e.AQ (ins++upto (z+own d) (brs d.AK e.AU).toNat) (z+own d+brs d.AK e.AU) nd) (by rw [he];simp) (by omega) (by simp;omega) r2 (fun r h=>hr r (.tail _ h))
  refine⟨?_,i2⟩;rw [nX,a1Y (by rw [he];exact bC _ _ _),show idx d.AL (AB.length:Int)=some e from by rw [he];exact bE _ _ _,bsm,hz,bsm,hol,aR (by omega),bsm,
   show(⟨d.AK,d.AO,d.AL⟩:AM)=d from rfl,show(⟨e.At,e.AU,e.AQ⟩:Af)=e from rfl,m1,bsm,from_p (by omega) m2 (by omega) (by omega),bsm,aBO (by rw [iL];omega),bsm,r1,bsm,aR (by omega),bsm,bB AB e,i1]
  rfl
theorem fl3 {d:AM} {ins:List Int} {w:Int} (AC:List Aj):
 ∀ (AB:List Aj) (k:Nat) (nd:List Ae),d.AO=AB++AC->AC.length<k->AB.length+AC.length<=3000000->nd.length=N->(∀ r∈AC,RunF p rec G sz g Fr Tk Df Mn N (r.AQ,ins,w)) ->
 pN rec p G sz d ins k AB.length Fr Tk nd Df Mn=some (Fr,Tk,dT g (AC.map fun r=>(r.AQ,ins,w)) nd,Df,Mn)/\(dT g (AC.map fun r=>(r.AQ,ins,w)) nd).length=N:=by
 induction AC with
 | nil=>
  intro AB k nd he hk _ hN _;obtain _ | k:=k
  ·omega
  rw [pN,he,a1X (by simp)];exact⟨rfl,hN⟩
 | cons e AC ih=>
  intro AB k nd he hk hB hN hr;obtain _ | k:=k
  ·omega
  simp only [a0R]at hk hB;obtain⟨r1,r2⟩:=hr e (.head _) nd hN;obtain⟨i1,i2⟩:=ih (AB++[e]) k (g e.AQ ins w nd) (by rw [he];simp) (by omega) (by simp;omega) r2 (fun r h=>hr r (.tail _ h))
  refine⟨?_,i2⟩;rw [pN,a1Y (by rw [he];exact bC _ _ _),show idx d.AO (AB.length:Int)=some e from by rw [he];exact bE _ _ _,bsm,r1,bsm,aR (by omega),bsm,bB AB e,i1];rfl
theorem fl4 {x:AW} {ins:List Int} {w:Int} (AC:List Int):
 ∀ (AB:List Int) (k:Nat) (nd:List Ae),x.AN=AB++AC->AC.length<k->AB.length+AC.length<=3000000->nd.length=N->(∀ r∈AC,RunF p rec G sz g Fr Tk Df Mn N (r,ins,w)) ->
 nH rec p G sz x ins k AB.length Fr Tk nd Df Mn=some ⟨Fr,Tk,dT g (AC.map fun r=>(r,ins,w)) nd,Df,Mn⟩/\(dT g (AC.map fun r=>(r,ins,w)) nd).length=N:=by
 induction AC with
 | nil=>
  intro AB k nd he hk _ hN _;obtain _ | k:=k
  ·omega
  rw [nH,he,a1X (by simp)];exact⟨rfl,hN⟩
 | cons e AC ih=>
  intro AB k nd he hk hB hN hr;obtain _ | k:=k
  ·omega
  simp only [a0R]at hk hB;obtain⟨r1,r2⟩:=hr e (.head _) nd hN;obtain⟨i1,i2⟩:=ih (AB++[e]) k (g e ins w nd) (by rw [he];simp) (by omega) (by simp;omega) r2 (fun r h=>hr r (.tail _ h))
  refine⟨?_,i2⟩;rw [nH,a1Y (by rw [he];exact bC _ _ _),show idx x.AN (AB.length:Int)=some e from by rw [he];exact bE _ _ _,bsm,r1,bsm,aR (by omega),bsm,bB AB e,i1];rfl
end
structure Nd (p:AI) (s:VS) (rk:Int->Nat) (n:Int) (x:AW) (z:Int):Prop where
 g:gH p s.sz rk n x z
 z6:z<=6012
theorem Cx.child {p:AI} {s:VS} {rk:Int->Nat} (C:Cx p s rk) {n:Int} {x:AW} {z:Int} (G:gH p s.sz rk n x z) {c:Int × Int} (h:c∈gJ p x z):rk c.1<rk n/\∃ y,Nd p s rk c.1 y c.2:=by
 obtain⟨q1,q2,_⟩:=G.below c h
 have h1:=fX q1
 have:=C.fm.len
 obtain⟨_,y,w,G',hw⟩:=C.fm.good c.1 h1.1 (by omega)
 have e:=G'.size
 rw [q1]at e;cases e
 exact⟨q2,y,G',hw⟩
theorem Cx.want_len {p:AI} {s:VS} {rk:Int->Nat} (C:Cx p s rk) {n:Int} {x:AW} {z:Int} (K:Nd p s rk n x z):((bG p n).length:Int)<=z:=by
 have h0:=K.g.pos
 by_cases o4:x.Op=4
 ·obtain⟨d,_,_,_,iw⟩:=aB0 C K.g K.z6 o4;have:=tV iw.1 (a:=0) (b:=z) fun i hi=>⟨((iw.2 i).1 hi).1,((iw.2 i).1 hi).2.1⟩
  omega
 ·rw [(aBV C K.g o4).2];have hn:=fX K.g.node;obtain⟨_,w,G',_,N⟩:=C.need hn.1 hn.2;have e:=G'.size;rw [K.g.size]at e;cases e
  exact N.len
theorem aCu {l:List Int} (h:l.length<=900000000):iW l=some l:=by
 rw [iW,a1j,dI (by omega),bsm]
theorem take_seg {AA:Nat} {x:AW} {l w:List Int} (hl:l.length<AA) (hw:w.length<AA) (hl2:l.length<=900000000) (hw2:w.length<=900000000):
 ((tO x.Op).bind fun y3=>bif y3 then(tA AA l w).bind fun y4=>some y4 else some [])=some (yT x l w):=by
 rw [takes_p,bsm,inds_p hl hl2 hw hw2,bsm]
 unfold yT
 cases h:kN x.Op <;> simp
theorem name_seg {AA:Nat} {x:AW} {l w:List Int} (hl:l.length<AA) (hw:w.length<AA) (hl2:l.length<=900000000) (hw2:w.length<=900000000):
 ((if x.Op=6 then some (decide (x.Op=6)) else some (decide (x.Op=8))).bind fun x4=>
 bif x4 then(iW w).bind fun y5=>(kO AA y5 x.N).bind fun y6=>some (y5,y6)
 else if x.Op=2 then(kO AA l x.N).bind fun y7=>some (l,y7) else some (l,x.N))=some (if x.Op=6\/x.Op=8 then w else l,yN x l w):=by
 have e:(if x.Op=6 then some (decide (x.Op=6)) else some (decide (x.Op=8)))=some (decide (x.Op=6\/x.Op=8)):=by
  by_cases o6:x.Op=6
  ·rw [a1Y o6,a1V o6,a1V (.inl o6)]
  ·rw [a1X o6];by_cases o8:x.Op=8
   ·rw [a1V o8,a1V (.inr o8)]
   ·rw [a1U o8,a1U (fun q=>q.elim o6 o8)]
 rw [e,bsm,aCu hw2,bsm,sN hw hw2,bsm,sN hl hl2,bsm]
 unfold yN
 by_cases o:x.Op=6\/x.Op=8
 ·rw [a1V o,a1T,a1Y o,a1Y o]
 ·rw [a1U o,a1S,a1X o,a1X o];by_cases o2:x.Op=2
  ·rw [a1Y o2,a1Y o2]
  ·rw [a1X o2,a1X o2]
theorem flat1_p {p:AI} {s:VS} {rk:Int->Nat} (C:Cx p s rk) {G:aL Int (List Int)} (hG:Asks p G p.AD.length) {Fr:List ByteArray} {Tk:List Int} {Df:List AM} {Mn:Int}:
 ∀ (h AA:Nat) (n:Int) (x:AW) (z:Int) (l:List Int),Nd p s rk n x z->rk n<h->10000000+h<=AA->(l.length:Int)<=z->RunF p (fJ AA) G s.sz (put p h) Fr Tk Df Mn p.AD.length (n,l,z):=by
 intro h
 induction h with
 | zero=>intro AA n x z l _ hr;omega
 | succ h ih=>
  intro AA n x z l K hr hf hl nd hN;obtain _ | AA:=AA
  ·omega
  refine⟨?_,by rw [yO];exact hN⟩
  have hn:=fX K.g.node;have h0:=K.g.pos;have h6:=K.z6;have hw:=C.want_len K;have ok:=K.g.ok;have hla:=ok.la;have hlk:=ok.lk;have hget:(G.get n).getD []=bG p n:=by rw [hG n hn.1 hn.2];rfl
  have hargs:=args_p (AA:=AA) (l:=l) (by omega) (by omega) (op:=x.Op) (n:=x.N) (ks:=x.AN) x.AS [] [] AA (by omega) (by simp;omega) (by simp;omega) ok.exps
  simp only [a1j,a0V,a0q]at hargs;rw [show(⟨x.Op,x.N,x.AS,x.AN⟩:AW)=x from rfl]at hargs;obtain⟨y0,hy0⟩:=eY (xs:=nd) hn.1 (by rw [hN];exact hn.2)
  have sub:∀ c:C3,(c.1,c.2.2)∈gJ p x z->(c.2.1.length:Int)<=c.2.2->RunF p (fJ AA) G s.sz (put p h) Fr Tk Df Mn p.AD.length c:=fun c hc hlen=>by
   obtain⟨q1,y,K'⟩:=C.child K.g hc;exact ih AA c.1 y c.2.2 c.2.1 K' (by simp only at *;omega) (by omega) hlen
  show fJ (AA+1) n l p G ⟨Fr,Tk,nd,Df,Mn⟩ s.sz=some ⟨Fr,Tk,put p (h+1) n l z nd,Df,Mn⟩
  rw [fJ,K.g.node,bsm,aCu (by omega),bsm,hget];rw [take_seg (by omega) (by omega) (by omega) (by omega),bsm,name_seg (by omega) (by omega) (by omega) (by omega),bsm];dsimp only
  rw [hargs,bsm,hy0,bsm];simp only [put];rw [K.g.node];dsimp only
  have hnd:(nd.set n.toNat (yOf x l (bG p n))).length=p.AD.length:=by rw [a0W];exact hN
  by_cases o4:x.Op=4
  ·obtain⟨d,ed,okd⟩:=ok.def_ o4;have hlim:=gI okd;have ho:0<=own d/\own d<=60:=⟨tP d,by unfold own;omega⟩
   have hol:(((upto z (own d).toNat).length:Nat):Int)=own d:=by rw [iL];omega
   rw [a1Y o4,ed,bsm,K.g.size,bsm,aR (by omega),bsm,show(d.AK.length:Int)+(d.AO.length:Int)=own d from rfl,from_p (by omega) ho.1 (by omega) (by omega),bsm,aBO (by rw [iL];omega),bsm];have hins:(((bG p n++upto z (own d).toNat).length:Nat):Int)=(bG p n).length+own d:=by rw [a0Q,iL];omega
   obtain⟨e2,n2⟩:=fl2 (p:=p) (rec:=fJ AA) (G:=G) (g:=put p h) (Fr:=Fr) (Tk:=Tk) (Df:=Df) (Mn:=Mn) (N:=p.AD.length) K.g.size ⟨h0,h6⟩ okd hol (ins:=bG p n++upto z (own d).toNat) (by omega) (AA:=AA) (by omega) d.AL [] AA
    (nd.set n.toNat (yOf x l (bG p n))) rfl (by omega) (by simp;omega) hnd (fun r hr=>by
     have hb:=(aBg (AA:=AA) (by omega) okd hr).2.2
     refine sub _ ?_ ?_
     ·exact rQ (w:=bG p n) (by unfold fD;rw [a1Y o4,ed];exact a1b _ (a1f.2 ⟨r,hr,rfl⟩))
     ·simp only [a0Q,iL];omega)
   obtain⟨e3,n3⟩:=fl3 (p:=p) (rec:=fJ AA) (G:=G) (sz:=s.sz) (g:=put p h) (Fr:=Fr) (Tk:=Tk) (Df:=Df) (Mn:=Mn) (N:=p.AD.length) (d:=d) (ins:=bG p n++upto z (own d).toNat) (w:=z+own d) d.AO [] AA _ rfl (by omega) (by simp;omega) n2 (fun r hr=>by
    refine sub _ ?_ ?_
    ·exact rQ (w:=bG p n) (by unfold fD;rw [a1Y o4,ed];exact a1c _ (a1f.2 ⟨r,hr,rfl⟩))
    ·simp only [a0Q,iL];omega)
   obtain⟨e4,n4⟩:=fl4 (p:=p) (rec:=fJ AA) (G:=G) (sz:=s.sz) (g:=put p h) (Fr:=Fr) (Tk:=Tk) (Df:=Df) (Mn:=Mn) (N:=p.AD.length) (x:=x) (ins:=l++upto z (own d).toNat) (w:=z+own d) x.AN [] AA _ rfl (by omega) (by simp;omega) n3 (fun r hr=>by
    refine sub _ ?_ ?_
    ·exact uX (list:=l) (w:=bG p n) (by unfold fK;rw [a1Y o4,ed];exact a1f.2 ⟨r,hr,rfl⟩)
    ·simp only [a0Q,iL];omega)
   simp only [a0V,a0q]at e2 e3 e4;rw [show(⟨x.Op,yN x l (bG p n),flL l x.AS,x.AN,yT x l (bG p n)⟩:Ae)=yOf x l (bG p n)from rfl,e2,bsm];dsimp only
   rw [e3,bsm];dsimp only
   rw [aBO (by rw [iL];omega),bsm,bsm];dsimp only
   rw [e4];simp only [fK,fD,a1Y o4,ed,aCk,eU,fR,fS]
  ·have hin:(((if x.Op=6\/x.Op=8 then bG p n else l).length:Nat):Int)<=z:=by split <;> omega
   obtain⟨e4,n4⟩:=fl4 (p:=p) (rec:=fJ AA) (G:=G) (sz:=s.sz) (g:=put p h) (Fr:=Fr) (Tk:=Tk) (Df:=Df) (Mn:=Mn) (N:=p.AD.length) (x:=x) (ins:=if x.Op=6\/x.Op=8 then bG p n else l) (w:=z) x.AN [] AA _ rfl (by omega) (by simp;omega) hnd (fun r hr=>by
    refine sub _ ?_ hin;exact uX (list:=l) (w:=bG p n) (by unfold fK;rw [a1X o4];exact a1f.2 ⟨r,hr,rfl⟩))
   simp only [a0V,a0q]at e4;rw [a1X o4,bsm];dsimp only
   rw [show(⟨x.Op,yN x l (bG p n),flL l x.AS,x.AN,yT x l (bG p n)⟩:Ae)=yOf x l (bG p n)from rfl,e4];simp only [fK,fD,a1X o4,dT]
open Go.SX Go.SW Go.Dt
abbrev RecS:=AI->Ad->Int->List Int->Int->Option Ad
section
variable {p:AI} {rec:RecS} {g:Int->List Int->Int->List Ae->List Ae} {Fr:List ByteArray} {Tk:List Int} {Df:List AM} {Mn:Int} {N:Nat}
def RunS (p:AI) (rec:RecS) (g:Int->List Int->Int->List Ae->List Ae) (Fr:List ByteArray) (Tk:List Int) (Df:List AM) (Mn:Int) (N:Nat) (c:C3):Prop:=
 ∀ nd:List Ae,nd.length=N->rec p ⟨Fr,Tk,nd,Df,Mn⟩ c.1 c.2.1 c.2.2=some ⟨Fr,Tk,g c.1 c.2.1 c.2.2 nd,Df,Mn⟩/\(g c.1 c.2.1 c.2.2 nd).length=N
theorem sl2 {d:AM} {z:Int} (h0:0<=z/\z<=6012) (okd:okD d=true) {w:List Int} (hw:w.length<=100000) {AA:Nat} (hf:10000<AA) (AC:List Af):
 ∀ (AB:List Af) (k:Nat) (nd:List Ae),d.AL=AB++AC->AC.length<k->AB.length+AC.length<=3000000->nd.length=N ->
 (∀ r∈AC,RunS p rec g Fr Tk Df Mn N (r.AQ,eU w z d++upto (z+own d) (brs d.AK r.AU).toNat,z+own d+brs d.AK r.AU)) ->
 pG AA rec p z w d (own d) k AB.length Fr Tk nd Df Mn=some (Fr,Tk,dT g (AC.map fun r=>(r.AQ,eU w z d++upto (z+own d) (brs d.AK r.AU).toNat,z+own d+brs d.AK r.AU)) nd,Df,Mn)/\(dT g (AC.map fun r=>(r.AQ,eU w z d++upto (z+own d) (brs d.AK r.AU).toNat,z+own d+brs d.AK r.AU)) nd).length=N:=by
 have hl:=gI okd
 have ho:0<=own d/\own d<=60:=⟨tP d,by unfold own;omega⟩
 induction AC with
 | nil=>
  intro AB k nd he hk _ hN _;obtain _ | k:=k
  ·omega
  rw [pG,he,a1X (by simp)];exact⟨rfl,hN⟩
 | cons e AC ih=>
  intro AB k nd he hk hB hN hr;obtain _ | k:=k
  ·omega
  simp only [a0R]at hk hB;have hmem:e∈d.AL:=by rw [he];simp
  obtain⟨_,m1,m2,m3⟩:=aBg (AA:=AA) (by omega) okd hmem
  obtain⟨r1,r2⟩:=hr e (.head _) nd hN;obtain⟨i1,i2⟩:=ih (AB++[e]) k (g e.AQ (eU w z d++upto (z+own d) (brs d.AK e.AU).toNat) (z+own d+brs d.AK e.AU) nd) (by rw [he];simp) (by omega) (by simp;omega) r2 (fun r h=>hr r (.tail _ h))
  refine⟨?_,i2⟩;have hix:idx d.AL (AB.length:Int)=some e:=by rw [he];exact bE _ _ _
  rw [pG,a1Y (by rw [he];exact bC _ _ _),hix,bsm,
   show(⟨d.AK,d.AO,d.AL⟩:AM)=d from rfl,m1,bsm,bsm,aAA (by omega) ho.1 (by omega) (by omega),bsm,aR (by omega),bsm,aAA (by omega) m2 (by rw [a0Q,iL];omega) (by omega),bsm,bsm,aR (by omega),bsm,
   show(⟨p.AF,p.AD,p.AE,p.AG⟩:AI)=p from rfl,show w++upto z (own d).toNat=eU w z d from rfl,r1,bsm,aR (by omega),bsm,bB AB e,i1]
  rfl
theorem sl3 {d:AM} {z:Int} (h0:0<=z/\z<=6012) (okd:okD d=true) {w:List Int} (hw:w.length<=100000) {AA:Nat} (hf:10000<AA) (AC:List Aj):
 ∀ (AB:List Aj) (k:Nat) (nd:List Ae),d.AO=AB++AC->AC.length<k->AB.length+AC.length<=3000000->nd.length=N->(∀ r∈AC,RunS p rec g Fr Tk Df Mn N (r.AQ,eU w z d,z+own d)) ->
 pP AA rec p z w d (own d) k AB.length Fr Tk nd Df Mn=some (Fr,Tk,dT g (AC.map fun r=>(r.AQ,eU w z d,z+own d)) nd,Df,Mn)/\(dT g (AC.map fun r=>(r.AQ,eU w z d,z+own d)) nd).length=N:=by
 have hl:=gI okd
 have ho:0<=own d/\own d<=60:=⟨tP d,by unfold own;omega⟩
 induction AC with
 | nil=>
  intro AB k nd he hk _ hN _;obtain _ | k:=k
  ·omega
  rw [pP,he,a1X (by simp)];exact⟨rfl,hN⟩
 | cons e AC ih=>
  intro AB k nd he hk hB hN hr;obtain _ | k:=k
  ·omega
  simp only [a0R]at hk hB;obtain⟨r1,r2⟩:=hr e (.head _) nd hN;obtain⟨i1,i2⟩:=ih (AB++[e]) k (g e.AQ (eU w z d) (z+own d) nd) (by rw [he];simp) (by omega) (by simp;omega) r2 (fun r h=>hr r (.tail _ h))
  refine⟨?_,i2⟩;rw [pP,a1Y (by rw [he];exact bC _ _ _),show idx d.AO (AB.length:Int)=some e from by rw [he];exact bE _ _ _,bsm,aAA (by omega) ho.1 (by omega) (by omega),bsm,aR (by omega),bsm,
   show(⟨p.AF,p.AD,p.AE,p.AG⟩:AI)=p from rfl,show w++upto z (own d).toNat=eU w z d from rfl,r1,bsm,aR (by omega),bsm,bB AB e,i1]
  rfl
theorem sl4 {x:AW} {ins:List Int} {w:Int} (AC:List Int):
 ∀ (AB:List Int) (k:Nat) (nd:List Ae),x.AN=AB++AC->AC.length<k->AB.length+AC.length<=3000000->nd.length=N->(∀ r∈AC,RunS p rec g Fr Tk Df Mn N (r,ins,w)) ->
 lX rec p x w ins k AB.length Fr Tk nd Df Mn=some ⟨Fr,Tk,dT g (AC.map fun r=>(r,ins,w)) nd,Df,Mn⟩:=by
 induction AC with
 | nil=>
  intro AB k nd he hk _ hN _;obtain _ | k:=k
  ·omega
  rw [lX,he,a1X (by simp)];rfl
 | cons e AC ih=>
  intro AB k nd he hk hB hN hr;obtain _ | k:=k
  ·omega
  simp only [a0R]at hk hB;obtain⟨r1,r2⟩:=hr e (.head _) nd hN;have i1:=ih (AB++[e]) k (g e ins w nd) (by rw [he];simp) (by omega) (by simp;omega) r2 (fun r h=>hr r (.tail _ h))
  rw [lX,a1Y (by rw [he];exact bC _ _ _),show idx x.AN (AB.length:Int)=some e from by rw [he];exact bE _ _ _,bsm,
   show(⟨p.AF,p.AD,p.AE,p.AG⟩:AI)=p from rfl,r1,bsm,aR (by omega),bsm,bB AB e,i1]
  rfl
end
theorem kind678 {x:AW}:(if x.Op=6 then some (decide (x.Op=6)) else if x.Op=8 then some (decide (x.Op=8)) else some (decide (x.Op=7)))=some (decide (x.Op=6\/x.Op=8\/x.Op=7)):=by
 by_cases o6:x.Op=6
 ·rw [a1Y o6,a1V o6,a1V (.inl o6)]
 ·rw [a1X o6];by_cases o8:x.Op=8
  ·rw [a1Y o8,a1V o8,a1V (.inr (.inl o8))]
  ·rw [a1X o8];by_cases o7:x.Op=7
   ·rw [a1V o7,a1V (.inr (.inr o7))]
   ·rw [a1U o7,a1U (fun q=>q.elim o6 fun q=>q.elim o8 o7)]
theorem shut_r {p:AI} {s:VS} {rk:Int->Nat} (C:Cx p s rk) {Fr:List ByteArray} {Tk:List Int} {Df:List AM} {Mn:Int}:
 ∀ (h AA:Nat) (n:Int) (x:AW) (z:Int) (l:List Int),Nd p s rk n x z->rk n<h->10000000+h<=AA->(l.length:Int)<=z->RunS p (fA AA) (put p h) Fr Tk Df Mn p.AD.length (n,l,z):=by
 intro h
 induction h with
 | zero=>intro AA n x z l _ hr;omega
 | succ h ih=>
  intro AA n x z l K hr hf hl nd hN;obtain _ | AA:=AA
  ·omega
  refine⟨?_,by rw [yO];exact hN⟩
  have hn:=fX K.g.node;have h0:=K.g.pos;have h6:=K.z6;have hw:=C.want_len K;have ok:=K.g.ok;have hla:=ok.la;have hlk:=ok.lk;have hargs:=args_r (AA:=AA) (l:=l) (by omega) (by omega) (op:=x.Op) (n:=x.N) (ks:=x.AN) x.AS [] [] AA (by omega) (by simp;omega) (by simp;omega) ok.exps
  simp only [a1j,a0V,a0q]at hargs;rw [show(⟨x.Op,x.N,x.AS,x.AN⟩:AW)=x from rfl]at hargs;obtain⟨y0,hy0⟩:=eY (xs:=nd) hn.1 (by rw [hN];exact hn.2)
  have sub:∀ c:C3,(c.1,c.2.2)∈gJ p x z->(c.2.1.length:Int)<=c.2.2->RunS p (fA AA) (put p h) Fr Tk Df Mn p.AD.length c:=fun c hc hlen=>by
   obtain⟨q1,y,K'⟩:=C.child K.g hc;exact ih AA c.1 y c.2.2 c.2.1 K' (by simp only at *;omega) (by omega) hlen
  have hnd:(nd.set n.toNat (yOf x l (bG p n))).length=p.AD.length:=by rw [a0W];exact hN
  have hpr:(⟨p.AF,p.AD,p.AE,p.AG⟩:AI)=p:=rfl;show fA (AA+1) p ⟨Fr,Tk,nd,Df,Mn⟩ n l z=some ⟨Fr,Tk,put p (h+1) n l z nd,Df,Mn⟩
  rw [fA,K.g.node,bsm,a1j,dI (by omega),bsm,hargs,bsm];simp only [put];rw [K.g.node];dsimp only
  have kids:∀ ins:List Int,x.Op≠4->(ins=if x.Op=6\/x.Op=8 then bG p n else l)\/x.AN=[]->(ins.length:Int)<=z->∀ N' T',N'=yN x l (bG p n)->T'=yT x l (bG p n) ->
   lX (fA AA) p x z ins AA 0 Fr Tk (nd.set n.toNat ⟨x.Op,N',flL l x.AS,x.AN,T'⟩) Df Mn=some ⟨Fr,Tk,dT (put p h) (fK p x l z (bG p n)) (dT (put p h) (fD p x z (bG p n)) (nd.set n.toNat (yOf x l (bG p n)))),Df,Mn⟩:=by
   intro ins o4 hi hlen N' T' rfl rfl;rw [show(⟨x.Op,yN x l (bG p n),flL l x.AS,x.AN,yT x l (bG p n)⟩:Ae)=yOf x l (bG p n)from rfl];have e4:=sl4 (p:=p) (rec:=fA AA) (g:=put p h) (Fr:=Fr) (Tk:=Tk) (Df:=Df) (Mn:=Mn) (N:=p.AD.length) (x:=x) (ins:=ins) (w:=z) x.AN [] AA _ rfl (by omega) (by simp;omega) hnd (fun r hr=>by
    rcases hi with hi | hi
    ·refine sub _ ?_ hlen;exact uX (list:=l) (w:=bG p n) (by unfold fK;rw [a1X o4,<- hi];exact a1f.2 ⟨r,hr,rfl⟩)
    ·rw [hi]at hr;cases hr)
   simp only [a0V,a0q]at e4;rw [e4];rcases hi with hi | hi
   ·simp only [fK,fD,a1X o4,dT,hi]
   ·simp only [fK,fD,a1X o4,dT,hi,a0Z]
  by_cases o2:x.Op=2
  ·rw [a1Y o2,zH (by omega) (by omega),bsm,bsm];dsimp only
   rw [hy0,bsm];have ne:¬ (x.Op=6\/x.Op=8):=by omega
   exact kids l (by omega) (.inl (by rw [a1X ne])) hl _ _ (by unfold yN;rw [a1X ne,a1Y o2]) (by unfold yT kN;rw [a1X (by simp [o2])])
  ·rw [a1X o2,kind678,bsm];by_cases o67:x.Op=6\/x.Op=8\/x.Op=7
   ·have o4:x.Op≠4:=by omega
    have tt:kN x.Op=true:=a1V (by omega)
    rw [a1V o67,a1T,hpr,(aBV C K.g o4).1 AA (by omega),bsm,aFa (by omega) (by omega) (by omega) (by omega),bsm];by_cases o7:x.Op=7
    ·rw [a1X (by simp [o7]),bsm];dsimp only
     rw [hy0,bsm];exact kids (bG p n) o4 (.inr (ok.stop o7)) hw _ _ (by unfold yN;rw [a1X (by omega),a1X o2]) (by unfold yT;rw [a1Y tt])
    ·have o68:x.Op=6\/x.Op=8:=by omega
     rw [a1Y o7,zH (by omega) (by omega),bsm,bsm];dsimp only
     rw [hy0,bsm];exact kids (bG p n) o4 (.inl (by rw [a1Y o68])) hw _ _ (by unfold yN;rw [a1Y o68]) (by unfold yT;rw [a1Y tt])
   ·rw [a1U o67,a1S];by_cases o4:x.Op=4
    ·obtain⟨d,ed,okd,hwt,_⟩:=aB0 C K.g h6 o4;have hlim:=gI okd;have ho:0<=own d/\own d<=60:=⟨tP d,by unfold own;omega⟩
     have tt:kN x.Op=true:=a1V (by omega)
     rw [a1Y o4,hpr,hwt AA (by omega),bsm,aFa (by omega) (by omega) (by omega) (by omega),bsm,ed,bsm,aR (by omega),bsm,show(d.AK.length:Int)+(d.AO.length:Int)=own d from rfl];have hins:(((eU (bG p n) z d).length:Nat):Int)=(bG p n).length+own d:=by unfold eU;rw [a0Q,iL];omega
     obtain⟨e2,n2⟩:=sl2 (p:=p) (rec:=fA AA) (g:=put p h) (Fr:=Fr) (Tk:=Tk) (Df:=Df) (Mn:=Mn) (N:=p.AD.length) ⟨h0,h6⟩ okd (w:=bG p n) (by omega) (AA:=AA) (by omega) d.AL [] AA nd rfl (by omega) (by simp;omega) hN (fun r hr=>by
      have hb:=(aBg (AA:=AA) (by omega) okd hr).2.2
      refine sub _ ?_ ?_
      ·exact rQ (w:=bG p n) (by unfold fD;rw [a1Y o4,ed];exact a1b _ (a1f.2 ⟨r,hr,rfl⟩))
      ·simp only [a0Q,iL];omega)
     obtain⟨e3,n3⟩:=sl3 (p:=p) (rec:=fA AA) (g:=put p h) (Fr:=Fr) (Tk:=Tk) (Df:=Df) (Mn:=Mn) (N:=p.AD.length) ⟨h0,h6⟩ okd (w:=bG p n) (by omega) (AA:=AA) (by omega) d.AO [] AA _ rfl (by omega) (by simp;omega) n2 (fun r hr=>by
      refine sub _ ?_ ?_
      ·exact rQ (w:=bG p n) (by unfold fD;rw [a1Y o4,ed];exact a1c _ (a1f.2 ⟨r,hr,rfl⟩))
      ·simp only;omega)
     simp only [a0V,a0q]at e2 e3;have hfd:fD p x z (bG p n)=fR d z (eU (bG p n) z d)++fS d z (eU (bG p n) z d):=by unfold fD;rw [a1Y o4,ed]
     have hfk:fK p x l z (bG p n)=x.AN.map fun k=>(k,l++upto z (own d).toNat,z+own d):=by unfold fK;rw [a1Y o4,ed]
     rw [e2,bsm];dsimp only
     rw [e3,bsm];dsimp only
     rw [aAA (by omega) ho.1 (by omega) (by omega),bsm,aR (by omega),bsm,bsm];dsimp only
     obtain⟨y1,hy1⟩:=eY (xs:=dT (put p h) (d.AO.map fun r=>(r.AQ,eU (bG p n) z d,z+own d)) (dT (put p h) (d.AL.map fun r=>(r.AQ,eU (bG p n) z d++upto (z+own d) (brs d.AK r.AU).toNat,z+own d+brs d.AK r.AU)) nd)) hn.1 (by rw [n3];exact hn.2)
     rw [hy1,bsm];have hy:(⟨x.Op,x.N,flL l x.AS,x.AN,(bG p n).map (fnd l)⟩:Ae)=yOf x l (bG p n):=by
      unfold yOf yN yT;rw [a1X (by omega),a1X o2,a1Y tt]
     have e4:=sl4 (p:=p) (rec:=fA AA) (g:=put p h) (Fr:=Fr) (Tk:=Tk) (Df:=Df) (Mn:=Mn) (N:=p.AD.length) (x:=x) (ins:=l++upto z (own d).toNat) (w:=z+own d) x.AN [] AA ((dT (put p h) (d.AO.map fun r=>(r.AQ,eU (bG p n) z d,z+own d)) (dT (put p h) (d.AL.map fun r=>(r.AQ,eU (bG p n) z d++upto (z+own d) (brs d.AK r.AU).toNat,z+own d+brs d.AK r.AU)) nd)).set n.toNat (yOf x l (bG p n))) rfl (by omega) (by simp;omega) (by rw [a0W];exact n3) (fun r hr=>by
      refine sub _ ?_ ?_
      ·exact uX (list:=l) (w:=bG p n) (by rw [hfk];exact a1f.2 ⟨r,hr,rfl⟩)
      ·simp only [a0Q,iL];omega)
     simp only [a0V,a0q]at e4;rw [hy,e4,hfk,hfd];have hc:=zU (g:=put p h) (n:=n.toNat) (y:=yOf x l (bG p n)) (fR d z (eU (bG p n) z d)++fS d z (eU (bG p n) z d)) nd (fun c hc nd=>by
      rw [<- hfd]at hc;obtain⟨r1,x',K'⟩:=C.child K.g (rQ hc);exact aCp C.fm hn.1 h c.1 x' c.2.2 c.2.1 nd K'.g r1)
     rw [hc,aCk];rfl
    ·rw [a1X o4,bsm];dsimp only
     rw [hy0,bsm];have ne:¬ (x.Op=6\/x.Op=8):=fun q=>o67 (q.elim .inl fun q=> .inr (.inl q))
     exact kids l o4 (.inl (by rw [a1X ne])) hl _ _ (by unfold yN;rw [a1X ne,a1X o2]) (by unfold yT kN;rw [a1X (by simp;omega)])
open Go.SX Go.SW Go.Dt
theorem aHa (AC:List Int):∀ (AB:List Int) (k:Nat),AC.length<k->AB.length+AC.length<=900000000->pC (AB++AC) (AB++AC) k AB.length=some (.inl ()):=by
 induction AC with
 | nil=>
  intro AB k hk _;obtain _ | k:=k
  ·omega
  rw [pC,a1X (by simp)]
 | cons e AC ih=>
  intro AB k hk hB;obtain _ | k:=k
  ·omega
  simp only [a0R]at hk hB;rw [pC,a1Y (bC _ _ _),bE,bsm,bsm,a1X (by simp),aR (by omega),bsm,bL,bB];exact ih (AB++[e]) k (by omega) (by simp;omega)
theorem aBl {AA:Nat} {l:List Int} (hf:l.length<AA) (h:l.length<=900000000):rO AA l l=some true:=by
 have g:=aHa l [] AA hf (by simp;omega)
 simp only [a1j,a0V,a0q]at g
 rw [rO,a1X (by simp),g,bsm]
theorem sdef1 {sp:List Aj} {ru:List Af} (AC:List Al):∀ (AB:List Al) (k:Nat),AC.length<k->AB.length+AC.length<=900000000->nI ⟨AB++AC,sp,ru⟩ ⟨AB++AC,sp,ru⟩ k AB.length=some (.inl ()):=by
 induction AC with
 | nil=>
  intro AB k hk _;obtain _ | k:=k
  ·omega
  rw [nI,a1X (by simp)]
 | cons e AC ih=>
  intro AB k hk hB;obtain _ | k:=k
  ·omega
  simp only [a0R]at hk hB;rw [nI,a1Y (bC _ _ _),bE,bsm,bsm,a1V rfl,a1V rfl,Bool.and_self,a1T,aR (by omega),bsm,bL,bB];exact ih (AB++[e]) k (by omega) (by simp;omega)
theorem sdef2 {ch:List Al} {ru:List Af} (AC:List Aj):∀ (AB:List Aj) (k:Nat),AC.length<k->AB.length+AC.length<=900000000->nS ⟨ch,AB++AC,ru⟩ ⟨ch,AB++AC,ru⟩ k AB.length=some (.inl ()):=by
 induction AC with
 | nil=>
  intro AB k hk _;obtain _ | k:=k
  ·omega
  rw [nS,a1X (by simp)]
 | cons e AC ih=>
  intro AB k hk hB;obtain _ | k:=k
  ·omega
  simp only [a0R]at hk hB;rw [nS,a1Y (bC _ _ _),bE,bsm,bsm,a1V rfl,a1V rfl,Bool.and_self,a1T,aR (by omega),bsm,bL,bB];exact ih (AB++[e]) k (by omega) (by simp;omega)
theorem sdef3 {AA:Nat} {ch:List Al} {sp:List Aj} (AC:List Af):∀ (AB:List Af) (k:Nat),AC.length<k->AB.length+AC.length<=900000000->(∀ r∈AC,r.AU.length<AA/\r.AU.length<=900000000)->nW AA ⟨ch,sp,AB++AC⟩ ⟨ch,sp,AB++AC⟩ k AB.length=some (.inl ()):=by
 induction AC with
 | nil=>
  intro AB k hk _ _;obtain _ | k:=k
  ·omega
  rw [nW,a1X (by simp)]
 | cons e AC ih=>
  intro AB k hk hB hr;obtain _ | k:=k
  ·omega
  simp only [a0R]at hk hB;have h:=hr e (.head _);rw [nW,a1Y (bC _ _ _),bE,bsm,bsm,a1X (by simp),bsm,bsm,a1X (by simp),bsm,bsm,aBl h.1 h.2,bsm,a1T,aR (by omega),bsm,bL,bB];exact ih (AB++[e]) k (by omega) (by simp;omega) (fun r hr'=>hr r (.tail _ hr'))
theorem sdef {AA:Nat} {d:AM} (hf:3000<AA) (okd:okD d=true):yP AA d d=some true:=by
 obtain⟨ch,sp,ru⟩:=d
 have hl:=gI okd
 dsimp only at hl
 have e1:=sdef1 (sp:=sp) (ru:=ru) ch [] AA (by omega) (by simp;omega)
 have e2:=sdef2 (ch:=ch) (ru:=ru) sp [] AA (by omega) (by simp;omega)
 have e3:=sdef3 (AA:=AA) (ch:=ch) (sp:=sp) ru [] AA (by omega) (by simp;omega) (fun r hr=>by have:=(hl.2.2.2.2 r hr).1;omega)
 simp only [a1j,a0V,a0q]at e1 e2 e3
 rw [yP,a1X (by simp),a1X (by simp),a1X (by simp),e1,bsm]
 dsimp only
 rw [e2,bsm]
 dsimp only
 rw [e3,bsm]
theorem aH4 {rec:AR->AR->Option Bool} {op n:Int} (AC:List AR):∀ (AB:List AR) (k:Nat),AC.length<k->AB.length+AC.length<=900000000->(∀ e∈AC,rec e e=some true)->nQ rec ⟨op,n,AB++AC⟩ ⟨op,n,AB++AC⟩ k AB.length=some (.inl ()):=by
 induction AC with
 | nil=>
  intro AB k hk _ _;obtain _ | k:=k
  ·omega
  rw [nQ,a1X (by simp)]
 | cons e AC ih=>
  intro AB k hk hB hr;obtain _ | k:=k
  ·omega
  simp only [a0R]at hk hB;rw [nQ,a1Y (bC _ _ _),bE,bsm,bsm,hr e (.head _),bsm,a1T,aR (by omega),bsm,bL,bB];exact ih (AB++[e]) k (by omega) (by simp;omega) (fun x hx=>hr x (.tail _ hx))
theorem sexp (AA:Nat):∀ (e:AR),nE e<AA->nE e<=2000000->mC AA e e=some true:=by
 induction AA with
 | zero=>intro e h;omega
 | succ AA ih=>
  intro ⟨op,n,ks⟩ hf hB
  simp only [nE]at hf hB;have hlen:=rB ks;have e1:=aH4 (rec:=mC AA) (op:=op) (n:=n) ks [] AA (by omega) (by simp;omega) (fun e he=>ih e (by have:=fY he;omega) (by have:=fY he;omega))
  simp only [a1j,a0V,a0q]at e1;rw [mC,a1X (by simp),a1X (by simp),a1X (by simp),e1,bsm]
structure SmN (y:Ae):Prop where
 la:y.AS.length<=3
 ex:∀ e∈y.AS,nE e<=60
 lk:y.AN.length<=2
 lt:y.Ab.length<=6012
theorem same4 {AA:Nat} (hf:3000<AA) {op n:Int} {ks tk:List Int} (AC:List AR):∀ (AB:List AR) (k:Nat),AC.length<k->AB.length+AC.length<=900000000->(∀ e∈AC,nE e<=60)->oR AA ⟨op,n,AB++AC,ks,tk⟩ ⟨op,n,AB++AC,ks,tk⟩ k AB.length=some (.inl ()):=by
 induction AC with
 | nil=>
  intro AB k hk _ _;obtain _ | k:=k
  ·omega
  rw [oR,a1X (by simp)]
 | cons e AC ih=>
  intro AB k hk hB hr;obtain _ | k:=k
  ·omega
  simp only [a0R]at hk hB;have:=hr e (.head _);rw [oR,a1Y (bC _ _ _),bE,bsm,bsm,sexp AA e (by omega) (by omega),bsm,a1T,aR (by omega),bsm,bL,bB];exact ih (AB++[e]) k (by omega) (by simp;omega) (fun x hx=>hr x (.tail _ hx))
theorem same1 {f:Ad} (AC:List ByteArray):∀ (AB:List ByteArray) (k:Nat),f.AF=AB++AC->AC.length<k->AB.length+AC.length<=900000000->oB f f k AB.length=some (.inl ()):=by
 induction AC with
 | nil=>
  intro AB k he hk _;obtain _ | k:=k
  ·omega
  rw [oB,he,a1X (by simp)]
 | cons e AC ih=>
  intro AB k he hk hB;obtain _ | k:=k
  ·omega
  simp only [a0R]at hk hB;rw [oB,he,a1Y (bC _ _ _),bE,bsm,bsm,a1X (by simp),aR (by omega),bsm,bB AB e];exact ih (AB++[e]) k (by rw [he];simp) (by omega) (by simp;omega)
theorem same2 {AA:Nat} (hf:3000<AA) {f:Ad} (AC:List AM):∀ (AB:List AM) (k:Nat),f.AE=AB++AC->AC.length<k->AB.length+AC.length<=900000000->(∀ d∈AC,okD d=true)->oM AA f f k AB.length=some (.inl ()):=by
 induction AC with
 | nil=>
  intro AB k he hk _ _;obtain _ | k:=k
  ·omega
  rw [oM,he,a1X (by simp)]
 | cons e AC ih=>
  intro AB k he hk hB hr;obtain _ | k:=k
  ·omega
  simp only [a0R]at hk hB;rw [oM,he,a1Y (bC _ _ _),bE,bsm,bsm,sdef hf (hr e (.head _)),bsm,a1T,aR (by omega),bsm,bB AB e];exact ih (AB++[e]) k (by rw [he];simp) (by omega) (by simp;omega) (fun d hd=>hr d (.tail _ hd))
theorem same3 {AA:Nat} (hf:10000<AA) {f:Ad} (AC:List Ae):∀ (AB:List Ae) (k:Nat),f.AD=AB++AC->AC.length<k->AB.length+AC.length<=900000000->(∀ y∈AC,SmN y)->pO AA f f k AB.length=some (.inl ()):=by
 induction AC with
 | nil=>
  intro AB k he hk _ _;obtain _ | k:=k
  ·omega
  rw [pO,he,a1X (by simp)]
 | cons e AC ih=>
  intro AB k he hk hB hr;obtain _ | k:=k
  ·omega
  simp only [a0R]at hk hB;have h:=hr e (.head _);have e4:=same4 (AA:=AA) (by omega) (op:=e.Op) (n:=e.N) (ks:=e.AN) (tk:=e.Ab) e.AS [] AA (by have:=h.la;omega) (by have:=h.la;simp;omega) h.ex
  simp only [a1j,a0V,a0q]at e4;rw [show(⟨e.Op,e.N,e.AS,e.AN,e.Ab⟩:Ae)=e from rfl]at e4;have h1:=h.lk;have h2:=h.lt;rw [pO,he,a1Y (bC _ _ _),bE,bsm,bsm,a1X (by simp),a1X (by simp),a1X (by simp),aBl (by omega) (by omega),bsm,a0o,a1S,aBl (by omega) (by omega),bsm,a1T,e4,bsm];dsimp only
  rw [aR (by omega),bsm,bB AB e];exact ih (AB++[e]) k (by rw [he];simp) (by omega) (by simp;omega) (fun d hd=>hr d (.tail _ hd))
theorem aF3 {AA:Nat} (hf:10000<AA) {f:Ad} (h1:f.AF.length<=12) (h2:f.Ab.length<=6012) (h3:f.AD.length<=60) (h4:f.AE.length<=12) (hn:∀ y∈f.AD,SmN y) (hd:∀ d∈f.AE,okD d=true):wT AA f f=some true:=by
 have e1:=same1 (f:=f) f.AF [] AA rfl (by omega) (by simp;omega)
 have e2:=same2 (AA:=AA) (by omega) (f:=f) f.AE [] AA rfl (by omega) (by simp;omega) hd
 have e3:=same3 (AA:=AA) hf (f:=f) f.AD [] AA rfl (by omega) (by simp;omega) hn
 simp only [a0V,a0q]at e1 e2 e3
 rw [wT,a1X (by simp),a1X (by simp),aBl (by omega) (by omega),bsm,a0o,a1S,a1X (by simp),a1X (by simp),e1,bsm]
 dsimp only
 rw [e2,bsm]
 dsimp only
 rw [e3,bsm]
theorem aFf {l:List Int}:(∀ e,nE (flE l e)=nE e)/\∀ ks,nL (flL l ks)=nL ks/\(flL l ks).length=ks.length:=⟨go,goL⟩
where
 go:∀ e,nE (flE l e)=nE e
  | ⟨op,n,ks⟩=>by simp only [flE,nE];rw [(goL ks).1]
 goL:∀ ks,nL (flL l ks)=nL ks/\(flL l ks).length=ks.length
  | []=>⟨rfl,rfl⟩
  | k :: ks=>by simp only [flL,nL,a0R];rw [go k,(goL ks).1,(goL ks).2];exact⟨rfl,rfl⟩
theorem fl_mem {l:List Int} {R:Nat->Prop}:∀ {ks:List AR},(∀ e∈ks,R (nE e))->∀ e∈flL l ks,R (nE e)
 | [],_,e,he=>by cases he
 | k :: ks,h,e,he=>by
  rcases a1d.1 he with rfl | he
  ·rw [aFf.1];exact h k (.head _)
  ·exact fl_mem (fun e he=>h e (.tail _ he)) e he
theorem yOf_sm {p:AI} {s:VS} {rk:Int->Nat} (C:Cx p s rk) {n:Int} {x:AW} {z:Int} (K:Nd p s rk n x z) (l:List Int):SmN (yOf x l (bG p n)):=by
 have hw:=C.want_len K
 have h6:=K.z6
 refine⟨?_,?_,K.g.ok.lk,?_⟩
 ·show(flL l x.AS).length<=3
  rw [(aFf.2 x.AS).2];exact K.g.ok.la
 ·exact fl_mem (R:=fun k=>k<=60) K.g.ok.exps
 ·show(yT x l (bG p n)).length<=6012
  unfold yT;split
  ·rw [a0U];omega
  ·simp
theorem aB7 {g:Int->List Int->Int->List Ae->List Ae}:∀ (l:List C3) (nd:List Ae),(∀ c∈l,∀ nd,(∀ y∈nd,SmN y)->∀ y∈g c.1 c.2.1 c.2.2 nd,SmN y)->(∀ y∈nd,SmN y)->∀ y∈dT g l nd,SmN y
 | [],_,_,h=>h
 | c :: l,nd,hg,h=>aB7 l _ (fun c hc=>hg c (.tail _ hc)) (hg c (.head _) nd h)
theorem aBP {p:AI} {s:VS} {rk:Int->Nat} (C:Cx p s rk):∀ (h:Nat) (n:Int) (x:AW) (z:Int) (l:List Int) (nd:List Ae),Nd p s rk n x z->(∀ y∈nd,SmN y)->∀ y∈put p h n l z nd,SmN y
 | 0,_,_,_,_,_,_,h=>h
 | h+1,n,x,z,l,nd,K,hs=>by
  rw [put,K.g.node];dsimp only
  refine aB7 _ _ (fun c hc nd hnd=>?_) (aB7 _ _ (fun c hc nd hnd=>?_) fun y hy=>?_)
  ·obtain⟨_,x',K'⟩:=C.child K.g (uX hc);exact aBP C h c.1 x' c.2.2 c.2.1 nd K' hnd
  ·obtain⟨_,x',K'⟩:=C.child K.g (rQ hc);exact aBP C h c.1 x' c.2.2 c.2.1 nd K' hnd
  ·rcases List.mem_or_eq_of_mem_set hy with q | q
   ·exact hs y q
   ·rw [q];exact yOf_sm C K l
def pE:Ae:=⟨0,0,[],[],[]⟩
def nA (p:AI):Ad:=⟨p.AF,cP p p.AG,put p 60 p.AG (cP p p.AG) p.AF.length (List.replicate p.AD.length pE),p.AE,p.AG⟩
theorem Cx.main {p:AI} {s:VS} {rk:Int->Nat} (C:Cx p s rk):∃ x,Nd p s rk p.AG x p.AF.length/\rk p.AG<60/\NeedB p s p.AG p.AF.length:=by
 have h1:=fX C.fm.main
 have:=C.fm.len
 obtain⟨hr,x,z,G,hz⟩:=C.fm.good p.AG h1.1 (by omega)
 have e:=G.size
 rw [C.fm.main]at e;cases e
 obtain⟨_,w,G',_,N⟩:=C.need (n:=p.AG) h1.1 (by omega)
 have e:=G'.size
 rw [C.fm.main]at e;cases e
 exact⟨x,⟨G,hz⟩,hr,N⟩
theorem flat_S {p:AI} {s:VS} {rk:Int->Nat} (C:Cx p s rk):sQ F p=some (nA p,0):=by
 have h60:=C.fm.n60
 have h12:=C.fm.f12
 obtain⟨g,e1,ha,hm⟩:=asked_p C
 obtain⟨x,K,hr,N⟩:=C.main
 have hl:=N.len
 obtain⟨e2,_⟩:=flat1_p C ha (Fr:=p.AF) (Tk:=cP p p.AG) (Df:=p.AE) (Mn:=p.AG) 60 F p.AG x p.AF.length (cP p p.AG) K hr (by decide) hl (List.replicate p.AD.length pE) (by simp)
 unfold sQ
 rw [show(⟨p.AF,p.AD,p.AE,p.AG⟩:AI)=p from rfl,e1,bsm]
 simp only [ne_eq,not_true_eq_false,if_false]
 rw [aE7 C.sm C.chk_ C.fm.len h60,bsm,aAg,a1j,dI (by omega),bsm,bsm,hm,a1L,aCu (by omega),bsm,mk_ok (by omega),bsm,copied_p (by unfold F;omega) C.sm.AV C.sm.AT,bsm,
  show(⟨0,0,[],[],[]⟩:Ae)=pE from rfl]
 simp only at e2
 rw [e2,bsm]
 rfl
theorem rflat_S {p:AI} {s:VS} {rk:Int->Nat} (C:Cx p s rk):rY F p=some (nA p,0):=by
 have h60:=C.fm.n60
 have h12:=C.fm.f12
 obtain⟨x,K,hr,N⟩:=C.main
 have hl:=N.len
 obtain⟨e2,_⟩:=shut_r C (Fr:=p.AF) (Tk:=cP p p.AG) (Df:=p.AE) (Mn:=p.AG) 60 F p.AG x p.AF.length (cP p p.AG) K hr (by decide) hl (List.replicate p.AD.length pE) (by simp)
 unfold rY
 rw [show(⟨p.AF,p.AD,p.AE,p.AG⟩:AI)=p from rfl,aEc C.sm,C.chk_,bsm,a1X (by simp),N.r F (by decide),bsm,a1j,dI (by omega),bsm,mk_ok (by omega),bsm,copied_r (by unfold F;omega) C.sm.AV C.sm.AT,bsm,
  show(⟨0,0,[],[],[]⟩:Ae)=pE from rfl]
 simp only at e2
 rw [e2,bsm]
 rfl
theorem aHk {p:AI} (hm:SmP p):aA0 F p=some true:=by
 have hk:aCn=some true:=rfl
 unfold aA0
 rw [show(⟨p.AF,p.AD,p.AE,p.AG⟩:AI)=p from rfl]
 cases hc:fC p with
 | none=>
  have e1:sQ F p=some (⟨[],[],[],[],0⟩,2):=by
   unfold sQ tT;rw [show(⟨p.AF,p.AD,p.AE,p.AG⟩:AI)=p from rfl,vM,yK,yV,show(⟨p.AF,p.AD,p.AE,p.AG⟩:AI)=p from rfl,aCT hm,bsm,hc];rfl
  have e2:rY F p=some (⟨[],[],[],[],0⟩,2):=by
   unfold rY;rw [show(⟨p.AF,p.AD,p.AE,p.AG⟩:AI)=p from rfl,aEc hm,hc];rfl
  have e3:=aF3 (AA:=F) (by decide) (f:=⟨[],[],[],[],0⟩) (by simp) (by simp) (by simp) (by simp) (fun y h=>by cases h) (fun y h=>by cases h)
  rw [e1,bsm,e2,bsm,a1Y rfl];dsimp only
  rw [e3,bsm,a1T,hk,bsm,bsm]
 | some s=>
  obtain⟨rk,fm⟩:=fm_of hc;have C:Cx p s rk:=⟨hm,hc,fm⟩;obtain⟨x,K,hr,N⟩:=C.main;have hl:=N.len;have h12:=fm.f12;have hs:=aBP C 60 p.AG x p.AF.length (cP p p.AG) (List.replicate p.AD.length pE) K (fun y hy=>by
   rw [List.eq_of_mem_replicate hy];exact⟨by simp [pE],fun e h=>(by cases h),by simp [pE],by simp [pE]⟩)
  have e3:=aF3 (AA:=F) (by decide) (f:=nA p) fm.f12 (by show(cP p p.AG).length<=6012;omega) (by show(put _ _ _ _ _ _).length<=60;rw [yO];simp;exact fm.n60) fm.d12 hs fm.oks
  rw [flat_S C,bsm,rflat_S C,bsm,a1Y rfl];rw [show(⟨(nA p).AF,(nA p).Ab,(nA p).AD,(nA p).AE,(nA p).AG⟩:Ad)=nA p from rfl,e3,bsm,a1T,hk,bsm,bsm]
open Go.SX Go.SW
theorem aIl {W:World} {a:Addr} {c:Value} (h:W.cell? a=some c):(jF W).cell a=some c:=by
 unfold World.cell? at h
 unfold Mem.cell tS jF
 cases hb:W.heap[a.block]? with
 | none=>rw [hb]at h;cases h
 | some o=>
  rw [hb]at h;cases o with
  | cells c t fr=>
   dsimp only at h ⊢
   first
    | exact h
    | (cases hs:a.spot with
       | none=>rw [hs]at h;simpa using h
       | some s=>rw [hs]at h;simp at h)
  | _=>cases h
theorem aEP {H:Type} {d:DataW H} {l:List (DataW H)} (h:d∈l):Rows.uptoBulk d<=Rows.uptoBulkAll l:=by
 induction l with
 | nil=>cases h
 | cons x r ih=>
  simp only [Rows.uptoBulkAll];cases h with
  | head=>omega
  | tail _ e=>have:=ih e;omega
theorem bulk_one {H:Type} (d:DataW H):1<=Rows.uptoBulk d:=by
 cases d with
 | lit l=>cases l <;> simp [Rows.uptoBulk]
 | _=>simp [Rows.uptoBulk]
section
variable {H:Type} {enc:TypeId × Value->H} {P:Program} {W:World}
def Rd (enc:TypeId × Value->H) (P:Program) (W:World) (n:Nat) {α:Type} (T:Ty α) (t:TypeId) (μ:α->Nat) (S:α->Prop):Prop:=
 ∀ cs x,DataW.trod enc P W 0 (fun _=>true) true n t cs=some x->Rows.uptoBulk x.1<=1048576->∃ a,aX (T.Ai a) (jF W) cs/\μ a<=Rows.uptoBulk x.1/\S a
def RdF (enc:TypeId × Value->H) (P:Program) (W:World) (n:Nat) (fs:List Field) (o e:Nat) {β:Type} (L:β->List AH) (μ:β->Nat) (S:β->Prop):Prop:=
 ∀ (cs:List Value) xs,cs.length=e->(fs.mapM fun f=>DataW.trod enc P W 0 (fun _=>true) true n f.type ((cs.drop f.offset).take (P.cellsOf f.type)))=some xs->Rows.uptoBulkAll (xs.map (·.1))<=1048576->∃ b,aX (L b) (jF W) (cs.drop o)/\μ b<=Rows.uptoBulkAll (xs.map (·.1))/\S b
theorem pA {α:Type} {T:Ty α} {t:TypeId} {μ:α->Nat} {S:α->Prop}:Rd enc P W 0 T t μ S:=fun cs x h=>by cases h
theorem rK {n e:Nat}:RdF enc P W n [] e e (β:=Unit) (fun _=>[]) (fun _=>0) (fun _=>True):=fun cs xs hl h hb=>⟨(),by rw [a0x (by omega)];rfl,a1K _,trivial⟩
theorem aD6 {α β:Type} {f:α->Option β} {x:α} {l:List α} {ys:List β} (h:(x :: l).mapM f=some ys):∃ y r,f x=some y/\l.mapM f=some r/\ys=y :: r:=by
 rw [List.mapM_cons]at h
 cases hx:f x with
 | none=>rw [hx]at h;cases h
 | some y=>
  cases hl:l.mapM f with
  | none=>rw [hx,hl]at h;cases h
  | some r=>rw [hx,hl]at h;cases h;exact⟨y,r,rfl,rfl,rfl⟩
theorem eS {n o e:Nat} {f:Field} {fs:List Field} {α β:Type} {T:Ty α} {μ:α->Nat} {S:α->Prop} {L:β->List AH} {ν:β->Nat} {R:β->Prop} (h:Rd enc P W n T f.type μ S) (ho:f.offset=o) (hz:P.cellsOf f.type=T.sz) (k:RdF enc P W n fs (o+T.sz) e L ν R):
 RdF enc P W n (f :: fs) o e (fun x:α × β=>T.Ai x.1++L x.2) (fun x=>μ x.1+ν x.2) (fun x=>S x.1/\R x.2):=fun cs xs hl hm hb=>by
 obtain⟨y,r,h1,h2,rfl⟩:=aD6 hm
 simp only [a0Y,Rows.uptoBulkAll]at hb
 obtain⟨a,a1,a2,a3⟩:=h _ _ h1 (by omega)
 obtain⟨b,b1,b2,b3⟩:=k cs r hl h2 (by omega)
 refine⟨(a,b),?_,by simp only [a0Y,Rows.uptoBulkAll];omega,a3,b3⟩
 have:=a1.append b1
 rw [ho,hz,<- List.drop_drop,List.take_append_drop]at this
 exact this
theorem rC {n e:Nat} {α β:Type} {T:Ty α} {t:TypeId} {fs:Array Field} {μ:α->Nat} {S:α->Prop} {L:β->List AH} {ν:β->Nat} {R:β->Prop} (mk:β->α) (ht:P.underlying t=some (.struct fs)) (hc:P.cellsOf t=e) (k:RdF enc P W n fs.toList 0 e L ν R)
 (hL:∀ b,T.Ai (mk b)=L b) (hμ:∀ b,μ (mk b)<=ν b+1) (hS:∀ b,R b->ν b+1<=1048576->S (mk b)):Rd enc P W (n+1) T t μ S:=fun cs x h hb=>by
 rw [DataW.trod_step]at h
 unfold DataW.trodStep at h
 rw [ht]at h
 dsimp only at h
 split at h
 ·rename_i hcs;cases hm:(fs.toList.mapM fun f=>DataW.trod enc P W 0 (fun _=>true) true n f.type ((cs.drop f.offset).take (P.cellsOf f.type)))with
  | none=>rw [hm]at h;cases h
  | some xs=>
   rw [hm]at h;cases h;simp only [Rows.uptoBulk]at hb;obtain⟨b,b1,b2,b3⟩:=k cs xs (by omega) hm (by omega)
   rw [List.drop_zero]at b1;have:=hμ b;refine⟨mk b,by rw [hL];exact b1,by simp only [Rows.uptoBulk];omega,hS b b3 (by omega)⟩
 ·cases h
theorem rd_int {n:Nat} {t:TypeId} {k:IntKind} (ht:P.underlying t=some (.int k)):Rd enc P W n (dB k) t (fun _=>1) (fun i=>(Lit.int k i).wf=true):=fun cs x h hb=>by
 obtain _ | n:=n
 ·cases h
 rw [DataW.trod_step]at h
 unfold DataW.trodStep at h
 rw [ht]at h
 match cs,h with
 | [.int k' i],h=>
  dsimp only at h
  split at h
  ·rename_i hc;obtain⟨rfl,hw⟩:=hc;cases h;exact⟨i,⟨_,[],rfl,rfl,rfl⟩,a1B _,hw⟩
  ·cases h
theorem rd_str {n:Nat} {t:TypeId} (ht:P.underlying t=some .string):Rd enc P W n aD t (fun s=>s.size+1) (fun s=>s.size<=1048576):=fun cs x h hb=>by
 obtain _ | n:=n
 ·cases h
 rw [DataW.trod_step]at h
 unfold DataW.trodStep at h
 rw [ht]at h
 match cs,h with
 | [.string s],h=>
  dsimp only at h
  split at h
  ·cases h;have e:s.data.toList.length=s.size:=rfl;simp only [Rows.uptoBulk]at hb;exact⟨s,⟨_,[],rfl,rfl,rfl⟩,by simp only [Rows.uptoBulk];omega,by omega⟩
  ·cases h
def msum {α:Type} (μ:α->Nat):List α->Nat
 | []=>0
 | a :: l=>μ a+msum μ l
theorem aEt {α:Type} {f:Nat->Option α} {n:Nat} {l:List α} (h:(List.range n).mapM f=some l):l.length=n/\∀ i,i<n->∃ y,l[i]? =some y/\f i=some y:=by
 have g:∀ (ks:List Nat) (l:List α),ks.mapM f=some l->l.length=ks.length/\∀ (i k:Nat),ks[i]? =some k->∃ y,l[i]? =some y/\f k=some y:=fun ks=>by
  induction ks with
  | nil=>intro l h;cases h;exact⟨rfl,fun i k h=>by simp at h⟩
  | cons k ks ih=>
   intro l h;obtain⟨y,r,h1,h2,rfl⟩:=aD6 h;obtain⟨a,b⟩:=ih r h2;refine⟨by simp [a],fun i q hq=>?_⟩
   cases i with
   | zero=>simp at hq;subst hq;exact⟨y,rfl,h1⟩
   | succ i=>exact b i q (by simpa using hq)
 obtain⟨a,b⟩:=g _ _ h
 exact⟨by simpa using a,fun i hi=>b i i (by simp [hi])⟩
theorem aHG {W:World} {b z:Nat} {a:Addr} {cs:List Value} (h:W.cells? b a z=some cs):∀ (j:Nat) c,cs[j]? =some c->W.cell? (a.add j)=some c:=by
 unfold World.cells? at h
 split at h
 ·obtain⟨h1,h2⟩:=aEt h;intro j c hj;have:=(a0K.1 hj).1;obtain⟨y,y1,y2⟩:=h2 j (by omega)
  rw [hj]at y1;cases y1;exact y2
 ·cases h
theorem aEJ {α γ:Type} {Q:γ->α->Prop}:∀ (l:List γ),(∀ c∈l,∃ a,Q c a)->∃ r:List α,r.length=l.length/\∀ (i:Nat) c,l[i]? =some c->∃ a,r[i]? =some a/\Q c a
 | [],_=>⟨[],rfl,fun i c h=>by simp at h⟩
 | c :: l,h=>by
  obtain⟨a,ha⟩:=h c (.head _);obtain⟨r,h1,h2⟩:=aEJ l (fun c hc=>h c (.tail _ hc))
  refine⟨a :: r,by simp [h1],fun i q hq=>?_⟩
  cases i with
  | zero=>simp at hq;subst hq;exact⟨a,rfl,ha⟩
  | succ i=>exact h2 i q (by simpa using hq)
theorem aDH {α:Type} {μ:α->Nat}:∀ {r:List α} {ds:List (DataW H)},r.length=ds.length->(∀ (i:Nat) d a,ds[i]? =some d->r[i]? =some a->μ a<=Rows.uptoBulk d)->msum μ r<=Rows.uptoBulkAll ds/\r.length<=Rows.uptoBulkAll ds
 | [],[],_,_=>⟨a1K _,a1K _⟩
 | a :: r,d :: ds,hl,h=>by
  obtain⟨h1,h2⟩:=aDH (r:=r) (ds:=ds) (by simpa using hl) (fun i d a hd ha=>h (i+1) d a (by simpa using hd) (by simpa using ha))
  have:=h 0 d a rfl rfl;have:=bulk_one d;simp only [msum,Rows.uptoBulkAll,a0R];omega
theorem rd_sl {n:Nat} {t e:TypeId} {α:Type} {T:Ty α} {μ:α->Nat} {S:α->Prop} (ht:P.underlying t=some (.slice e)) (hz:P.cellsOf e=T.sz) (h:Rd enc P W n T e μ S):Rd enc P W (n+1) (tSl T) t (fun l=>msum μ l+1) (fun l=>l.length<=1048576/\∀ a∈l,S a):=fun cs x hx hb=>by
 rw [DataW.trod_step]at hx
 unfold DataW.trodStep at hx
 rw [ht]at hx
 match cs,hx with
 | [.slice none 0 0],hx=>
  cases hx;exact⟨[],⟨_,[],rfl,dF (jF W) _ rfl,rfl⟩,a1B _,by simp,fun a ha=>by cases ha⟩
 | [.slice (some p) len cap],hx=>
  dsimp only at hx
  split at hx
  ·rename_i hc;cases h1:((List.range len).mapM fun i=>(W.cells? 0 (p.add (i*P.cellsOf e)) (P.cellsOf e)).bind (DataW.trod enc P W 0 (fun _=>true) true n e))with
   | none=>rw [h1]at hx;cases hx
   | some es=>
    rw [h1]at hx;obtain⟨rest,_,rfl⟩:=a1M.1 hx;obtain⟨l1,l2⟩:=aEt h1;simp only [Rows.uptoBulk]at hb;have each:∀ y∈es,∃ a,(μ a<=Rows.uptoBulk y.1/\S a)/\∀ i cs',W.cells? 0 (p.add (i*P.cellsOf e)) (P.cellsOf e)=some cs'->DataW.trod enc P W 0 (fun _=>true) true n e cs'=some y->True:=fun y hy=>by
     obtain⟨i,hi,rfl⟩:=List.mem_iff_getElem.1 hy;obtain⟨y,y1,y2⟩:=l2 i (by omega)
     obtain⟨cs',c1,c2⟩:=Option.bind_eq_some_iff.1 y2;have e1:es[i]=y:=by rw [a0I hi]at y1;exact a1O y1
     have m1:Rows.uptoBulk y.1<=Rows.uptoBulkAll (es.map (·.1)):=aEP (a1g (by rw [<- e1];exact List.getElem_mem _))
     obtain⟨a,a1,a2,a3⟩:=h _ _ c2 (by omega)
     exact⟨a,⟨by rw [e1];exact a2,a3⟩,fun _ _ _ _=>trivial⟩
    have each2:∀ i∈List.range len,∃ a,(∃ y,es[i]? =some y/\μ a<=Rows.uptoBulk y.1)/\S a/\T.at (jF W) (p.add (i*T.sz)) a:=fun i hi=>by
     obtain⟨y,y1,y2⟩:=l2 i (by simpa using hi)
     obtain⟨cs',c1,c2⟩:=Option.bind_eq_some_iff.1 y2;have m1:Rows.uptoBulk y.1<=Rows.uptoBulkAll (es.map (·.1)):=aEP (a1g (a1h y1));obtain⟨a,a1,a2,a3⟩:=h _ _ c2 (by omega)
     exact⟨a,⟨y,y1,a2⟩,a3,cs',a1,fun j c hj=>by rw [<- hz];exact aIl (aHG c1 j c hj)⟩
    obtain⟨r,r1,r2⟩:=aEJ (List.range len) each2;have rl:r.length=len:=by simpa using r1
    have r3:∀ i,i<len->∃ a,r[i]? =some a/\(∃ y,es[i]? =some y/\μ a<=Rows.uptoBulk y.1)/\S a/\T.at (jF W) (p.add (i*T.sz)) a:=fun i hi=>r2 i i (by simp [hi])
    obtain⟨m1,m2⟩:=aDH (μ:=μ) (r:=r) (ds:=es.map (·.1)) (by simp [rl,l1]) (fun i d a hd ha=>by
     obtain⟨a',a1,⟨y,y1,y2⟩,_⟩:=r3 i (by have:=(a0K.1 ha).1;omega)
     rw [ha]at a1;cases a1
     rw [a0L,y1]at hd;cases hd
     exact y2)
    refine⟨r,⟨_,[],rfl,⟨fun i=>p.add (i*T.sz),⟨some p,cap,by rw [rl],by rw [rl];exact hc.2.1,fun i _=>⟨p,rfl,rfl⟩⟩,by omega,fun i a ha=>?_⟩,rfl⟩,by simp only [Rows.uptoBulk];omega,by omega,fun a ha=>?_⟩
    ·obtain⟨a',a1,_,_,a2⟩:=r3 i (by have:=(a0K.1 ha).1;omega)
     rw [ha]at a1;cases a1;exact a2
    ·obtain⟨i,hi,rfl⟩:=List.mem_iff_getElem.1 ha;obtain⟨a',a1,_,a2,_⟩:=r3 i (by omega)
     rw [a0I hi]at a1;cases a1;exact a2
  ·cases hx
theorem Rd.mono {n:Nat} {α:Type} {T:Ty α} {t:TypeId} {μ ν:α->Nat} {S R:α->Prop} (h:Rd enc P W n T t μ S) (hμ:∀ a,ν a<=μ a) (hS:∀ a,S a->μ a<=1048576->R a):Rd enc P W n T t ν R:=fun cs x hx hb=>by
 obtain⟨a,a1,a2,a3⟩:=h cs x hx hb
 exact⟨a,a1,a1C (hμ a) a2,hS a a3 (by omega)⟩
theorem arg_st {α:Type} {T:Ty α} {t:TypeId} {μ:α->Nat} {S:α->Prop} {fs:Array Field} {r:Reach} {b0:Nat} {v:Value} {d:DataW H} {ps:List MemPlace} (h:∀ n,Rd enc P W n T t μ S) (ht:P.underlying t=some (.struct fs)) (hval:Value.okWide P W r b0 t v)
 (hd:DataW.Trod enc P W 0 (fun _=>true) true t v d ps) (hb:Rows.uptoBulk d<=1048576):∃ a,(fSt T a).p (jF W) v/\S a:=by
 unfold Value.okWide at hval
 rw [ht]at hval
 obtain⟨cs,rfl,_⟩:=hval
 obtain⟨n,hn⟩:=hd
 obtain⟨a,a1,_,a2⟩:=h n _ _ hn hb
 exact⟨a,⟨cs.toList,by simp,a1⟩,a2⟩
end
end Go.Proofs.YtgidgoahhepmlaaGreat
