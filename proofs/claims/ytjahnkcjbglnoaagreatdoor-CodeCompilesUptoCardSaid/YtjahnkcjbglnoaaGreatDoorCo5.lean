/- Parts of the proof: lemmas, and the steps through the program. -/
import Derived.Test.YtjahnkcjbglnoaaGreatDoorCo4
import Derived.Test.YtjahnkcjbglnoaaGreatDoorRows
import Derived.ChangeSame
import Derived.ChangeReads
import Derived.ReadAgain
import Derived.ChangeStays
import Derived.ChangeBears
set_option linter.unusedVariables false
set_option linter.unusedSimpArgs false
set_option maxRecDepth 100000
set_option maxHeartbeats 2000000
namespace Go.Proofs.YtjahnkcjbglnoaaGreatDoor
open Go.SX Go.SW Go.Dt
def ob (l:List Bool):List Int:=l.map fun b=>if b=true then 1 else 0
theorem iS {l:List Bool}:(ob l).length=l.length:=by simp [ob]
theorem aBT {l:List Bool} {i:Int} {b:Bool} (h:idx l i=some b):idx (ob l) i=some (if b=true then 1 else 0):=by
 obtain⟨j,rfl,hj,_⟩:=uB h
 exact fR (by simp [ob,hj])
theorem ob_set {l:List Bool} {i:Nat}:ob (l.set i true)=(ob l).set i 1:=by simp [ob,List.map_set]
theorem ob_rep {n:Nat}:ob (List.replicate n false)=List.replicate n 0:=by simp [ob]
def ROut (p:ScopeProg) (o:Option VS) (L:Ref03_look):Prop:=match o with
 | some s=>L=⟨p,s.sz,ob s.met,ob s.dfs,false⟩
 | none=>L.bad=true ∧ L.owner.length=p.Nodes.length ∧ L.users.length=p.Defs.length
structure RVis (p:ScopeProg) (f:Nat) (rec:Ref03_look → Int → Int → Option Ref03_look):Prop where
 run:∀ (s:VS) (n z:Int),WS p s → unm s ≤ f → 0 ≤ z → z+80*f ≤ 100000 → ∃ L,rec ⟨p,s.sz,ob s.met,ob s.dfs,false⟩ n z=some L ∧ ROut p (vis p f s n z) L
theorem aHe {ch:List ScopeChan} {sp:List ScopeSpot} {ru:List ScopeRule} {a nd:Int} (suf:List Int):∀ (pre:List Int) (k:Nat) (w:Int),suf.length<k → pre.length+suf.length ≤ 1000 → 0 ≤ w → w ≤ 100000 → (∀ c∈suf,∃ y,idx ch c=some y ∧ 0 ≤ y.Many ∧ y.Many ≤ 3) → w+3*suf.length ≤ 100000 →
 oQ ⟨ch,sp,ru⟩ ⟨a,pre++suf,nd⟩ k w pre.length=some (w+brs ch suf):=by
 induction suf with
 | nil=>
  intro pre k w hk _ _ _ _ _;obtain _ | k:=k
  ·omega
  rw [oQ,if_neg (by simp)];simp [brs]
 | cons e suf ih=>
  intro pre k w hk hB h0 h1 hm hw;obtain _ | k:=k
  ·omega
  simp only [List.length_cons]at hk hB hw;obtain⟨y,g1,g2,g3⟩:=hm e (.head _);rw [oQ,if_pos (bX _ _ _)];dsimp only
  rw [bL,bsm,g1,bsm,aU (by omega),bsm,aU (by omega),bsm,eB pre suf e,bN pre e,ih (pre++[e]) k _ (by omega) (by simp;omega) (by omega) (by omega) (fun c hc=>hm c (.tail _ hc)) (by omega)];simp only [brs,g1];congr 1;omega
theorem more_eq {fuel:Nat} {d:ScopeDef} {r:ScopeRule} (hf:3000 ≤ fuel) (h:okD d=true) (hr:r∈d.Rules):wG fuel d r=some (brs d.Chans r.Joins):=by
 obtain⟨_,_,_,_,h5⟩:=qM h
 obtain⟨g1,g2⟩:=h5 r hr
 have:=aHe (ch:=d.Chans) (sp:=d.Spots) (ru:=d.Rules) (a:=r.At) (nd:=r.Node) r.Joins [] fuel 0 (by omega) (by simp;omega) (by omega) (by omega) g2 (by omega)
 simp only [List.nil_append,List.length_nil,Int.natCast_zero]at this
 rw [wG,this,bsm];congr 1;omega
theorem qE {rec:Ref03_look → Int → Int → Option Ref03_look} {y:ScopeNode} {z i:Int} {k:Nat} {a:List ByteArray} {b:List ScopeNode} {c:List ScopeDef} {d:Int} {sz ow us:List Int}:
 iU rec y z (k+1) i a b c d sz ow us true=some ⟨⟨a,b,c,d⟩,sz,ow,us,true⟩:=by
 rw [iU];split
 ·rw [cond_true]
 ·rfl
theorem d1_bad {fuel:Nat} {rec:Ref03_look → Int → Int → Option Ref03_look} {y:ScopeDef} {z i:Int} {k:Nat} {a:List ByteArray} {b:List ScopeNode} {c:List ScopeDef} {d:Int} {sz ow us:List Int}:
 kO fuel rec y z (k+1) i a b c d sz ow us true=some (a,b,c,d,sz,ow,us,true):=by
 rw [kO];split
 ·rw [cond_true]
 ·rfl
theorem aCh {rec:Ref03_look → Int → Int → Option Ref03_look} {y:ScopeDef} {z i:Int} {k:Nat} {a:List ByteArray} {b:List ScopeNode} {c:List ScopeDef} {d:Int} {sz ow us:List Int}:
 kL rec y z (k+1) i a b c d sz ow us true=some ⟨⟨a,b,c,d⟩,sz,ow,us,true⟩:=by
 rw [kL];split
 ·rw [cond_true]
 ·rfl
section
variable {p:ScopeProg} {f:Nat} {rec:Ref03_look → Int → Int → Option Ref03_look}
theorem rk2 (hv:RVis p f rec) {op nn:Int} {ar:List ScopeExp} {z:Int} (hz:0 ≤ z ∧ z+80*f ≤ 100000) (suf:List Int):∀ (pre:List Int) (k:Nat) (s:VS),suf.length<k → pre.length+suf.length ≤ 3000000 → WS p s → unm s ≤ f →
 ∃ L,iU rec ⟨op,nn,ar,pre++suf⟩ z k pre.length p.Free p.Nodes p.Defs p.Main s.sz (ob s.met) (ob s.dfs) false=some L ∧ ROut p (cD (vis p f) s (suf.map fun k=>(k,z))) L:=by
 induction suf with
 | nil=>
  intro pre k s hk _ hs hu;obtain _ | k:=k
  ·omega
  exact⟨_,by rw [iU,if_neg (by simp)],rfl⟩
 | cons e suf ih=>
  intro pre k s hk hB hs hu;obtain _ | k:=k
  ·omega
  simp only [List.length_cons]at hk hB;obtain⟨L,h1,h2⟩:=hv.run s e z hs hu hz.1 hz.2;rw [iU,if_pos (bX _ _ _),cond_false];dsimp only
  rw [bL,bsm,show(⟨⟨p.Free,p.Nodes,p.Defs,p.Main⟩,s.sz,ob s.met,ob s.dfs,false⟩:Ref03_look)=⟨p,s.sz,ob s.met,ob s.dfs,false⟩from rfl,h1,bsm,aU (by omega),bsm,eB pre suf e,bN pre e];simp only [List.map_cons,cD];cases hc:vis p f s e z with
  | none=>
   rw [hc]at h2;obtain⟨g1,g2,g3⟩:=h2;obtain _ | k:=k
   ·omega
   rw [g1,qE];exact⟨_,rfl,rfl,g2,g3⟩
  | some s1=>
   rw [hc]at h2;have h2:L=_:=h2;subst h2;obtain⟨w1,u1⟩:=(visO p f).out _ _ _ _ hs hu hc;rw [bsm];exact ih (pre++[e]) k s1 (by omega) (by simp;omega) w1 (by omega)
theorem rd2 (hv:RVis p f rec) {ch:List ScopeChan} {ru:List ScopeRule} {z:Int} (hz:0 ≤ z ∧ z+80*f ≤ 100000) (suf:List ScopeSpot):∀ (pre:List ScopeSpot) (k:Nat) (s:VS),suf.length<k → pre.length+suf.length ≤ 3000000 → WS p s → unm s ≤ f →
 ∃ L,kL rec ⟨ch,pre++suf,ru⟩ z k pre.length p.Free p.Nodes p.Defs p.Main s.sz (ob s.met) (ob s.dfs) false=some L ∧ ROut p (cD (vis p f) s (suf.map fun y=>(y.Node,z))) L:=by
 induction suf with
 | nil=>
  intro pre k s hk _ hs hu;obtain _ | k:=k
  ·omega
  exact⟨_,by rw [kL,if_neg (by simp)],rfl⟩
 | cons e suf ih=>
  intro pre k s hk hB hs hu;obtain _ | k:=k
  ·omega
  simp only [List.length_cons]at hk hB;obtain⟨L,h1,h2⟩:=hv.run s e.Node z hs hu hz.1 hz.2;rw [kL,if_pos (bX _ _ _),cond_false];dsimp only
  rw [bL,bsm,show(⟨⟨p.Free,p.Nodes,p.Defs,p.Main⟩,s.sz,ob s.met,ob s.dfs,false⟩:Ref03_look)=⟨p,s.sz,ob s.met,ob s.dfs,false⟩from rfl,h1,bsm,aU (by omega),bsm,eB pre suf e,bN pre e];simp only [List.map_cons,cD];cases hc:vis p f s e.Node z with
  | none=>
   rw [hc]at h2;obtain⟨g1,g2,g3⟩:=h2;obtain _ | k:=k
   ·omega
   rw [g1,aCh];exact⟨_,rfl,rfl,g2,g3⟩
  | some s1=>
   rw [hc]at h2;have h2:L=_:=h2;subst h2;obtain⟨w1,u1⟩:=(visO p f).out _ _ _ _ hs hu hc;rw [bsm];exact ih (pre++[e]) k s1 (by omega) (by simp;omega) w1 (by omega)
abbrev T8:=List ByteArray × List ScopeNode × List ScopeDef × Int × List Int × List Int × List Int × Bool
def ROut8 (p:ScopeProg) (o:Option VS) (t:T8):Prop:=match o with
 | some s=>t=(p.Free,p.Nodes,p.Defs,p.Main,s.sz,ob s.met,ob s.dfs,false)
 | none=>t.2.2.2.2.2.2.2=true ∧ t.2.2.2.2.2.1.length=p.Nodes.length ∧ t.2.2.2.2.2.2.1.length=p.Defs.length
theorem rd1 (hv:RVis p f rec) {fuel:Nat} {d:ScopeDef} (hd:okD d=true) (hf:3000 ≤ fuel) {z:Int} (hz:0 ≤ z ∧ z+9+80*f ≤ 100000) (suf:List ScopeRule):∀ (pre:List ScopeRule) (k:Nat) (s:VS),d.Rules=pre++suf → suf.length<k → pre.length+suf.length ≤ 3000000 → WS p s → unm s ≤ f →
 ∃ t,kO fuel rec d z k pre.length p.Free p.Nodes p.Defs p.Main s.sz (ob s.met) (ob s.dfs) false=some t ∧ ROut8 p (cD (vis p f) s (suf.map fun r=>(r.Node,z+brs d.Chans r.Joins))) t:=by
 induction suf with
 | nil=>
  intro pre k s he hk _ hs hu;obtain _ | k:=k
  ·omega
  exact⟨_,by rw [kO,he,if_neg (by simp)],rfl⟩
 | cons e suf ih=>
  intro pre k s he hk hB hs hu;obtain _ | k:=k
  ·omega
  simp only [List.length_cons]at hk hB;have hmem:e∈d.Rules:=by rw [he];simp
  obtain⟨_,_,_,_,h5⟩:=qM hd;obtain⟨g1,g2⟩:=h5 e hmem;have hb:=aAB g2;obtain⟨L,h1,h2⟩:=hv.run s e.Node (z+brs d.Chans e.Joins) hs hu (by omega) (by omega)
  rw [kO,he,if_pos (bX _ _ _),← he,cond_false,show idx d.Rules (pre.length:Int)=some e from by rw [he];exact bL _ _ _,bsm,bsm,
   show(⟨d.Chans,d.Spots,d.Rules⟩:ScopeDef)=d from rfl,more_eq hf hd hmem,bsm,aU (by omega),bsm,
   show(⟨⟨p.Free,p.Nodes,p.Defs,p.Main⟩,s.sz,ob s.met,ob s.dfs,false⟩:Ref03_look)=⟨p,s.sz,ob s.met,ob s.dfs,false⟩from rfl,h1,bsm,aU (by omega),bsm,bN pre e]
  simp only [List.map_cons,cD];cases hc:vis p f s e.Node (z+brs d.Chans e.Joins)with
  | none=>
   rw [hc]at h2;obtain⟨g1,g2,g3⟩:=h2;obtain _ | k:=k
   ·omega
   rw [g1,d1_bad];exact⟨_,rfl,rfl,g2,g3⟩
  | some s1=>
   rw [hc]at h2;have h2:L=_:=h2;subst h2;obtain⟨w1,u1⟩:=(visO p f).out _ _ _ _ hs hu hc;rw [bsm];exact ih (pre++[e]) k s1 (by rw [he];simp) (by omega) (by simp;omega) w1 (by omega)
theorem rdef {m:Nat} (hv:RVis p f (eS m)) {d:ScopeDef} (hd:okD d=true) (hsm:smD d) (hm:3000000 ≤ m) {z:Int} (hz:0 ≤ z ∧ z+9+80*f ≤ 100000) {s:VS} (hs:WS p s) (hu:unm s ≤ f):
 ∃ L,mV (m+1) ⟨p,s.sz,ob s.met,ob s.dfs,false⟩ d z=some L ∧ ROut p ((cD (vis p f) s (d.Rules.map fun r=>(r.Node,z+brs d.Chans r.Joins))).bind fun s1=>cD (vis p f) s1 (d.Spots.map fun y=>(y.Node,z))) L:=by
 obtain⟨c1,c2,c3,_⟩:=hsm
 obtain⟨t,h1,h2⟩:=rd1 hv hd (fuel:=m) (by omega) hz d.Rules [] m s rfl (by omega) (by simp;omega) hs hu
 simp only [List.length_nil,Int.natCast_zero]at h1
 rw [mV,h1,bsm]
 cases hc:cD (vis p f) s (d.Rules.map fun r=>(r.Node,z+brs d.Chans r.Joins))with
 | none=>
  rw [hc]at h2;obtain⟨a,b,c,e,sz,ow,us,bd⟩:=t;obtain⟨g1,g2,g3⟩:=h2;dsimp only at g1 g2 g3
  subst g1;obtain⟨m,rfl⟩:∃ k,m=k+1:=⟨m - 1,by omega⟩
  dsimp only
  rw [aCh];exact⟨_,rfl,rfl,g2,g3⟩
 | some s1=>
  rw [hc]at h2;have h2:t=_:=h2;subst h2;obtain⟨w1,u1⟩:=lV (visO p f) _ _ _ hs hu hc;obtain⟨L,h3,h4⟩:=rd2 hv (ch:=d.Chans) (ru:=d.Rules) (z:=z) ⟨by omega,by omega⟩ d.Spots [] m s1 (by omega) (by simp;omega) w1 (by omega)
  simp only [List.nil_append,List.length_nil,Int.natCast_zero]at h3;exact⟨L,h3,h4⟩
theorem rdef_bad {m:Nat} (hm:0<m) {L:Ref03_look} (hb:L.bad=true) {d:ScopeDef} {z:Int}:mV (m+1) L d z=some L:=by
 obtain⟨k,rfl⟩:∃ k,m=k+1:=⟨m - 1,by omega⟩
 obtain⟨q,sz,ow,us,bd⟩:=L
 dsimp only at hb
 subst hb
 rw [mV]
 dsimp only
 rw [d1_bad,bsm]
 dsimp only
 rw [aCh]
end
theorem rn1_bad {fuel:Nat} {op nn:Int} {ks:List Int} {z:Int} (suf:List ScopeExp):∀ (pre:List ScopeExp) (k:Nat),suf.length<k → pre.length+suf.length ≤ 3000000 →
 iY fuel z ⟨op,nn,pre++suf,ks⟩ k pre.length true=some true:=by
 induction suf with
 | nil=>
  intro pre k hk _;obtain _ | k:=k
  ·omega
  rw [iY,if_neg (by simp)]
 | cons e suf ih=>
  intro pre k hk hB;obtain _ | k:=k
  ·omega
  simp only [List.length_cons]at hk hB;rw [iY,if_pos (bX _ _ _),cond_true,bsm,aU (by omega),bsm,eB pre suf e,bN pre e];exact ih (pre++[e]) k (by omega) (by simp;omega)
theorem rn1 {fuel:Nat} (hf:3000000 ≤ fuel) {op nn:Int} {ks:List Int} {z:Int} (suf:List ScopeExp):∀ (pre:List ScopeExp) (k:Nat),suf.length<k → pre.length+suf.length ≤ 3000000 → (∀ e∈suf,nE e ≤ 2000000) →
 iY fuel z ⟨op,nn,pre++suf,ks⟩ k pre.length false=some (!suf.all (okE z)):=by
 induction suf with
 | nil=>
  intro pre k hk _ _;obtain _ | k:=k
  ·omega
  rw [iY,if_neg (by simp)];rfl
 | cons e suf ih=>
  intro pre k hk hB he;obtain _ | k:=k
  ·omega
  simp only [List.length_cons]at hk hB;have hn:=he e (.head _);rw [iY,if_pos (bX _ _ _),cond_false,show(e :: suf).all (okE z)=(okE z e && suf.all (okE z))from rfl];dsimp only
  rw [bL,bsm,aF5 (by omega) (by omega),bsm,bsm,aU (by omega),bsm,eB pre suf e,bN pre e];cases h1:okE z e with
  | false=>exact rn1_bad suf (pre++[e]) k (by omega) (by simp;omega)
  | true=>
   rw [Bool.true_and];exact ih (pre++[e]) k (by omega) (by simp;omega) (fun x hx=>he x (.tail _ hx))
open Go.SX Go.SW Go.Dt
def tailR (fuel:Nat) (a0:Ref03_look) (a1 a2 z1:Int) (y5:ScopeNode):Option Ref03_look:=
 (iY fuel a2 y5 fuel 0 a0.bad).bind fun x1=>
 ((if y5.Op=2 then
   some (decide (y5.Op=2))
 else
  if y5.Op=6 then
   some (decide (y5.Op=6))
  else
   some (decide (y5.Op=8))).bind fun x16=>
 bif x16 then
  bif x1 then
   some (Sum.inl (a2,a0.p.Free,a0.p.Nodes,a0.p.Defs,a0.p.Main,a0.sizes.set a1.toNat a2,a0.owner.set a1.toNat z1,a0.users,true))
  else
   if y5.N<0 then
    some (Sum.inl (a2,a0.p.Free,a0.p.Nodes,a0.p.Defs,a0.p.Main,a0.sizes.set a1.toNat a2,a0.owner.set a1.toNat z1,a0.users,true))
   else
    some (Sum.inl (a2,a0.p.Free,a0.p.Nodes,a0.p.Defs,a0.p.Main,a0.sizes.set a1.toNat a2,a0.owner.set a1.toNat z1,a0.users,decide (a2 ≤ y5.N)))
 else
  if y5.Op=4 then
   if y5.N<0 then
    (some (⟨(⟨a0.p.Free,a0.p.Nodes,a0.p.Defs,a0.p.Main⟩:ScopeProg),a0.sizes.set a1.toNat a2,a0.owner.set a1.toNat z1,a0.users,true⟩:Ref03_look)).bind fun r=>some (Sum.inr r)
   else
    if (a0.p.Defs.length:Int) ≤ y5.N then
     (some (⟨(⟨a0.p.Free,a0.p.Nodes,a0.p.Defs,a0.p.Main⟩:ScopeProg),a0.sizes.set a1.toNat a2,a0.owner.set a1.toNat z1,a0.users,true⟩:Ref03_look)).bind fun r=>some (Sum.inr r)
    else
     (idx a0.users y5.N).bind fun y9=>
     if 0<y9 then
      (some (⟨(⟨a0.p.Free,a0.p.Nodes,a0.p.Defs,a0.p.Main⟩:ScopeProg),a0.sizes.set a1.toNat a2,a0.owner.set a1.toNat z1,a0.users,true⟩:Ref03_look)).bind fun r=>some (Sum.inr r)
     else
      (idx a0.users y5.N).bind fun y10=>
      (chk (y10+1)).bind fun z3=>
      (idx a0.users y5.N).bind fun _=>
      (idx a0.p.Defs y5.N).bind fun y12=>
      (uD y12).bind fun y13=>
      (chk (a2+y13)).bind fun z4=>
      (idx a0.p.Defs y5.N).bind fun y14=>
      ((mV fuel) (⟨(⟨a0.p.Free,a0.p.Nodes,a0.p.Defs,a0.p.Main⟩:ScopeProg),a0.sizes.set a1.toNat a2,a0.owner.set a1.toNat z1,a0.users.set y5.N.toNat z3,x1⟩:Ref03_look) y14 z4).bind fun y15=>
      some (Sum.inl (z4,y15.p.Free,y15.p.Nodes,y15.p.Defs,y15.p.Main,y15.sizes,y15.owner,y15.users,y15.bad))
  else
   bif x1 then
    some (Sum.inl (a2,a0.p.Free,a0.p.Nodes,a0.p.Defs,a0.p.Main,a0.sizes.set a1.toNat a2,a0.owner.set a1.toNat z1,a0.users,true))
   else
    some (Sum.inl (a2,a0.p.Free,a0.p.Nodes,a0.p.Defs,a0.p.Main,a0.sizes.set a1.toNat a2,a0.owner.set a1.toNat z1,a0.users,decide (y5.N≠0)))).bind fun o=>match o with
 | Sum.inr r=>some r
 | Sum.inl (x7,x8,x9,x10,x11,x12,x13,x14,x15)=>
 iU (eS fuel) y5 x7 fuel 0 x8 x9 x10 x11 x12 x13 x14 x15
theorem rown_eq {d:ScopeDef} (h:d.Chans.length ≤ 2000000) (h2:d.Spots.length ≤ 2000000):uD d=some (own d):=by
 rw [uD,aU (by omega),bsm];rfl
def jZ (p:ScopeProg) (s:VS) (x:ScopeNode) (z:Int):Prop:=
 if x.Op=2 ∨ x.Op=6 ∨ x.Op=8 then 0 ≤ x.N ∧ x.N<z else if x.Op=4 then 0 ≤ x.N ∧ x.N<(p.Defs.length:Int) ∧ idx s.dfs x.N=some false else x.N=0
section
variable {p:ScopeProg} {f m:Nat}
theorem iV {q:ScopeProg} {sz ow us:List Int} (h1:ow.length=p.Nodes.length) (h2:us.length=p.Defs.length):ROut p none ⟨q,sz,ow,us,true⟩:=⟨rfl,h1,h2⟩
open Classical in
theorem tailR_eq (hp:SmP p) (hall:∀ d∈p.Defs,okD d=true) (hm:3000001 ≤ m) (hv:RVis p f (eS m)) (hv':RVis p f (eS (m - 1))) {s:VS} (hs:WS p s) {n z:Int} {x:ScopeNode} (hx:x∈p.Nodes)
 (hun:∀ dfs,unm ⟨s.sz.set n.toNat z,s.met.set n.toNat true,dfs⟩ ≤ f) (hz:0 ≤ z ∧ z+69+80*f ≤ 100000):
 ∃ L,tailR m ⟨p,s.sz,ob s.met,ob s.dfs,false⟩ n z 1 x=some L ∧ ROut p (if x.Args.all (okE z)=true ∧ jZ p s x z then rest p f s n z x else none) L:=by
 obtain⟨op,nn,ar,ks⟩:=x
 obtain⟨g1,g2,g3⟩:=hp.args _ hx
 dsimp only at g1 g2 g3
 obtain⟨m',rfl⟩:∃ k,m=k+1:=⟨m - 1,by omega⟩
 simp only [Nat.add_sub_cancel]at hv'
 have e1:=rn1 (fuel:=m'+1) (by omega) (op:=op) (nn:=nn) (ks:=ks) (z:=z) ar [] (m'+1) (by omega) (by simp;omega) g3
 simp only [List.nil_append,List.length_nil,Int.natCast_zero]at e1
 have hsets:(ob s.met).set n.toNat 1=ob (s.met.set n.toNat true):=ob_set.symm
 have hl1:((ob s.met).set n.toNat 1).length=p.Nodes.length:=by simp [iS,hs.met]
 have hl2:(ob s.dfs).length=p.Defs.length:=by rw [iS,hs.dfs]
 rw [tailR]
 dsimp only
 rw [e1,bsm]
 have good:∀ (zz:Int) (s1:VS),0 ≤ zz → zz+80*f ≤ 100000 → WS p s1 → unm s1 ≤ f → ∃ L,iU (eS (m'+1)) ⟨op,nn,ar,ks⟩ zz (m'+1) 0 p.Free p.Nodes p.Defs p.Main s1.sz (ob s1.met) (ob s1.dfs) false=some L ∧ ROut p (cD (vis p f) s1 (ks.map fun k=>(k,zz))) L:=fun zz s1 a b c d=>by
  have:=rk2 hv (op:=op) (nn:=nn) (ar:=ar) (z:=zz) ⟨a,b⟩ ks [] (m'+1) s1 (by omega) (by simp;omega) c d
  simpa only [List.nil_append,List.length_nil,Int.natCast_zero] using this
 have w1:=(rP hs (p:=p) (i:=n.toNat) (j:=0) (z:=z)).1
 have hne4:op≠4 → rest p f s n z ⟨op,nn,ar,ks⟩=cD (vis p f) ⟨s.sz.set n.toNat z,s.met.set n.toNat true,s.dfs⟩ (ks.map fun k=>(k,z)):=fun h=>by rw [rest,if_neg h]
 by_cases o2:op=2 ∨ op=6 ∨ op=8
 ·have hb:((if op=2 then some (decide (op=2)) else if op=6 then some (decide (op=6)) else some (decide (op=8))):Option Bool)=some true:=by
   rcases o2 with rfl | rfl | rfl <;> rfl
  have hk:jZ p s ⟨op,nn,ar,ks⟩ z ↔ (0 ≤ nn ∧ nn<z):=by unfold jZ;rw [if_pos o2]
  rw [hb,bsm,cond_true];cases hall2:ar.all (okE z)with
  | false=>
   rw [Bool.not_false,cond_true,bsm];dsimp only
   rw [qE,if_neg (fun q=>by cases q.1)]
   exact⟨_,rfl,iV hl1 hl2⟩
  | true=>
   rw [Bool.not_true,cond_false];by_cases n0:nn<0
   ·rw [if_pos n0,bsm];dsimp only
    rw [qE,if_neg (fun q=>by have:=hk.1 q.2;omega)]
    exact⟨_,rfl,iV hl1 hl2⟩
   ·rw [if_neg n0,bsm];dsimp only
    by_cases n1:z ≤ nn
    ·rw [decide_eq_true n1,qE,if_neg (fun q=>by have:=hk.1 q.2;omega)]
     exact⟨_,rfl,iV hl1 hl2⟩
    ·rw [decide_eq_false n1,if_pos ⟨rfl,hk.2 ⟨by omega,by omega⟩⟩,hne4 (by omega),hsets];exact good z ⟨s.sz.set n.toNat z,s.met.set n.toNat true,s.dfs⟩ hz.1 (by omega) w1 (hun _)
 ·have hb:((if op=2 then some (decide (op=2)) else if op=6 then some (decide (op=6)) else some (decide (op=8))):Option Bool)=some false:=by
   rw [if_neg (by omega),if_neg (by omega),decide_eq_false (by omega)]
  rw [hb,bsm,cond_false];by_cases o4:op=4
  ·subst o4;have hk:jZ p s ⟨4,nn,ar,ks⟩ z ↔ (0 ≤ nn ∧ nn<(p.Defs.length:Int) ∧ idx s.dfs nn=some false):=by unfold jZ;rw [if_neg o2,if_pos rfl]
   rw [if_pos rfl];by_cases n0:nn<0
   ·rw [if_pos n0,bsm,bsm];dsimp only
    rw [if_neg (fun q=>by have:=hk.1 q.2;omega)]
    exact⟨_,rfl,iV hl1 hl2⟩
   ·rw [if_neg n0];by_cases n1:(p.Defs.length:Int) ≤ nn
    ·rw [if_pos n1,bsm,bsm];dsimp only
     rw [if_neg (fun q=>by have:=hk.1 q.2;omega)]
     exact⟨_,rfl,iV hl1 hl2⟩
    ·rw [if_neg n1];obtain⟨b,hbb⟩:=fG (xs:=s.dfs) (show 0 ≤ nn by omega) (by rw [hs.dfs];omega)
     obtain⟨d,hd⟩:=fG (xs:=p.Defs) (show 0 ≤ nn by omega) (by omega)
     have hok:=hall d (jL hd);have hsm:=hp.dfs d (jL hd);obtain⟨k1,k2,k3,_,_⟩:=qM hok;have hown:0 ≤ own d ∧ own d ≤ 60:=by unfold own;omega
     rw [aBT hbb,bsm];cases b with
     | true=>
      rw [if_pos rfl,if_pos (by omega),bsm,bsm];dsimp only
      rw [if_neg (fun q=>by have:=(hk.1 q.2).2.2;rw [hbb]at this;cases this)]
      exact⟨_,rfl,iV hl1 hl2⟩
     | false=>
      have hkk:jZ p s ⟨4,nn,ar,ks⟩ z:=hk.2 ⟨by omega,by omega,hbb⟩
      rw [if_neg Bool.false_ne_true,if_neg (by omega),bsm,aU (by omega),bsm,bsm,hd,bsm,rown_eq (by omega) (by omega),bsm,aU (by omega),bsm,bsm];have hsetd:(ob s.dfs).set nn.toNat (0+1)=ob (s.dfs.set nn.toNat true):=ob_set.symm;have w2:=(rP hs (p:=p) (i:=n.toNat) (j:=nn.toNat) (z:=z)).2;rw [hsets,hsetd];cases hall2:ar.all (okE z)with
      | false=>
       rw [Bool.not_false,rdef_bad (by omega) rfl,bsm,bsm];dsimp only
       rw [qE,if_neg (fun q=>by cases q.1)]
       exact⟨_,rfl,iV (by rw [← hsets];exact hl1) (by rw [iS];simp [hs.dfs])⟩
      | true=>
       rw [Bool.not_true,if_pos ⟨rfl,hkk⟩];obtain⟨L,h1,h2⟩:=rdef hv' hok hsm (by omega) (z:=z+own d) ⟨by omega,by omega⟩ w2 (hun (s.dfs.set nn.toNat true))
       rw [show(⟨⟨p.Free,p.Nodes,p.Defs,p.Main⟩,s.sz.set n.toNat z,ob (s.met.set n.toNat true),ob (s.dfs.set nn.toNat true),false⟩:Ref03_look)=⟨p,s.sz.set n.toNat z,ob (s.met.set n.toNat true),ob (s.dfs.set nn.toNat true),false⟩from rfl,h1,bsm,bsm];dsimp only
       have hres:rest p f s n z ⟨4,nn,ar,ks⟩=((cD (vis p f) ⟨s.sz.set n.toNat z,s.met.set n.toNat true,s.dfs.set nn.toNat true⟩ (d.Rules.map fun r=>(r.Node,z+own d+brs d.Chans r.Joins))).bind fun s1=>cD (vis p f) s1 (d.Spots.map fun y=>(y.Node,z+own d))).bind fun s2=>cD (vis p f) s2 (ks.map fun k=>(k,z+own d)):=by
        rw [rest,if_pos rfl];dsimp only;rw [hd,bsm,if_pos hok,Option.bind_assoc]
       rw [hres];cases hc:(cD (vis p f) ⟨s.sz.set n.toNat z,s.met.set n.toNat true,s.dfs.set nn.toNat true⟩ (d.Rules.map fun r=>(r.Node,z+own d+brs d.Chans r.Joins))).bind fun s1=>cD (vis p f) s1 (d.Spots.map fun y=>(y.Node,z+own d))with
       | none=>
        rw [hc]at h2;obtain⟨q1,q2,q3⟩:=h2;rw [q1,qE];exact⟨_,rfl,rfl,q2,q3⟩
       | some s2=>
        rw [hc]at h2;have h2:L=_:=h2;subst h2;obtain⟨s1,a1,a2⟩:=bind_some hc;obtain⟨b1,b2⟩:=lV (visO p f) _ _ _ w2 (hun _) a1;have:=hun (s.dfs.set nn.toNat true);obtain⟨c1,c2⟩:=lV (visO p f) _ _ _ b1 (by omega) a2
        rw [bsm];exact good (z+own d) s2 (by omega) (by omega) c1 (by omega)
  ·have hk:jZ p s ⟨op,nn,ar,ks⟩ z ↔ nn=0:=by unfold jZ;rw [if_neg o2,if_neg o4]
   rw [if_neg o4];cases hall2:ar.all (okE z)with
   | false=>
    rw [Bool.not_false,cond_true,bsm];dsimp only
    rw [qE,if_neg (fun q=>by cases q.1)]
    exact⟨_,rfl,iV hl1 hl2⟩
   | true=>
    rw [Bool.not_true,cond_false,bsm];dsimp only
    by_cases n1:nn≠0
    ·rw [decide_eq_true n1,qE,if_neg (fun q=>n1 (hk.1 q.2))];exact⟨_,rfl,iV hl1 hl2⟩
    ·rw [decide_eq_false n1,if_pos ⟨rfl,hk.2 (by omega)⟩,hne4 o4,hsets];exact good z ⟨s.sz.set n.toNat z,s.met.set n.toNat true,s.dfs⟩ hz.1 (by omega) w1 (hun _)
theorem aIg {op:Int} {k c:Nat} (h:shp op=some (k,c)):tY op=some (if c=1 then -1 else if c=2 then 1 else 0,(k:Int),true):=by
 unfold shp at h
 split at h
 ·rename_i h1;cases h;rcases h1 with rfl | rfl <;> rfl
 split at h
 ·rename_i h1;cases h;subst h1;rfl
 split at h
 ·rename_i h1;cases h;subst h1;rfl
 split at h
 ·rename_i h1;cases h;subst h1;rfl
 split at h
 ·rename_i h1;cases h;rcases h1 with rfl | rfl <;> rfl
 split at h
 ·rename_i h1;cases h;subst h1;rfl
 ·cases h
theorem aHu {op:Int} (h:shp op=none):tY op=some (0,0,false):=by
 unfold shp at h
 rw [tY]
 split at h;· cases h
 split at h;· cases h
 split at h;· cases h
 split at h;· cases h
 split at h;· cases h
 split at h;· cases h
 rename_i h1 h2 h3 h4 h5 h6
 rw [if_neg (by omega),bsm,decide_eq_false (by omega),cond_false,if_neg h3,if_neg h2,if_neg h4,if_neg h6,if_neg (by omega),bsm,decide_eq_false (by omega),cond_false]
def qW (c:Nat) (l:Nat):Prop:=if c=1 then l ≤ 3 else if c=2 then l=1 else l=0
theorem aA1 {s:VS} {x:ScopeNode} {z:Int} {k c:Nat} (h:shp x.Op=some (k,c)):okM p s x z c ↔ jZ p s x z ∧ qW c x.Args.length:=by
 have h0:=h
 unfold shp at h
 unfold jZ qW
 split at h
 ·rename_i h1;cases h;rw [if_neg (by omega),if_neg (by omega)];simp [okM]
 split at h
 ·rename_i h1;cases h;rw [if_neg (by omega),if_neg (by omega)];simp [okM]
 split at h
 ·rename_i h1;cases h;rw [if_pos (.inl h1)];simp [okM]
 split at h
 ·rename_i h1;cases h;rw [if_neg (by omega),if_neg (by omega)];simp [okM]
 split at h
 ·rename_i h1;cases h;rw [if_pos (.inr h1)];simp [okM]
 split at h
 ·rename_i h1;cases h;rw [if_neg (by omega),if_pos h1];simp [okM]
 ·cases h
open Classical in
theorem rnode_go (hp:SmP p) (hall:∀ d∈p.Defs,okD d=true) (hm:3000001 ≤ m) (hv:RVis p f (eS m)) (hv':RVis p f (eS (m - 1))) {s:VS} (hs:WS p s) {n z:Int} (hu:unm s ≤ f+1) (hz:0 ≤ z ∧ z+69+80*f ≤ 100000) (h:0 ≤ n ∧ n<(p.Nodes.length:Int) ∧ idx s.met n=some false):
 ∃ L,eS (m+1) ⟨p,s.sz,ob s.met,ob s.dfs,false⟩ n z=some L ∧ ROut p (vis p (f+1) s n z) L:=by
 obtain⟨x,hx⟩:=fG h.1 h.2.1
 obtain⟨v1,v2⟩:=vis_go (f:=f) (z:=z) h hx
 have hun:∀ dfs,unm ⟨s.sz.set n.toNat z,s.met.set n.toNat true,dfs⟩ ≤ f:=fun dfs=>by
  have:=aBo (p:=p) (z:=z) (dfs:=dfs) h.1 h.2.2;omega
 obtain⟨b,hb⟩:=fG (xs:=s.sz) h.1 (by rw [hs.sz];exact h.2.1)
 have hl1:((ob s.met).set n.toNat 1).length=p.Nodes.length:=by simp [iS,hs.met]
 have hl2:(ob s.dfs).length=p.Defs.length:=by rw [iS,hs.dfs]
 have hgo:=tailR_eq hp hall hm hv hv' hs (n:=n) (z:=z) (jL hx) hun hz
 rw [eS]
 dsimp only
 rw [if_neg (by omega),if_neg (by omega),aBT h.2.2,bsm,if_neg Bool.false_ne_true,if_neg (by omega),bsm,aU (by omega),bsm,bsm,hb,bsm,hx,bsm]
 cases hsh:shp x.Op with
 | none=>
  rw [aHu hsh,bsm];dsimp only
  rw [Bool.not_false,cond_true,bsm,bsm,v2 (by rintro⟨⟨k,c,g,_⟩,_⟩;rw [hsh]at g;cases g)];exact⟨_,rfl,iV hl1 hl2⟩
 | some kc=>
  obtain⟨k,c⟩:=kc;rw [aIg hsh,bsm];dsimp only
  rw [Bool.not_true,cond_false];by_cases hk:(x.Kids.length:Int)≠(k:Int)
  ·rw [if_pos hk,bsm,bsm,v2 (by rintro⟨⟨k',c',g,g2,_⟩,_⟩;rw [hsh]at g;cases g;omega)];exact⟨_,rfl,iV hl1 hl2⟩
  ·rw [if_neg hk];have hfin:(if x.Args.all (okE z)=true ∧ jZ p s x z then rest p f s n z x else none)=vis p (f+1) s n z ∨ ¬ qW c x.Args.length:=by
    by_cases ha:qW c x.Args.length
    ·left
     by_cases hq:x.Args.all (okE z)=true ∧ jZ p s x z
     ·rw [if_pos hq,v1 ⟨⟨k,c,hsh,by omega,(aA1 hsh).2 ⟨hq.2,ha⟩⟩,hq.1⟩]
     ·rw [if_neg hq,v2];rintro⟨⟨k',c',g,_,g3⟩,g4⟩
      rw [hsh]at g;cases g
      exact hq ⟨g4,((aA1 hsh).1 g3).1⟩
    ·exact .inr ha
   have hbad:¬ qW c x.Args.length → vis p (f+1) s n z=none:=fun ha=>v2 (by
    rintro⟨⟨k',c',g,_,g3⟩,_⟩
    rw [hsh]at g;cases g
    exact ha ((aA1 hsh).1 g3).2)
   obtain⟨L,e1,e2⟩:=hgo;by_cases ha:qW c x.Args.length
   ·rw [hfin.resolve_right (fun q=>q ha)]at e2;refine⟨L,?_,e2⟩;rw [← e1];unfold qW at ha;by_cases c1:c=1
    ·rw [if_pos c1]at ha ⊢;rw [if_pos (by omega),if_neg (by omega),if_neg (by omega),bsm];rfl
    ·rw [if_neg c1]at ha ⊢;by_cases c2:c=2
     ·rw [if_pos c2]at ha ⊢;rw [if_neg (by omega),if_pos (by omega),if_neg (by omega),bsm];rfl
     ·rw [if_neg c2]at ha ⊢;rw [if_neg (by omega),if_pos (by omega),if_neg (by omega),bsm];rfl
   ·rw [hbad ha];refine⟨⟨p,s.sz.set n.toNat z,(ob s.met).set n.toNat 1,ob s.dfs,true⟩,?_,iV hl1 hl2⟩;unfold qW at ha;by_cases c1:c=1
    ·rw [if_pos c1]at ha ⊢;rw [if_pos (by omega),if_pos (by omega),bsm,bsm];rfl
    ·rw [if_neg c1]at ha ⊢;by_cases c2:c=2
     ·rw [if_pos c2]at ha ⊢;rw [if_neg (by omega),if_pos (by omega),if_pos (by omega),bsm,bsm];rfl
     ·rw [if_neg c2]at ha ⊢;rw [if_neg (by omega),if_pos (by omega),if_pos (by omega),bsm,bsm];rfl
theorem aE9 {s:VS} (hs:WS p s) {n z:Int} (h:¬ (0 ≤ n ∧ n<(p.Nodes.length:Int) ∧ idx s.met n=some false)):∃ L,eS (m+1) ⟨p,s.sz,ob s.met,ob s.dfs,false⟩ n z=some L ∧ ROut p none L:=by
 have hl1:(ob s.met).length=p.Nodes.length:=by rw [iS,hs.met]
 have hl2:(ob s.dfs).length=p.Defs.length:=by rw [iS,hs.dfs]
 refine⟨⟨p,s.sz,ob s.met,ob s.dfs,true⟩,?_,iV hl1 hl2⟩
 rw [eS]
 dsimp only
 by_cases h0:n<0
 ·rw [if_pos h0]
 ·rw [if_neg h0];by_cases h1:(p.Nodes.length:Int) ≤ n
  ·rw [if_pos h1]
  ·rw [if_neg h1];obtain⟨b,hb⟩:=fG (xs:=s.met) (show 0 ≤ n by omega) (by rw [hs.met];omega)
   cases b with
   | false=>exact absurd ⟨by omega,by omega,hb⟩ h
   | true=>rw [aBT hb,bsm,if_pos rfl,if_pos (by omega)]
end
theorem rvis {p:ScopeProg} (hp:SmP p) (hall:∀ d∈p.Defs,okD d=true) (f:Nat):∀ g,3000003+2*f ≤ g → RVis p f (eS g):=by
 induction f with
 | zero=>
  intro g hg;obtain⟨g,rfl⟩:∃ k,g=k+1:=⟨g - 1,by omega⟩
  refine⟨fun s n z hs hu h0 h1=>?_⟩
  have h:¬ (0 ≤ n ∧ n<(p.Nodes.length:Int) ∧ idx s.met n=some false):=fun q=>by have:=aER q.2.2;omega
  rw [zI h];exact aE9 hs h
 | succ f ih=>
  intro g hg;obtain⟨g,rfl⟩:∃ k,g=k+1:=⟨g - 1,by omega⟩
  refine⟨fun s n z hs hu h0 h1=>?_⟩
  by_cases h:0 ≤ n ∧ n<(p.Nodes.length:Int) ∧ idx s.met n=some false
  ·exact rnode_go hp hall (m:=g) (by omega) (ih g (by omega)) (ih (g - 1) (by omega)) hs hu ⟨h0,by omega⟩ h
  ·rw [zI h];exact aE9 hs h
open Go.SX Go.SW Go.Dt
abbrev F:Nat:=4000000
theorem aEj:∀ x y:List UInt8,Op.bytesLess x y=(!(Op.bytesLess y x || decide (y=x)))
 | [],[]=>rfl
 | [],b :: y=>by simp [Op.bytesLess]
 | a :: x,[]=>by simp [Op.bytesLess]
 | a :: x,b :: y=>by
  have ih:=aEj x y;simp only [Op.bytesLess,ih];by_cases h1:a<b
  ·have h2:¬ b<a:=fun h=>by have:=UInt8.lt_trans h1 h;exact absurd this (by simp)
   have h3:b≠a:=fun h=>by subst h;exact absurd h1 (by simp)
   simp [h1,h2,h3]
  ·by_cases h2:b<a
   ·have h3:a≠b:=fun h=>by subst h;exact absurd h2 (by simp)
    simp [h1,h2,h3]
   ·have h3:a=b:=by
     have a1:=UInt8.not_lt.1 h1;have a2:=UInt8.not_lt.1 h2
     exact UInt8.le_antisymm a2 a1
    subst h3;simp
theorem slt_sle (a b:ByteArray):slt a b=!sle b a:=by
 have he:decide (b=a)=decide (b.toList=a.toList):=by
  rw [decide_eq_decide];exact⟨fun h=>by rw [h],fun h=>(by have:=(aBF (i:=b) (j:=a));rw [beq_iff_eq.2 h]at this;exact of_decide_eq_true this.symm)⟩
 unfold sle slt
 rw [he];exact aEj _ _
theorem aDO (s:ByteArray):∀ (k:Nat) (i:Int),pM s k i=iA s k i
 | 0,_=>rfl
 | k+1,i=>by
  rw [pM,iA];simp only [aDO s k]
theorem aEa {s:ByteArray} (hs:s.size ≤ 2000000):∀ (k i:Nat),s.size<k+i → i ≤ s.size → iA s k (i:Int)=some (.inr false) ∨ iA s k (i:Int)=some (.inl ())
 | 0,i,h,h2=>by omega
 | k+1,i,h,h2=>by
  rw [iA];by_cases hi:i<s.size
  ·have hx:sidx s (i:Int)=some ((s[i]'hi).toNat:Int):=by
    unfold sidx;rw [if_pos (by omega)];simp [hi]
   rw [if_pos (by omega),hx,bsm];by_cases c1:((s[i]'hi).toNat:Int)<97
   ·rw [if_pos c1];exact .inl rfl
   ·rw [if_neg c1,bsm];by_cases c2:122<((s[i]'hi).toNat:Int)
    ·rw [if_pos c2];exact .inl rfl
    ·rw [if_neg c2,aU (by omega),bsm];exact aEa hs k (i+1) (by omega) (by omega)
  ·rw [if_neg (by omega)];exact .inr rfl
theorem aDK {s:ByteArray} (hs:s.size ≤ 2000000):∀ (k k' i:Nat),s.size<k+i → s.size<k'+i → i ≤ s.size → iA s k (i:Int)=iA s k' (i:Int)
 | 0,_,i,h,_,h2=>by omega
 | _,0,i,_,h,h2=>by omega
 | k+1,k'+1,i,h,h',h2=>by
  rw [iA,iA];by_cases hi:i<s.size
  ·have e:=aDK hs k k' (i+1) (by omega) (by omega) (by omega)
   have e2:((i+1:Nat):Int)=(i:Int)+1:=by omega
   rw [e2]at e;simp only [aU (i:=(i:Int)+1) (by omega),bsm,e]
  ·rw [if_neg (by omega),if_neg (by omega)]
open Classical in
theorem has_loop {a:ByteArray} (suf:List ByteArray):∀ (pre:List ByteArray) (k:Nat),suf.length<k → pre.length+suf.length ≤ 3000000 → oM (pre++suf) a k pre.length=some (if a∈suf then .inr true else .inl ()):=by
 induction suf with
 | nil=>
  intro pre k hk _;obtain _ | k:=k
  ·omega
  rw [oM,if_neg (by simp),if_neg (by simp)]
 | cons e suf ih=>
  intro pre k hk hB;obtain _ | k:=k
  ·omega
  simp only [List.length_cons]at hk hB;rw [oM,if_pos (bX _ _ _),bL,bsm];by_cases he:e=a
  ·rw [if_pos he,if_pos (by simp [he])];rfl
  ·have hm:(a∈e :: suf) ↔ a∈suf:=by simp [Ne.symm he]
   rw [if_neg he,aU (by omega),bsm,eB pre suf e,bN pre e,ih (pre++[e]) k (by omega) (by simp;omega)];by_cases hs:a∈suf
   ·rw [if_pos hs,if_pos (hm.2 hs)]
   ·rw [if_neg hs,if_neg (fun q=>hs (hm.1 q))]
open Classical in
theorem pW {f:Nat} {l:List ByteArray} {a:ByteArray} (hf:3900000 ≤ f) (h:l.length ≤ 3000000):wR f l a=some (decide (a∈l)):=by
 have:=has_loop (a:=a) l [] f (by omega) (by simp;omega)
 simp only [List.nil_append,List.length_nil,Int.natCast_zero]at this
 rw [wR,this,bsm]
 by_cases hs:a∈l
 ·rw [if_pos hs];simp [hs]
 ·rw [if_neg hs];simp [hs]
theorem upd_get {g:aN ByteArray Bool} {k s:ByteArray}:(aN.upd g k true).get s=if s=k then some true else g.get s:=rfl
theorem aC2 {f:Nat} (hf:3900000 ≤ f) {s:ByteArray} (hs:s.size ≤ 2000000):∃ b,rJ F s=some b ∧ sQ f s=some b:=by
 have hl:=aEa hs F 0 (by show s.size<4000000+0;omega) (by omega)
 have hle:=aDK hs f F 0 (by omega) (by show s.size<4000000+0;omega) (by omega)
 simp only [Int.natCast_zero]at hl hle
 rw [rJ,sQ,aDO,hle]
 by_cases c1:(s.size:Int)<1
 ·rw [if_pos c1];refine⟨false,?_,rfl⟩;rcases hl with h | h <;> rw [h,bsm]
  dsimp only
  rw [if_neg (by omega)];rfl
 ·rw [if_neg c1];by_cases c2:8<(s.size:Int)
  ·rw [if_pos c2];refine⟨false,?_,rfl⟩;rcases hl with h | h <;> rw [h,bsm]
   dsimp only
   rw [if_pos (by omega),if_neg (by omega)];rfl
  ·rw [if_neg c2];rcases hl with h | h
   ·rw [h];exact⟨false,rfl,rfl⟩
   ·rw [h,bsm,bsm];dsimp only
    rw [if_pos (by omega),if_pos (by omega),pW hf (by simp),bsm];refine⟨_,?_,rfl⟩;rw [zT,bsm,bsm];congr 2
    simp only [upd_get,aN.none,List.mem_cons,List.not_mem_nil,or_false]
    repeat' split
    all_goals simp_all
def nm (s:ByteArray):Bool:=(rJ F s).getD false
theorem nm_p {s:ByteArray} (hs:s.size ≤ 2000000):rJ F s=some (nm s):=by
 obtain⟨b,h,_⟩:=aC2 (f:=F) (by decide) hs;unfold nm;rw [h];rfl
theorem nm_r {f:Nat} {s:ByteArray} (hs:s.size ≤ 2000000) (hf:3900000 ≤ f:=by decide):sQ f s=some (nm s):=by
 obtain⟨b,h,h2⟩:=aC2 hf hs;unfold nm;rw [h,h2];rfl
def okF:Option ByteArray → List ByteArray → Bool
 | _,[]=>true
 | q,s :: l=>nm s && (match q with | none=>true | some q=>slt q s) && okF (some s) l
theorem aEi {α:Type} {pre suf:List α} {y:α} (h:0<pre.length):∃ q,pre.getLast? =some q ∧ idx (pre++y :: suf) ((pre.length:Int) - 1)=some q:=by
 have hne:pre≠[]:=fun e=>by rw [e]at h;simp at h
 have hd:=List.dropLast_concat_getLast hne
 generalize pre.dropLast=d,pre.getLast hne=q at hd
 subst hd
 refine⟨q,by simp,?_⟩
 rw [show(((d++[q]).length:Int) - 1)=(d.length:Int)from by simp]
 exact fR (by simp)
theorem fl1 {nodes:List ScopeNode} {defs:List ScopeDef} {mn:Int} (suf:List ByteArray):∀ (pre:List ByteArray) (k:Nat),suf.length<k → pre.length+suf.length ≤ 3000000 → (∀ x∈suf,x.size ≤ 2000000) →
 mD F ⟨pre++suf,nodes,defs,mn⟩ k pre.length=some (if okF pre.getLast? suf=true then .inl () else .inr (.inr flaw)):=by
 induction suf with
 | nil=>
  intro pre k hk _ _;obtain _ | k:=k
  ·omega
  rw [mD,if_neg (by simp),if_pos (by rfl)]
 | cons e suf ih=>
  intro pre k hk hB hx;obtain _ | k:=k
  ·omega
  simp only [List.length_cons]at hk hB;have hgl:(pre++[e]).getLast? =some e:=by simp
  rw [mD,if_pos (bX _ _ _)];dsimp only
  rw [bL,bsm,nm_p (hx e (.head _)),bsm];have hst:okF pre.getLast? (e :: suf)=(nm e && (match pre.getLast? with | none=>true | some q=>slt q e) && okF (some e) suf):=by
   cases pre.getLast? <;> rfl
  cases hn:nm e with
  | false=>rw [hst,hn,Bool.false_and,Bool.false_and];rfl
  | true=>
   rw [cond_true];rw [hn,Bool.true_and]at hst;have hnext:=ih (pre++[e]) k (by omega) (by simp;omega) (fun x h=>hx x (.tail _ h))
   rw [hgl]at hnext;by_cases h0:(pre.length:Int)=0
   ·have:pre=[]:=List.eq_nil_of_length_eq_zero (by omega)
    subst this;have hst:okF ([]:List ByteArray).getLast? (e :: suf)=okF (some e) suf:=by rw [hst];rfl
    rw [if_pos h0,eQ,bsm,hst];dsimp only
    rw [bsm];dsimp only
    rw [aU (by simp),bsm,eB [] suf e,bN [] e,hnext]
   ·obtain⟨q,h1,h2⟩:=aEi (pre:=pre) (suf:=suf) (y:=e) (by omega)
    have hst:okF pre.getLast? (e :: suf)=(slt q e && okF (some e) suf):=by rw [hst,h1]
    rw [if_neg h0,aU (by omega),bsm,h2,bsm,hst];cases hl:slt q e with
    | false=>rfl
    | true=>
     rw [eQ,bsm,Bool.true_and];dsimp only
     rw [bsm];dsimp only
     rw [aU (by omega),bsm,eB pre suf e,bN pre e,hnext]
theorem fr_bad {f:Nat} {p:ScopeProg} (suf:List ByteArray):∀ (pre:List ByteArray) (k:Nat),p.Free=pre++suf → suf.length<k → pre.length+suf.length ≤ 3000000 → iQ f p k pre.length true=some true:=by
 induction suf with
 | nil=>
  intro pre k he hk _;obtain _ | k:=k
  ·omega
  rw [iQ,he,if_neg (by simp)]
 | cons e suf ih=>
  intro pre k he hk hB;obtain _ | k:=k
  ·omega
  simp only [List.length_cons]at hk hB;rw [iQ,he,if_pos (bX _ _ _),cond_true,bsm,aU (by omega),bsm,bN pre e];exact ih (pre++[e]) k (by rw [he];simp) (by omega) (by simp;omega)
theorem fr1 {f:Nat} (hf:3900000 ≤ f) {p:ScopeProg} (suf:List ByteArray):∀ (pre:List ByteArray) (k:Nat),p.Free=pre++suf → suf.length<k → pre.length+suf.length ≤ 3000000 → (∀ x∈suf,x.size ≤ 2000000) →
 iQ f p k pre.length false=some (!okF pre.getLast? suf):=by
 induction suf with
 | nil=>
  intro pre k he hk _ _;obtain _ | k:=k
  ·omega
  rw [iQ,he,if_neg (by simp)];rfl
 | cons e suf ih=>
  intro pre k he hk hB hx;obtain _ | k:=k
  ·omega
  simp only [List.length_cons]at hk hB;have hgl:(pre++[e]).getLast? =some e:=by simp
  have hst:okF pre.getLast? (e :: suf)=(nm e && (match pre.getLast? with | none=>true | some q=>slt q e) && okF (some e) suf):=by
   cases pre.getLast? <;> rfl
  have hnext:=ih (pre++[e]) k (by rw [he];simp) (by omega) (by simp;omega) (fun x h=>hx x (.tail _ h))
  have hbadn:=fr_bad (f:=f) (p:=p) suf (pre++[e]) k (by rw [he];simp) (by omega) (by simp;omega)
  rw [hgl]at hnext;rw [iQ,he,if_pos (bX _ _ _),cond_false,bL,bsm,nm_r (hx e (.head _)) hf,bsm,hst];cases hn:nm e with
  | false=>
   rw [Bool.not_false,cond_true,bsm,aU (by omega),bsm,bN pre e,hbadn];rfl
  | true=>
   rw [Bool.not_true,cond_false,Bool.true_and];by_cases h0:0<(pre.length:Int)
   ·obtain⟨q,h1,h2⟩:=aEi (pre:=pre) (suf:=suf) (y:=e) (by omega)
    have hst2:(match pre.getLast? with | none=>true | some q=>slt q e)=!sle e q:=by rw [h1];exact slt_sle q e
    rw [hst2,if_pos h0,bsm,aU (by omega),bsm,h2,bsm,bsm,aU (by omega),bsm,bN pre e];cases hl:sle e q with
    | true=>rw [hbadn];rfl
    | false=>rw [hnext];rfl
   ·have:pre=[]:=List.eq_nil_of_length_eq_zero (by omega)
    subst this;rw [if_neg h0,bsm,aU (by simp),bsm,bN [] e,hnext];simp
open Go.SX Go.SW Go.Dt
def start (p:ScopeProg):VS:=⟨List.replicate p.Nodes.length 0,List.replicate p.Nodes.length false,List.replicate p.Defs.length false⟩
open Classical in
noncomputable def eT (p:ScopeProg):Option VS:=
 if p.Free.length ≤ 12 ∧ p.Nodes.length ≤ 60 ∧ p.Defs.length ≤ 12 ∧ okF none p.Free=true then
  (vis p p.Nodes.length (start p) p.Main p.Free.length).bind fun s=>if s.met.all id=true ∧ s.dfs.all id=true then some s else none
 else none
theorem xD {p:ScopeProg}:WS p (start p):=⟨by simp [start],by simp [start],by simp [start]⟩
theorem wX {p:ScopeProg}:unm (start p)=p.Nodes.length:=by simp [unm,start,List.countP_replicate]
def GD (p:ScopeProg) (s:VS):Prop:=∀ i:Nat,s.dfs[i]? =some true → ∃ d,p.Defs[i]? =some d ∧ okD d=true
theorem vQ {p:ScopeProg} {g:VS → Int → Int → Option VS} (h:∀ s n z s',g s n z=some s' → GD p s → GD p s'):∀ (l:List (Int × Int)) (s s':VS),cD g s l=some s' → GD p s → GD p s'
 | [],s,s',e,h0=>by cases e;exact h0
 | x :: l,s,s',e,h0=>by
  obtain⟨s1,e1,e2⟩:=bind_some e;exact vQ h l s1 s' e2 (h _ _ _ _ e1 h0)
theorem vis_gd {p:ScopeProg} (f:Nat):∀ (s:VS) (n z:Int) (s':VS),vis p f s n z=some s' → GD p s → GD p s':=by
 induction f with
 | zero=>intro s n z s' h;simp [vis]at h
 | succ f ih=>
  intro s n z s' h h0;simp only [vis]at h;split at h
  ·obtain⟨x,_,h⟩:=bind_some h;split at h
   ·split at h
    ·obtain⟨d,hd,h⟩:=bind_some h;split at h
     ·rename_i hok;obtain⟨s1,e1,h⟩:=bind_some h;obtain⟨s2,e2,e3⟩:=bind_some h;refine vQ ih _ _ _ e3 (vQ ih _ _ _ e2 (vQ ih _ _ _ e1 ?_));intro i hi;by_cases hn:x.N.toNat=i
      ·obtain⟨j,hj,hj2,_⟩:=uB hd;rw [← hn,hj];simp only [Int.toNat_natCast];exact⟨d,hj2,hok⟩
      ·simp only [List.getElem?_set_ne hn]at hi;exact h0 i hi
     ·cases h
    ·exact vQ ih _ _ _ h h0
   ·cases h
  ·cases h
theorem aCJ {p:ScopeProg} {s:VS} (h:eT p=some s):∀ d∈p.Defs,okD d=true:=by
 unfold eT at h
 split at h
 ·obtain⟨s1,h1,h2⟩:=bind_some h;split at h2
  ·rename_i hc;cases h2;have hg:=vis_gd _ _ _ _ _ h1 (fun i hi=>by simp [start,List.getElem?_replicate]at hi)
   have hw:=((visO p p.Nodes.length).out _ _ _ _ xD (by rw [wX];exact Nat.le_refl _) h1).1
   intro d hd;obtain⟨i,hi⟩:=List.mem_iff_getElem?.1 hd;have hlt:=(List.getElem?_eq_some_iff.1 hi).1;have hlt2:i<s.dfs.length:=by rw [hw.dfs];exact hlt
   have ht:s.dfs[i]=true:=List.all_eq_true.1 hc.2 _ (List.getElem_mem hlt2);obtain⟨d',h3,h4⟩:=hg i (by rw [List.getElem?_eq_getElem hlt2,ht])
   rw [hi]at h3;cases h3;exact h4
  ·cases h2
 ·cases h
theorem aG1 (suf:List Bool):∀ (pre:List Bool) (k:Nat),suf.length<k → pre.length+suf.length ≤ 3000000 → ∃ r,oG (pre++suf) false k pre.length=some r ∧ ((suf.all id=false ∧ ∃ i:Int,r= .inr i ∧ 0 ≤ i) ∨ (suf.all id=true ∧ r= .inl ())):=by
 induction suf with
 | nil=>
  intro pre k hk _;obtain _ | k:=k
  ·omega
  exact⟨_,by rw [oG,if_neg (by simp)], .inr ⟨rfl,rfl⟩⟩
 | cons e suf ih=>
  intro pre k hk hB;obtain _ | k:=k
  ·omega
  simp only [List.length_cons]at hk hB;rw [oG,if_pos (bX _ _ _),bL,bsm];cases e with
  | false=>exact⟨_,rfl, .inl ⟨rfl,_,rfl,by omega⟩⟩
  | true=>
   rw [show(false==true)=false from rfl,cond_false,aU (by omega),bsm,eB pre suf true,bN pre true];obtain⟨r,h1,h2⟩:=ih (pre++[true]) k (by omega) (by simp;omega)
   exact⟨r,h1,by simpa using h2⟩
theorem aCR {l:List Bool} (h:l.length ≤ 3000000):uE F l false=some (!l.all id):=by
 obtain⟨r,h1,h2⟩:=aG1 l [] F (by show l.length<4000000;omega) (by simp;omega)
 simp only [List.nil_append,List.length_nil,Int.natCast_zero]at h1
 rw [uE,aAC,h1]
 rcases h2 with⟨h2,i,rfl,h3⟩ | ⟨h2,rfl⟩
 ·rw [h2];simp [h3]
 ·rw [h2];rfl
theorem aE8 {p:ScopeProg} (hp:SmP p):yJ F p=some (jY p (eT p)):=by
 obtain⟨fr,nodes,defs,mn⟩:=p
 have hf:=hp.free;have hn:=hp.nodes;have hd:=hp.defs
 dsimp only at hf hn hd
 rw [yJ]
 dsimp only
 unfold eT
 dsimp only
 by_cases l1:fr.length ≤ 12
 ·rw [if_pos (by omega)];by_cases l2:nodes.length ≤ 60
  ·rw [if_pos (by omega)];by_cases l3:defs.length ≤ 12
   ·rw [decide_eq_true (by omega),eQ,bsm,bsm];dsimp only
    have e1:mD F ⟨fr,nodes,defs,mn⟩ F 0=some (if okF none fr=true then .inl () else .inr (.inr flaw)):=fl1 (nodes:=nodes) (defs:=defs) (mn:=mn) fr [] F (by show fr.length<4000000;omega) (by simp;omega) hp.names
    rw [e1,bsm];by_cases hok:okF none fr=true
    ·rw [if_pos hok,if_pos ⟨l1,l2,l3,hok⟩];dsimp only
     have hmk:∀ {α:Type} (a:α) (k:Nat),k ≤ 60 → mk a (k:Int)=some (List.replicate k a):=fun a k hk=>by unfold mk;rw [if_pos (by omega)];simp
     rw [hmk 0 _ l2,bsm,hmk false _ l2,bsm,hmk false _ (by omega),bsm];have hv:=pvis hp (b:=4000000 - nodes.length - 1) (by omega) nodes.length
     rw [show 4000000 - nodes.length - 1+nodes.length+1=F from by show _=4000000;omega]at hv
     have hrun:=hv.run (start ⟨fr,nodes,defs,mn⟩) mn fr.length xD (by rw [wX];exact Nat.le_refl _) (by omega) (by omega)
     rw [show(⟨⟨fr,nodes,defs,mn⟩,List.replicate nodes.length 0,List.replicate nodes.length false,List.replicate defs.length false⟩:Scope_looker)=⟨⟨fr,nodes,defs,mn⟩,(start ⟨fr,nodes,defs,mn⟩).sz,(start ⟨fr,nodes,defs,mn⟩).met,(start ⟨fr,nodes,defs,mn⟩).dfs⟩from rfl,hrun,bsm];cases hc:vis ⟨fr,nodes,defs,mn⟩ nodes.length (start ⟨fr,nodes,defs,mn⟩) mn fr.length with
     | none=>rfl
     | some s=>
      obtain⟨w,_⟩:=(visO _ _).out _ _ _ _ xD (by rw [wX];exact Nat.le_refl _) hc
      have wm:s.met.length=nodes.length:=w.met;have wd:s.dfs.length=defs.length:=w.dfs;simp only [jY];rw [bsm,aCR (by omega),bsm];cases hm:s.met.all id with
      | false=>rw [if_neg (fun q=>by cases q.1)];rfl
      | true=>
       rw [Bool.not_true,Bool.not_false,cond_true,aCR (by omega),bsm];cases hm2:s.dfs.all id with
       | false=>rw [if_neg (fun q=>by cases q.2)];rfl
       | true=>rw [if_pos ⟨rfl,rfl⟩];rfl
    ·rw [if_neg hok,if_neg (fun q=>hok q.2.2.2)];rfl
   ·rw [decide_eq_false (by omega),cQ,if_neg (fun q=>l3 q.2.2.1)];rfl
  ·rw [if_neg (by omega),cQ,if_neg (fun q=>l2 q.2.1)];rfl
 ·rw [if_neg (by omega),cQ,if_neg (fun q=>l1 q.1)];rfl
theorem aFy {f:Nat} {p:ScopeProg} (suf:List ScopeDef):∀ (pre:List ScopeDef) (k:Nat),p.Defs=pre++suf → suf.length<k → pre.length+suf.length ≤ 3000000 → kF f p k pre.length true=some true:=by
 induction suf with
 | nil=>
  intro pre k he hk _;obtain _ | k:=k
  ·omega
  rw [kF,he,if_neg (by simp)]
 | cons e suf ih=>
  intro pre k he hk hB;obtain _ | k:=k
  ·omega
  simp only [List.length_cons]at hk hB;rw [kF,he,if_pos (bX _ _ _),cond_true,bsm,aU (by omega),bsm,bN pre e];exact ih (pre++[e]) k (by rw [he];simp) (by omega) (by simp;omega)
theorem al2 {f:Nat} (hf:3900000 ≤ f) {p:ScopeProg} (hp:SmP p) (suf:List ScopeDef):∀ (pre:List ScopeDef) (k:Nat),p.Defs=pre++suf → suf.length<k → pre.length+suf.length ≤ 3000000 → kF f p k pre.length false=some (!suf.all okD):=by
 induction suf with
 | nil=>
  intro pre k he hk _;obtain _ | k:=k
  ·omega
  rw [kF,he,if_neg (by simp)];rfl
 | cons e suf ih=>
  intro pre k he hk hB;obtain _ | k:=k
  ·omega
  simp only [List.length_cons]at hk hB;have hmem:e∈p.Defs:=by rw [he];simp
  rw [kF,he,if_pos (bX _ _ _),cond_false,bL,bsm,rdef_eq (by omega) (hp.dfs e hmem),bsm,bsm,aU (by omega),bsm,bN pre e];cases h:okD e with
  | false=>rw [Bool.not_false,aFy suf (pre++[e]) k (by rw [he];simp) (by omega) (by simp;omega),show(e :: suf).all okD=(okD e && suf.all okD)from rfl,h];rfl
  | true=>rw [Bool.not_true,ih (pre++[e]) k (by rw [he];simp) (by omega) (by simp;omega),show(e :: suf).all okD=(okD e && suf.all okD)from rfl,h,Bool.true_and]
theorem aCX {L:Ref03_look} (suf:List Int):∀ (pre:List Int) (k:Nat),L.owner=pre++suf → suf.length<k → pre.length+suf.length ≤ 3000000 → jQ L k pre.length true=some true:=by
 induction suf with
 | nil=>
  intro pre k he hk _;obtain _ | k:=k
  ·omega
  rw [jQ,he,if_neg (by simp)]
 | cons e suf ih=>
  intro pre k he hk hB;obtain _ | k:=k
  ·omega
  simp only [List.length_cons]at hk hB;rw [jQ,he,if_pos (bX _ _ _),cond_true,bsm,aU (by omega),bsm,bN pre e];exact ih (pre++[e]) k (by rw [he];simp) (by omega) (by simp;omega)
theorem aB9 {L:Ref03_look} (suf:List Int):∀ (pre:List Int) (k:Nat),L.users=pre++suf → suf.length<k → pre.length+suf.length ≤ 3000000 → kD L k pre.length true=some true:=by
 induction suf with
 | nil=>
  intro pre k he hk _;obtain _ | k:=k
  ·omega
  rw [kD,he,if_neg (by simp)]
 | cons e suf ih=>
  intro pre k he hk hB;obtain _ | k:=k
  ·omega
  simp only [List.length_cons]at hk hB;rw [kD,he,if_pos (bX _ _ _),cond_true,bsm,aU (by omega),bsm,bN pre e];exact ih (pre++[e]) k (by rw [he];simp) (by omega) (by simp;omega)
theorem al3 {L:Ref03_look} (suf:List Bool):∀ (pre:List Int) (k:Nat),L.owner=pre++ob suf → suf.length<k → pre.length+suf.length ≤ 3000000 → jQ L k pre.length false=some (!suf.all id):=by
 induction suf with
 | nil=>
  intro pre k he hk _;obtain _ | k:=k
  ·omega
  rw [jQ,he,if_neg (by simp [ob])];rfl
 | cons e suf ih=>
  intro pre k he hk hB;obtain _ | k:=k
  ·omega
  simp only [List.length_cons]at hk hB;have hob:ob (e :: suf)=(if e=true then 1 else 0) :: ob suf:=rfl
  rw [hob]at he;have he2:=he;rw [eB]at he2;rw [jQ,he,if_pos (bX _ _ _),cond_false,bL,bsm,bsm,aU (by omega),bsm,bN pre (if e=true then 1 else 0)];cases e with
  | false=>
   rw [if_neg Bool.false_ne_true]at he2 ⊢;rw [decide_eq_true (by omega),aCX (ob suf) (pre++[0]) k he2 (by rw [iS];omega) (by rw [iS];simp;omega)];rfl
  | true=>
   rw [if_pos rfl]at he2 ⊢;rw [decide_eq_false (by omega),ih (pre++[1]) k he2 (by omega) (by simp;omega)];simp
theorem al4 {L:Ref03_look} (suf:List Bool):∀ (pre:List Int) (k:Nat),L.users=pre++ob suf → suf.length<k → pre.length+suf.length ≤ 3000000 → kD L k pre.length false=some (!suf.all id):=by
 induction suf with
 | nil=>
  intro pre k he hk _;obtain _ | k:=k
  ·omega
  rw [kD,he,if_neg (by simp [ob])];rfl
 | cons e suf ih=>
  intro pre k he hk hB;obtain _ | k:=k
  ·omega
  simp only [List.length_cons]at hk hB;have hob:ob (e :: suf)=(if e=true then 1 else 0) :: ob suf:=rfl
  rw [hob]at he;have he2:=he;rw [eB]at he2;rw [kD,he,if_pos (bX _ _ _),cond_false,bL,bsm,bsm,aU (by omega),bsm,bN pre (if e=true then 1 else 0)];cases e with
  | false=>
   rw [if_neg Bool.false_ne_true]at he2 ⊢;rw [decide_eq_true (by omega),aB9 (ob suf) (pre++[0]) k he2 (by rw [iS];omega) (by rw [iS];simp;omega)];rfl
  | true=>
   rw [if_pos rfl]at he2 ⊢;rw [decide_eq_false (by omega),ih (pre++[1]) k he2 (by omega) (by simp;omega)];simp
def AOut (p:ScopeProg) (o:Option VS) (L:Ref03_look):Prop:=match o with
 | some s=>L=⟨p,s.sz,ob s.met,ob s.dfs,false⟩
 | none=>L.bad=true
theorem jW {f:Nat} {p:ScopeProg} (hp:SmP p) (hfu:3900000 ≤ f:=by decide):∃ L,wM f p=some L ∧ AOut p (eT p) L:=by
 have hdefs:eT p≠none → ∀ d∈p.Defs,okD d=true:=fun h=>by
  cases hc:eT p with
  | none=>exact absurd hc h
  | some s=>exact aCJ hc
 obtain⟨fr,nodes,defs,mn⟩:=p
 have hf:=hp.free;have hn:=hp.nodes;have hd:=hp.defs
 dsimp only at hf hn hd
 rw [wM]
 dsimp only
 have hno:∀ (q:¬ (fr.length ≤ 12 ∧ nodes.length ≤ 60 ∧ defs.length ≤ 12 ∧ okF none fr=true)),eT ⟨fr,nodes,defs,mn⟩=none:=fun q=>by unfold eT;rw [if_neg q]
 by_cases l1:12<fr.length
 ·rw [if_pos (by omega),hno (fun q=>by omega)];exact⟨_,rfl,rfl⟩
 ·rw [if_neg (by omega)];by_cases l2:60<nodes.length
  ·rw [if_pos (by omega),hno (fun q=>by omega)];exact⟨_,rfl,rfl⟩
  ·rw [if_neg (by omega)];by_cases l3:12<defs.length
   ·rw [if_pos (by omega),hno (fun q=>by omega)];exact⟨_,rfl,rfl⟩
   ·rw [if_neg (by omega)];have e1:iQ f ⟨fr,nodes,defs,mn⟩ f 0 false=some (!okF none fr):=fr1 hfu (p:=⟨fr,nodes,defs,mn⟩) fr [] f rfl (by omega) (by simp;omega) hp.names
    have hmk:∀ (k:Nat),k ≤ 60 → mk (0:Int) (k:Int)=some (List.replicate k 0):=fun k hk=>by unfold mk;rw [if_pos (by omega)];simp
    rw [e1,bsm];cases hok:okF none fr with
    | false=>
     have e2:=aFy (f:=f) (p:=⟨fr,nodes,defs,mn⟩) defs [] f rfl (by omega) (by simp;omega)
     simp only [List.length_nil,Int.natCast_zero]at e2;rw [Bool.not_false,e2,bsm,hmk _ (by omega),bsm,bsm,hmk _ (by omega),bsm,cond_true,hno (fun q=>by rw [hok]at q;cases q.2.2.2)]
     exact⟨_,rfl,rfl⟩
    | true=>
     have e2:=al2 hfu hp (p:=⟨fr,nodes,defs,mn⟩) defs [] f rfl (by omega) (by simp;omega)
     simp only [List.length_nil,Int.natCast_zero]at e2;rw [Bool.not_true,e2,bsm,hmk _ (by omega),bsm,bsm,hmk _ (by omega),bsm];cases had:defs.all okD with
     | false=>
      have:eT ⟨fr,nodes,defs,mn⟩=none:=by
       cases hc:eT ⟨fr,nodes,defs,mn⟩with
       | none=>rfl
       | some s=>
        have:=List.all_eq_true.2 (hdefs (by rw [hc];simp))
        dsimp only at this
        rw [had]at this;cases this
      rw [this,Bool.not_false,cond_true];exact⟨_,rfl,rfl⟩
     | true=>
      rw [Bool.not_true,cond_false];have hv:=rvis hp (List.all_eq_true.1 had) nodes.length f (by omega)
      obtain⟨L,h1,h2⟩:=hv.run (start ⟨fr,nodes,defs,mn⟩) mn fr.length xD (by rw [wX];exact Nat.le_refl _) (by omega) (by omega)
      have hst:(⟨⟨fr,nodes,defs,mn⟩,List.replicate nodes.length 0,List.replicate nodes.length 0,List.replicate defs.length 0,false⟩:Ref03_look)=⟨⟨fr,nodes,defs,mn⟩,(start ⟨fr,nodes,defs,mn⟩).sz,ob (start ⟨fr,nodes,defs,mn⟩).met,ob (start ⟨fr,nodes,defs,mn⟩).dfs,false⟩:=by
       simp [start,ob_rep]
      rw [hst,h1,bsm];have hcv:eT ⟨fr,nodes,defs,mn⟩=(vis ⟨fr,nodes,defs,mn⟩ nodes.length (start ⟨fr,nodes,defs,mn⟩) mn fr.length).bind fun s=>if s.met.all id=true ∧ s.dfs.all id=true then some s else none:=by
       unfold eT;rw [if_pos ⟨by show fr.length ≤ 12;omega,by show nodes.length ≤ 60;omega,by show defs.length ≤ 12;omega,hok⟩]
      rw [hcv];cases hc:vis ⟨fr,nodes,defs,mn⟩ nodes.length (start ⟨fr,nodes,defs,mn⟩) mn fr.length with
      | none=>
       rw [hc]at h2;obtain⟨g1,g2,g3⟩:=h2;dsimp only at g2 g3
       have e3:=aCX (L:=L) L.owner [] f rfl (by rw [g2];omega) (by simp;omega)
       have e4:=aB9 (L:=L) L.users [] f rfl (by rw [g3];omega) (by simp;omega)
       simp only [List.length_nil,Int.natCast_zero]at e3 e4;rw [g1,e3,bsm,e4,bsm];exact⟨_,rfl,rfl⟩
      | some s=>
       rw [hc]at h2;have h2:L=_:=h2;subst h2;obtain⟨w,_⟩:=(visO _ _).out _ _ _ _ xD (by rw [wX];exact Nat.le_refl _) hc
       have wm:s.met.length=nodes.length:=w.met;have wd:s.dfs.length=defs.length:=w.dfs;have e3:=al3 (L:=⟨⟨fr,nodes,defs,mn⟩,s.sz,ob s.met,ob s.dfs,false⟩) s.met [] f rfl (by omega) (by simp;omega)
       simp only [List.length_nil,Int.natCast_zero]at e3;dsimp only
       rw [e3,bsm,bsm];cases hm:s.met.all id with
       | false=>
        have e4:=aB9 (L:=⟨⟨fr,nodes,defs,mn⟩,s.sz,ob s.met,ob s.dfs,false⟩) (ob s.dfs) [] f rfl (by rw [iS];omega) (by rw [iS];simp;omega)
        simp only [List.length_nil,Int.natCast_zero]at e4;rw [Bool.not_false,e4,bsm,if_neg (fun q=>by cases q.1)]
        exact⟨_,rfl,rfl⟩
       | true=>
        have e4:=al4 (L:=⟨⟨fr,nodes,defs,mn⟩,s.sz,ob s.met,ob s.dfs,false⟩) s.dfs [] f rfl (by omega) (by simp;omega)
        simp only [List.length_nil,Int.natCast_zero]at e4;rw [Bool.not_true,e4,bsm];cases hm2:s.dfs.all id with
        | false=>rw [if_neg (fun q=>by cases q.2)];exact⟨_,rfl,rfl⟩
        | true=>rw [if_pos ⟨rfl,rfl⟩];exact⟨_,rfl,rfl⟩
open Go.SX Go.SW Go.Dt
theorem aEd {p:ScopeProg} {sz:List Int} {met dfs:List Bool} (hl:sz.length=p.Nodes.length) (hB:sz.length ≤ 1000):∀ (d i k:Nat),i+d=sz.length → d<k → lR ⟨p,sz,met,dfs⟩ p (fun x=>rG x.1 x.2) k (sz.take i) i=some sz
 | 0,i,k,h,hk=>by
  obtain _ | k:=k
  ·omega
  rw [lR,if_neg (by omega),List.take_of_length_le (by omega)]
 | d+1,i,k,h,hk=>by
  obtain _ | k:=k
  ·omega
  have hi:i<sz.length:=by omega
  rw [lR,if_pos (by omega)];dsimp only
  rw [rG,show idx sz (i:Int)=some sz[i]from fR (List.getElem?_eq_getElem hi),bsm,bsm];have hr:dP (sz.take i++[sz[i]])=some (sz.take (i+1)):=by
   have:sz.take i++[sz[i]]=sz.take (i+1):=by rw [List.take_add_one,List.getElem?_eq_getElem hi];rfl
   rw [this];unfold dP;rw [if_pos (by simp;omega)]
  rw [hr,bsm,aU (by omega),bsm];exact aEd hl hB d (i+1) k (by omega) (by omega)
theorem sizes_eq {p:ScopeProg} (hp:SmP p) {s:VS} (h:eT p=some s) (hl:s.sz.length=p.Nodes.length) (hB:p.Nodes.length ≤ 60):sE F p=some (s.sz,0):=by
 have e:=aEd (p:=p) (sz:=s.sz) (met:=s.met) (dfs:=s.dfs) hl (by omega) s.sz.length 0 F (by omega) (by rw [hl];show _<4000000;omega)
 rw [List.take_zero]at e
 rw [sE,yE,wW,show(⟨p.Free,p.Nodes,p.Defs,p.Main⟩:ScopeProg)=p from rfl,aE8 hp,bsm,h]
 simp only [jY]
 rw [xC]
 have e':lR ⟨p,s.sz,s.met,s.dfs⟩ p (fun x=>rG x.1 x.2) F [] 0=some s.sz:=e
 rw [e',bsm,bsm,bsm,bsm]
abbrev E:=List (Option (Int × Int))
def chs (m:Int) (d:ScopeDef):E:=(List.range d.Chans.length).map fun c:Nat=>some (m,(c:Int))
def inE (e:E) (m:Int) (d:ScopeDef):E:=e++chs m d++List.replicate d.Spots.length none
def ruE (e:E) (m:Int) (d:ScopeDef) (r:ScopeRule):E:=inE e m d++List.replicate (brs d.Chans r.Joins).toNat none
def eG (p:ScopeProg) (x:ScopeNode) (e:E):List (Int × E):=
 if x.Op=4 then match idx p.Defs x.N with
  | some d=>d.Rules.map (fun r=>(r.Node,ruE e x.N d r))++(d.Spots.map (fun y=>(y.Node,inE e x.N d))++x.Kids.map (fun k=>(k,inE e x.N d)))
  | none=>[]
 else x.Kids.map (fun k=>(k,e))
def LN (p:ScopeProg):Nat → Int × E → List (Int × E)
 | 0,_=>[]
 | h+1,q=>q :: (match idx p.Nodes q.1 with | some x=>(eG p x q.2).flatMap (LN p h) | none=>[])
def HN (p:ScopeProg):Nat → Int × E → List (Int × Int)
 | 0,_=>[]
 | h+1,q=>match idx p.Nodes q.1 with | some x=>(if x.Op=4 then [(x.N,q.1)] else [])++(eG p x q.2).flatMap (HN p h) | none=>[]
def okT (p:ScopeProg) (x:ScopeNode) (size:Int):Prop:=
 ((x.Op=1 ∨ x.Op=7) ∧ x.Kids.length=0) ∨ ((x.Op=3 ∨ x.Op=5) ∧ x.Kids.length=2) ∨ (x.Op=2 ∧ x.Args.length ≤ 3 ∧ x.Kids.length=0 ∧ 0 ≤ x.N ∧ x.N<size) ∨ ((x.Op=6 ∨ x.Op=8) ∧ x.Kids.length=1) ∨ (x.Op=4 ∧ x.Kids.length=1 ∧ 0 ≤ x.N ∧ ∃ d,idx p.Defs x.N=some d ∧ okD d=true)
def Tr (p:ScopeProg):Nat → Int × E → Prop
 | 0,_=>False
 | h+1,q=>∃ x,idx p.Nodes q.1=some x ∧ 0 ≤ q.1 ∧ okT p x q.2.length ∧ ∀ k∈eG p x q.2,Tr p h k
structure Chg (s s':VS) (N:List (Int × E)) (D:List (Int × Int)):Prop where
 nn:(N.map (·.1)).Nodup
 dn:(D.map (·.1)).Nodup
 new:∀ q∈N,idx s.met q.1=some false ∧ idx s'.met q.1=some true ∧ idx s'.sz q.1=some (q.2.length:Int)
 newd:∀ q∈D,idx s.dfs q.1=some false ∧ idx s'.dfs q.1=some true
 old:∀ i,i ∉ N.map (·.1) → idx s'.met i=idx s.met i ∧ idx s'.sz i=idx s.sz i
 oldd:∀ i,i ∉ D.map (·.1) → idx s'.dfs i=idx s.dfs i
 ls:s'.sz.length=s.sz.length
 lm:s'.met.length=s.met.length
theorem Chg.nil {s:VS}:Chg s s [] []:=⟨List.nodup_nil,List.nodup_nil,fun i h=>(by cases h),fun i h=>(by cases h),fun i _=>⟨rfl,rfl⟩,fun i _=>rfl,rfl,rfl⟩
theorem Chg.trans {s s1 s2:VS} {N N':List (Int × E)} {D D':List (Int × Int)} (h:Chg s s1 N D) (k:Chg s1 s2 N' D'):Chg s s2 (N++N') (D++D'):=by
 have hd:∀ i∈N.map (·.1),i ∉ N'.map (·.1):=fun i hi hi'=>by
  obtain⟨q,hq,rfl⟩:=List.mem_map.1 hi;obtain⟨q',hq',e⟩:=List.mem_map.1 hi';have a:=(h.new q hq).2.1;have b:=(k.new q' hq').1;rw [e,a]at b;cases b
 have hdd:∀ i∈D.map (·.1),i ∉ D'.map (·.1):=fun i hi hi'=>by
  obtain⟨q,hq,rfl⟩:=List.mem_map.1 hi;obtain⟨q',hq',e⟩:=List.mem_map.1 hi';have a:=(h.newd q hq).2;have b:=(k.newd q' hq').1;rw [e,a]at b;cases b
 refine⟨?_,?_,fun q hq=>?_,fun q hq=>?_,fun i hi=>?_,fun i hi=>?_,by rw [k.ls,h.ls],by rw [k.lm,h.lm]⟩
 ·rw [List.map_append];exact List.nodup_append.2 ⟨h.nn,k.nn,fun a ha b hb e=>hd a ha (e ▸ hb)⟩
 ·rw [List.map_append];exact List.nodup_append.2 ⟨h.dn,k.dn,fun a ha b hb e=>hdd a ha (e ▸ hb)⟩
 ·rcases List.mem_append.1 hq with hq | hq
  ·have o:=k.old q.1 (hd _ (List.mem_map.2 ⟨q,hq,rfl⟩));obtain⟨a,b,c⟩:=h.new q hq;exact⟨a,by rw [o.1,b],by rw [o.2,c]⟩
  ·have o:=h.old q.1 (fun z=>hd _ z (List.mem_map.2 ⟨q,hq,rfl⟩))
   obtain⟨a,b,c⟩:=k.new q hq;exact⟨by rw [← o.1,a],b,c⟩
 ·rcases List.mem_append.1 hq with hq | hq
  ·have o:=k.oldd q.1 (hdd _ (List.mem_map.2 ⟨q,hq,rfl⟩));obtain⟨a,b⟩:=h.newd q hq;exact⟨a,by rw [o,b]⟩
  ·have o:=h.oldd q.1 (fun z=>hdd _ z (List.mem_map.2 ⟨q,hq,rfl⟩))
   obtain⟨a,b⟩:=k.newd q hq;exact⟨by rw [← o,a],b⟩
 ·rw [List.map_append,List.mem_append,not_or]at hi;have a:=h.old i hi.1;have b:=k.old i hi.2;exact⟨by rw [b.1,a.1],by rw [b.2,a.2]⟩
 ·rw [List.map_append,List.mem_append,not_or]at hi;rw [k.oldd i hi.2,h.oldd i hi.1]
def mark (s:VS) (n z:Int) (x:ScopeNode):VS:=⟨s.sz.set n.toNat z,s.met.set n.toNat true,if x.Op=4 then s.dfs.set x.N.toNat true else s.dfs⟩
theorem aBX {g:VS → Int → Int → Option VS}:∀ (l m:List (Int × Int)) (s:VS),cD g s (l++m)=(cD g s l).bind fun s=>cD g s m
 | [],m,s=>rfl
 | x :: l,m,s=>by
  simp only [List.cons_append,cD];cases g s x.1 x.2 with
  | none=>rfl
  | some s1=>exact aBX l m s1
theorem chs_len {m:Int} {d:ScopeDef}:(chs m d).length=d.Chans.length:=by simp [chs]
theorem xT {e:E} {m:Int} {d:ScopeDef}:((inE e m d).length:Int)=e.length+own d:=by simp only [inE,own,List.length_append,chs_len,List.length_replicate];omega
theorem ruE_len {e:E} {m:Int} {d:ScopeDef} {r:ScopeRule} (h:okD d=true) (hr:r∈d.Rules):((ruE e m d r).length:Int)=e.length+own d+brs d.Chans r.Joins:=by
 have b:=aAB (ch:=d.Chans) (js:=r.Joins) ((qM h).2.2.2.2 r hr).2
 rw [ruE,List.length_append,List.length_replicate]
 have:=xT (e:=e) (m:=m) (d:=d)
 omega
theorem aCv {p:ScopeProg} {f:Nat} {s s':VS} {n:Int} {e:E} (h:vis p (f+1) s n e.length=some s'):
 ∃ x,idx p.Nodes n=some x ∧ 0 ≤ n ∧ idx s.met n=some false ∧ okT p x e.length ∧ (x.Op=4 → idx s.dfs x.N=some false) ∧ cD (vis p f) (mark s n e.length x) ((eG p x e).map fun q=>(q.1,(q.2.length:Int)))=some s':=by
 simp only [vis]at h
 split at h
 ·rename_i h1;cases hx:idx p.Nodes n with
  | none=>rw [hx]at h;cases h
  | some x=>
   rw [hx,bsm]at h;split at h
   ·rename_i h2;refine⟨x,rfl,h1.1,h1.2.2,?_⟩;obtain⟨⟨k,c,hk,hl,hm⟩,_⟩:=h2;split at h
    ·rename_i h4;have hm':(0 ≤ x.N ∧ x.N<(p.Defs.length:Int) ∧ idx s.dfs x.N=some false) ∧ x.Args.length=0:=by
      rw [h4]at hk;simp [shp]at hk;obtain⟨rfl,rfl⟩:=hk;exact hm
     have hk1:x.Kids.length=1:=by
      rw [h4]at hk;simp [shp]at hk;omega
     cases hd:idx p.Defs x.N with
     | none=>rw [hd]at h;cases h
     | some d=>
      rw [hd,bsm]at h;split at h
      ·rename_i h5;refine⟨Or.inr (Or.inr (Or.inr (Or.inr ⟨h4,hk1,hm'.1.1,d,hd,h5⟩))),fun _=>hm'.1.2.2,?_⟩
       rw [eG,if_pos h4,hd,mark,if_pos h4];dsimp only
       rw [List.map_append,List.map_append,aBX];have e1:(d.Rules.map (fun r=>(r.Node,ruE e x.N d r))).map (fun q=>(q.1,(q.2.length:Int)))=d.Rules.map fun r=>(r.Node,(e.length:Int)+own d+brs d.Chans r.Joins):=by
        rw [List.map_map];exact List.map_congr_left fun r hr=>by show(r.Node,((ruE e x.N d r).length:Int))=_;rw [ruE_len h5 hr]
       have e2:(d.Spots.map (fun y=>(y.Node,inE e x.N d))).map (fun q=>(q.1,(q.2.length:Int)))=d.Spots.map fun y=>(y.Node,(e.length:Int)+own d):=by
        rw [List.map_map];exact List.map_congr_left fun r hr=>by show(r.Node,((inE e x.N d).length:Int))=_;rw [xT]
       have e3:(x.Kids.map (fun y=>(y,inE e x.N d))).map (fun q=>(q.1,(q.2.length:Int)))=x.Kids.map fun y=>(y,(e.length:Int)+own d):=by
        rw [List.map_map];exact List.map_congr_left fun r hr=>by show(r,((inE e x.N d).length:Int))=_;rw [xT]
       rw [e1,e2,e3];obtain⟨s1,a1,h⟩:=bind_some h;rw [a1,bsm,aBX];exact h
      ·cases h
    ·rename_i h4;refine⟨?_,fun q=>absurd q h4,?_⟩
     ·unfold shp at hk
      repeat' split at hk
      all_goals first | (cases hk;done) | skip
      all_goals cases hk
      ·left;exact⟨‹_›,hl⟩
      ·right;left;exact⟨Or.inl ‹_›,hl⟩
      ·right;right;left;exact⟨‹_›,hm.2,hl,hm.1.1,hm.1.2⟩
      ·right;left;exact⟨Or.inr ‹_›,hl⟩
      ·right;right;right;left;exact⟨‹_›,hl⟩
     ·rw [eG,if_neg h4,mark,if_neg h4,List.map_map];exact h
   ·cases h
 ·cases h
theorem aDP {p:ScopeProg} {f:Nat} (g:Nat) (ih:∀ (s s':VS) (q:Int × E),vis p f s q.1 q.2.length=some s' → s.sz.length=s.met.length → Chg s s' (LN p g q) (HN p g q) ∧ Tr p g q):∀ (l:List (Int × E)) (s s':VS),cD (vis p f) s (l.map fun q=>(q.1,(q.2.length:Int)))=some s' → s.sz.length=s.met.length → Chg s s' (l.flatMap (LN p g)) (l.flatMap (HN p g)) ∧ ∀ q∈l,Tr p g q
 | [],s,s',h,_=>by cases h;exact⟨Chg.nil,fun q h=>by cases h⟩
 | q :: l,s,s',h,w=>by
  simp only [List.map_cons,cD]at h;obtain⟨s1,h1,h2⟩:=bind_some h;obtain⟨a,b⟩:=ih s s1 q h1 w;obtain⟨c,d⟩:=aDP g ih l s1 s' h2 (by rw [a.ls,a.lm,w])
  refine⟨?_,fun q' hq'=>?_⟩
  ·simp only [List.flatMap_cons];exact a.trans c
  ·cases hq' with
   | head=>exact b
   | tail _ hq'=>exact d q' hq'
theorem zB {α:Type} {l:List α} {n:Int} {b:α} (h0:0 ≤ n) (h:n<l.length):idx (l.set n.toNat b) n=some b:=by
 have:idx (l.set n.toNat b) (n.toNat:Int)=some b:=fR (by rw [List.getElem?_set,if_pos rfl,if_pos (by omega)])
 rwa [Int.toNat_of_nonneg h0]at this
theorem aAU {α:Type} {l:List α} {n i:Int} {b:α} (h0:0 ≤ n) (h:i≠n):idx (l.set n.toNat b) i=idx l i:=by
 unfold idx
 split
 ·rename_i hi;exact List.getElem?_set_ne (by omega)
 ·rfl
theorem rT {α:Type} {l:List α} {n:Int} {a:α} (h:idx l n=some a):0 ≤ n ∧ n<l.length:=by
 by_cases c:0 ≤ n ∧ n<l.length
 ·exact c
 ·rw [aA3 c]at h;cases h
theorem mark_chg {s:VS} {n:Int} {e:E} {x:ScopeNode} (h0:0 ≤ n) (hm:idx s.met n=some false) (hd:x.Op=4 → idx s.dfs x.N=some false) (w:s.sz.length=s.met.length):Chg s (mark s n e.length x) [(n,e)] (if x.Op=4 then [(x.N,n)] else []):=by
 have l:=rT hm
 refine⟨(by simp),?_,fun q hq=>?_,fun q hq=>?_,fun i hi=>?_,fun i hi=>?_,by simp [mark],by simp [mark]⟩
 ·split
  ·simp
  ·simp
 ·cases hq with
  | head=>exact⟨hm,zB h0 l.2,zB h0 (by omega)⟩
  | tail _ hq=>cases hq
 ·split at hq
  ·rename_i h4;cases hq with
   | head=>exact⟨hd h4,by rw [mark,if_pos h4];exact zB (rT (hd h4)).1 (rT (hd h4)).2⟩
   | tail _ hq=>cases hq
  ·cases hq
 ·have:i≠n:=fun q=>hi (by rw [q];exact List.mem_singleton.2 rfl)
  exact⟨aAU h0 this,aAU h0 this⟩
 ·rw [mark];split at hi
  ·rename_i h4;have:i≠x.N:=fun q=>hi (by rw [q];exact List.mem_singleton.2 rfl)
   rw [if_pos h4];exact aAU (rT (hd h4)).1 this
  ·rename_i h4;rw [if_neg h4]
theorem aFk {p:ScopeProg}:∀ (f:Nat) (s s':VS) (q:Int × E),vis p f s q.1 q.2.length=some s' → s.sz.length=s.met.length → Chg s s' (LN p f q) (HN p f q) ∧ Tr p f q
 | 0,s,s',q,h,_=>by cases h
 | f+1,s,s',⟨n,e⟩,h,w=>by
  obtain⟨x,hx,h0,hm,hT,hD,hv⟩:=aCv h;have c:=mark_chg (e:=e) h0 hm hD w;obtain⟨a,b⟩:=aDP f (aFk f) _ _ _ hv (by rw [c.ls,c.lm,w])
  refine⟨?_,⟨x,hx,h0,hT,b⟩⟩;have t:=c.trans a;simp only [LN,HN,hx];exact t
open Go.SX Go.SW Go.Dt
variable {p:ScopeProg}
def eA (p:ScopeProg):Int × E:=(p.Main,List.replicate p.Free.length none)
theorem ok_def {x:ScopeNode} {z:Int} (hT:okT p x z) (h4:x.Op=4):0 ≤ x.N ∧ x.Kids.length=1 ∧ ∃ d,idx p.Defs x.N=some d ∧ okD d=true:=by
 rcases hT with h | h | h | h | ⟨_,h1,h0,h⟩
 ·omega
 ·omega
 ·omega
 ·omega
 ·exact⟨h0,h1,h⟩
theorem aA5 {s:VS} (h:eT p=some s):∃ H,p.Nodes.length=H ∧ H ≤ 60 ∧ p.Defs.length ≤ 12 ∧ p.Free.length ≤ 12 ∧ Tr p H (eA p) ∧ s.sz.length=p.Nodes.length ∧ ((LN p H (eA p)).map (·.1)).Nodup ∧ ((HN p H (eA p)).map (·.1)).Nodup ∧ (∀ q∈LN p H (eA p),idx s.sz q.1=some (q.2.length:Int)) ∧
 (∀ n:Int,0 ≤ n → n<p.Nodes.length → ∃ e,(n,e)∈LN p H (eA p)) ∧ ∀ d:Int,0 ≤ d → d<p.Defs.length → ∃ n,(d,n)∈HN p H (eA p):=by
 unfold eT at h
 split at h
 ·rename_i hb;obtain⟨s1,h1,h⟩:=bind_some h;split at h
  ·rename_i hm;cases h;have e1:(p.Free.length:Int)=((eA p).2.length:Int):=by simp [eA]
   rw [e1]at h1;obtain⟨c,t⟩:=aFk p.Nodes.length (start p) s (eA p) h1 (by simp [start])
   refine⟨_,rfl,hb.2.1,hb.2.2.1,hb.1,t,by rw [c.ls];simp [start],c.nn,c.dn,fun q hq=>(c.new q hq).2.2,fun n h0 hn=>?_,fun d h0 hn=>?_⟩
   ·apply Classical.byContradiction
    intro q;have hi:n ∉ (LN p p.Nodes.length (eA p)).map (·.1):=fun z=>by obtain⟨⟨a,e⟩,hq,rfl⟩:=List.mem_map.1 z;exact q ⟨e,hq⟩
    have o:=(c.old n hi).1;obtain⟨y,hy⟩:=fG (xs:=s.met) h0 (by rw [c.lm];simp [start];exact hn)
    have y1:y=true:=by have:=List.all_eq_true.1 hm.1 y (jL hy);exact this
    rw [hy,y1]at o;have:=jL o.symm;simp [start]at this
   ·apply Classical.byContradiction
    intro q;have hi:d ∉ (HN p p.Nodes.length (eA p)).map (·.1):=fun z=>by obtain⟨⟨a,e⟩,hq,rfl⟩:=List.mem_map.1 z;exact q ⟨e,hq⟩
    have o:=c.oldd d hi;have hs:idx (start p).dfs d=some false:=by
     obtain⟨y,hy⟩:=fG (xs:=(start p).dfs) h0 (by simp [start];exact hn)
     have:=jL hy;simp [start]at this;rw [hy,this.2]
    rw [hs]at o;have:=List.all_eq_true.1 hm.2 false (jL o);cases this
  ·cases h
 ·cases h
open Go.SX Go.SW Go.Dt
theorem b1 {α γ:Type} {T:Option α} {G:α → Option γ} {z:α} {r:Option γ} (h:T=some z) (k:G z=r):T.bind G=r:=by rw [h,bsm];exact k
theorem fM {α:Type} {xs:List α} (h:xs.length ≤ 1000000000):dP xs=some xs:=by unfold dP;rw [if_pos h]
def okA (x:ScopeNode) (z:Int):Prop:=x.Args.all (okE z)=true ∧ (x.Op=5 → x.Args.length=1) ∧ (x.Op=6 ∨ x.Op=8 → 0 ≤ x.N ∧ x.N<z)
def Ta (p:ScopeProg):Nat → Int × E → Prop
 | 0,_=>False
 | h+1,q=>∃ x,idx p.Nodes q.1=some x ∧ okA x q.2.length ∧ ∀ k∈eG p x q.2,Ta p h k
theorem vis_args {p:ScopeProg} {f:Nat} {s s':VS} {n z:Int} (h:vis p (f+1) s n z=some s') {x:ScopeNode} (hx:idx p.Nodes n=some x):okA x z:=by
 simp only [vis]at h
 split at h
 ·rw [hx,bsm]at h;split at h
  ·rename_i h2;obtain⟨⟨k,c,hk,hl,hm⟩,ha⟩:=h2;refine⟨ha,fun h5=>?_,fun h6=>?_⟩
   ·rw [h5]at hk;simp [shp]at hk;obtain⟨rfl,rfl⟩:=hk;exact(show x.N=0 ∧ x.Args.length=1 from hm).2
   ·have:c=3:=by
     rcases h6 with h6 | h6
     ·rw [h6]at hk;simp [shp]at hk;omega
     ·rw [h6]at hk;simp [shp]at hk;omega
    subst this;exact hm.1
  ·cases h
 ·cases h
theorem aFK {p:ScopeProg} {f:Nat} (ih:∀ (s s':VS) (q:Int × E),vis p f s q.1 q.2.length=some s' → Ta p f q):∀ (l:List (Int × E)) (s s':VS),cD (vis p f) s (l.map fun q=>(q.1,(q.2.length:Int)))=some s' → ∀ q∈l,Ta p f q
 | [],_,_,_,q,hq=>by cases hq
 | q :: l,s,s',h,r,hr=>by
  simp only [List.map_cons,cD]at h;obtain⟨s1,h1,h2⟩:=bind_some h;cases hr with
  | head=>exact ih s s1 q h1
  | tail _ hr=>exact aFK ih l s1 s' h2 r hr
theorem vis_ta {p:ScopeProg}:∀ (f:Nat) (s s':VS) (q:Int × E),vis p f s q.1 q.2.length=some s' → Ta p f q
 | 0,s,s',q,h=>by cases h
 | f+1,s,s',⟨n,e⟩,h=>by
  obtain⟨x,hx,_,_,_,_,hv⟩:=aCv h;exact⟨x,hx,vis_args h hx,aFK (vis_ta f) _ _ _ hv⟩
theorem chk_ta {p:ScopeProg} {s:VS} (h:eT p=some s):Ta p p.Nodes.length (eA p):=by
 unfold eT at h
 split at h
 ·obtain⟨s1,h1,h⟩:=bind_some h;have e1:(p.Free.length:Int)=((eA p).2.length:Int):=by simp [eA]
  rw [e1]at h1;exact vis_ta _ _ _ _ h1
 ·cases h
mutual
def cP:ScopeExp → List CodeIns
 | ⟨op,n,ks⟩=>if op=1 then [⟨1,n,0⟩] else if op=2 then [⟨2,n,0⟩] else uK ks++[⟨op,0,0⟩]
def uK:List ScopeExp → List CodeIns
 | []=>[]
 | k :: ks=>cP k++uK ks
end
theorem zC {s op n:Int} {ks:List ScopeExp} (h:fE s ⟨op,n,ks⟩=true) (h1:op≠1) (h2:op≠2):3 ≤ op ∧ op ≤ 7 ∧ ∃ a b,ks=[a,b] ∧ fE s a=true ∧ fE s b=true:=by
 simp only [fE,Bool.and_eq_true,loc,if_neg h1,if_neg h2,decide_eq_true_eq]at h
 obtain⟨⟨a1,a2,_,a4⟩,h⟩:=h
 match ks,a4,h with
 | [a,b],_,h=>
  simp only [fL,Bool.and_eq_true,and_true]at h;exact⟨a1,a2,a,b,rfl,h.1,h.2⟩
theorem lK:∀ (n:Nat) (s:Int) (e:ScopeExp),nE e ≤ n → fE s e=true → (cP e).length ≤ nE e
 | 0,_,e,h,_=>by have:=rW e;omega
 | n+1,s,⟨op,m,ks⟩,h,hf=>by
  simp only [cP];by_cases h1:op=1
  ·rw [if_pos h1];exact rW _
  rw [if_neg h1];by_cases h2:op=2
  ·rw [if_pos h2];exact rW _
  rw [if_neg h2];obtain⟨_,_,a,b,rfl,fa,fb⟩:=zC hf h1 h2;simp only [nE,nL]at h ⊢;have i1:=lK n s a (by omega) fa
  have i2:=lK n s b (by omega) fb
  simp only [uK,List.length_append,List.length_cons,List.length_nil];omega
theorem zE:∀ (n:Nat) (s:Int) (e:ScopeExp),nE e ≤ n → fE s e=true → ∀ i∈cP e,1 ≤ i.Op ∧ i.Op ≤ 7
 | 0,_,e,h,_=>by have:=rW e;omega
 | n+1,s,⟨op,m,ks⟩,h,hf=>by
  intro i hi;simp only [cP]at hi;by_cases h1:op=1
  ·rw [if_pos h1]at hi;rw [List.mem_singleton.1 hi];exact⟨by simp,by simp⟩
  rw [if_neg h1]at hi;by_cases h2:op=2
  ·rw [if_pos h2]at hi;rw [List.mem_singleton.1 hi];exact⟨by simp,by simp⟩
  rw [if_neg h2]at hi;obtain⟨q1,q2,a,b,rfl,fa,fb⟩:=zC hf h1 h2;simp only [nE,nL]at h;simp only [uK,List.append_nil,List.mem_append,List.mem_singleton]at hi;rcases hi with(hi | hi) | hi
  ·exact zE n s a (by omega) fa i hi
  ·exact zE n s b (by omega) fb i hi
  ·rw [hi];exact⟨by dsimp only;omega,q2⟩
def sh (n:Int) (l:List CodeIns):List CodeIns:=l.map fun i=>if i.Op=9 ∨ i.Op=10 then⟨i.Op,i.A+n,i.B⟩ else i
def bh (a b:List CodeIns):List CodeIns:=a++sh a.length b
theorem kQ (n:Int) (l:List CodeIns):(sh n l).length=l.length:=by simp [sh]
theorem tA (n:Int) (a b:List CodeIns):sh n (a++b)=sh n a++sh n b:=by simp [sh]
theorem sh_nil (n:Int):sh n []=[]:=rfl
theorem sh_sh (n m:Int) (l:List CodeIns):sh n (sh m l)=sh (m+n) l:=by
 simp only [sh,List.map_map]
 refine List.map_congr_left fun i _=>?_
 simp only [Function.comp]
 by_cases h:i.Op=9 ∨ i.Op=10
 ·rw [if_pos h,if_pos h,if_pos h];simp only [CodeIns.mk.injEq,true_and,and_true];omega
 ·rw [if_neg h,if_neg h,if_neg h]
theorem sF {n:Int} {l:List CodeIns} (h:∀ i∈l,i.Op≠9 ∧ i.Op≠10):sh n l=l:=by
 have:sh n l=l.map id:=List.map_congr_left fun i hi=>if_neg (by have:=h i hi;omega)
 rw [this,List.map_id]
theorem kI (a b:List CodeIns):(bh a b).length=a.length+b.length:=by rw [bh,List.length_append,kQ]
theorem uV {a b:List CodeIns} (h:∀ i∈b,i.Op≠9 ∧ i.Op≠10):bh a b=a++b:=by rw [bh,sF h]
theorem sh_bh (n:Int) (a b:List CodeIns):sh n (bh a b)=sh n a++sh (n+a.length) b:=by rw [bh,tA,sh_sh,Int.add_comm]
def Jmp (l:List CodeIns):Prop:=∀ i∈l,i.Op=9 ∨ i.Op=10 → 0 ≤ i.A ∧ i.A ≤ 100000000
theorem behind1 {a b:List CodeIns} (ha:a.length ≤ 100000000) (hb:b.length ≤ 100000000) (hj:Jmp b) (suf:List CodeIns):∀ (pre:List CodeIns) (k:Nat),b=pre++suf → suf.length<k → pC a b k (a++sh a.length pre) (pre.length:Int)=some (a++sh a.length b):=by
 induction suf with
 | nil=>
  intro pre k h hk;obtain _ | k:=k
  ·omega
  rw [List.append_nil]at h;rw [pC,h,if_neg (by omega)]
 | cons e suf ih=>
  intro pre k h hk;obtain _ | k:=k
  ·omega
  simp only [List.length_cons]at hk;have hl:b.length=pre.length+(suf.length+1):=by rw [h];simp
  have he:=hj e (by rw [h];simp)
  have h1:a++sh a.length (pre++[e])=a++sh a.length pre++[if e.Op=9 ∨ e.Op=10 then⟨e.Op,e.A+a.length,e.B⟩ else e]:=by rw [tA,List.append_assoc];rfl
  have ih':=ih (pre++[e]) k (by rw [h];simp) (by omega)
  rw [h1]at ih';have hlen:(a++sh a.length pre).length ≤ 300000000:=by rw [List.length_append,kQ];omega
  rw [pC,if_pos (by omega)];refine b1 (by rw [h];exact bL _ _ _) ?_
  refine b1 (z:=if e.Op=9 ∨ e.Op=10 then e.A+a.length else e.A) ?_ ?_
  ·by_cases h9:e.Op=9
   ·have:=he (.inl h9);rw [if_pos h9,if_pos (.inl h9)];exact b1 (aU (by omega)) rfl
   rw [if_neg h9];by_cases h10:e.Op=10
   ·have:=he (.inr h10);rw [if_pos h10,if_pos (.inr h10)];exact b1 (aU (by omega)) rfl
   ·rw [if_neg h10,if_neg (by omega)]
  refine b1 (fM (by rw [List.length_append,List.length_singleton];omega)) ?_
  refine b1 (aU (by omega)) ?_
  rw [bN pre e];have h2:(⟨e.Op,if e.Op=9 ∨ e.Op=10 then e.A+a.length else e.A,e.B⟩:CodeIns)=if e.Op=9 ∨ e.Op=10 then⟨e.Op,e.A+a.length,e.B⟩ else e:=by split <;> rfl
  rw [h2];exact ih'
theorem kZ {fuel:Nat} {a b:List CodeIns} (hf:b.length<fuel) (ha:a.length ≤ 100000000) (hb:b.length ≤ 100000000) (hj:Jmp b):gU fuel a b=some (bh a b):=by
 rw [gU,List.nil_append]
 refine b1 (fM (by omega)) ?_
 have:=behind1 ha hb hj b [] fuel rfl hf
 rw [sh_nil,List.append_nil]at this
 exact b1 this rfl
theorem tG {l:List CodeIns} (h:∀ i∈l,i.Op≠9 ∧ i.Op≠10):Jmp l:=fun i hi g=>by have:=h i hi;omega
theorem sO {s:Int} {e:ScopeExp} (h:fE s e=true):∀ i∈cP e,i.Op≠9 ∧ i.Op≠10:=fun i hi=>by have:=zE (nE e) s e (Nat.le_refl _) h i hi;omega
theorem jR {op a b:Int} (h:op≠9 ∧ op≠10):∀ i∈[(⟨op,a,b⟩:CodeIns)],i.Op≠9 ∧ i.Op≠10:=fun i hi=>by rw [List.mem_singleton.1 hi];exact h
theorem zU:∀ (fuel:Nat) (s:Int) (e:ScopeExp),fE s e=true → 2*nE e<fuel → nE e ≤ 1000000 → oA fuel e=some (cP e)
 | 0,_,e,_,h,_=>by omega
 | fuel+1,s,⟨op,m,ks⟩,hf,hn,hB=>by
  rw [oA];simp only [cP];by_cases h1:op=1
  ·rw [if_pos h1,if_pos h1];rfl
  rw [if_neg h1,if_neg h1];by_cases h2:op=2
  ·rw [if_pos h2,if_pos h2];rfl
  rw [if_neg h2,if_neg h2];obtain⟨q1,q2,a,b,rfl,fa,fb⟩:=zC hf h1 h2;simp only [nE,nL]at hn hB;have la:=lK (nE a) s a (Nat.le_refl _) fa;have lb:=lK (nE b) s b (Nat.le_refl _) fb;refine b1 (z:=op) ?_ ?_
  ·by_cases h4:op=4
   ·rw [if_pos h4,h4]
   rw [if_neg h4];by_cases h5:op=5
   ·rw [if_pos h5,h5]
   rw [if_neg h5];by_cases h6:op=6
   ·rw [if_pos h6,h6]
   rw [if_neg h6];by_cases h7:op=7
   ·rw [if_pos h7,h7]
   rw [if_neg h7,show op=3 by omega]
  refine b1 rfl ?_;refine b1 (zU fuel s a fa (by omega) (by omega)) ?_
  refine b1 rfl ?_;refine b1 (zU fuel s b fb (by omega) (by omega)) ?_
  refine b1 (kZ (by omega) (by omega) (by omega) (tG (sO fb))) ?_
  rw [uV (sO fb)];refine b1 rfl ?_;refine b1 (kZ (by simp;omega) (by simp;omega) (by simp) (tG (jR (by omega)))) ?_
  rw [uV (jR (by omega))];simp [uK]
def wc (x:Code_compiler) (l:List CodeIns):Code_compiler:=⟨⟨l⟩,x.p,x.sizes,x.starts⟩
theorem kB {x:Code_compiler} {a b c:Int} (h:x.tape.code.length ≤ 900000000):gX x a b c=some (wc x (x.tape.code++[⟨a,b,c⟩])):=by
 rw [gX]
 exact b1 (fM (by simp;omega)) rfl
theorem aAx:∀ (fuel:Nat) (s:Int) (e:ScopeExp) (x:Code_compiler),fE s e=true → nE e<fuel → x.tape.code.length+nE e ≤ 800000000 → mY fuel x e=some (wc x (x.tape.code++cP e))
 | 0,_,e,_,_,h,_=>by omega
 | fuel+1,s,⟨op,m,ks⟩,x,hf,hn,hB=>by
  have np:=rW ⟨op,m,ks⟩;rw [mY];simp only [cP];by_cases h1:op=1
  ·rw [if_pos h1,if_pos h1];exact b1 (kB (x:=x) (by omega)) rfl
  rw [if_neg h1,if_neg h1];by_cases h2:op=2
  ·rw [if_pos h2,if_pos h2];exact b1 (kB (x:=x) (by omega)) rfl
  rw [if_neg h2,if_neg h2];obtain⟨q1,q2,a,b,rfl,fa,fb⟩:=zC hf h1 h2;simp only [nE,nL]at hn hB;have la:=lK (nE a) s a (Nat.le_refl _) fa;have lb:=lK (nE b) s b (Nat.le_refl _) fb;refine b1 rfl ?_;refine b1 (aAx fuel s a x fa (by omega) (by omega)) ?_
  refine b1 rfl ?_;refine b1 (aAx fuel s b (wc x (x.tape.code++cP a)) fb (by omega) (by show(x.tape.code++cP a).length+_ ≤ _;rw [List.length_append];omega)) ?_
  refine b1 (z:=op) ?_ ?_
  ·rw [zK];refine b1 (aU (by omega)) ?_
   refine b1 (aU (by omega)) ?_
   rw [show 3+(op - 3)=op by omega]
  refine b1 (kB (x:=wc (wc x (x.tape.code++cP a)) (x.tape.code++cP a++cP b)) (by show(x.tape.code++cP a++cP b).length ≤ _;rw [List.length_append,List.length_append];omega)) ?_
  simp [uK,wc]
open Go.SX Go.SW Go.Dt
def kid (x:ScopeNode) (i:Nat):Int:=x.Kids.getD i 0
def ownN (p:ScopeProg) (m:Int):Int:=match idx p.Defs m with | some d=>own d | none=>0
def dB (c:List CodeIns × Bool) (z:Int):List CodeIns:=if c.2=true then c.1++[⟨12,z,0⟩] else c.1
def ifC (e a b:List CodeIns):List CodeIns:=bh (bh (e++[⟨9,e.length+2+a.length,0⟩]) a++[⟨10,e.length+2+a.length+b.length,0⟩]) b
def arg0 (x:ScopeNode):List CodeIns:=match x.Args with | []=>[] | e :: _=>cP e
def fT (p:ScopeProg):Nat → Int → Int → List CodeIns × Bool
 | 0,_,_=>([],false)
 | h+1,n,z=>match idx p.Nodes n with
  | none=>([],false)
  | some x=>
   if x.Op=2 then(x.Args.flatMap cP++[⟨8,x.N,x.Args.length⟩],false)
   else if x.Op=3 then(bh (dB (fT p h (kid x 0) z) z) (fT p h (kid x 1) z).1,(fT p h (kid x 1) z).2)
   else if x.Op=4 then(bh [⟨11,x.N,0⟩] (fT p h (kid x 0) (z+ownN p x.N)).1,true)
   else if x.Op=5 then(ifC (arg0 x) (dB (fT p h (kid x 0) z) z) (dB (fT p h (kid x 1) z) z),false)
   else if x.Op=6 then([⟨13,x.N,kid x 0⟩],false)
   else if x.Op=8 then([⟨15,x.N,kid x 0⟩],false)
   else if x.Op=7 then([⟨14,0,0⟩],false)
   else ([],false)
def J (l:List CodeIns):Prop:=∀ i∈l,i.Op=9 ∨ i.Op=10 → 0 ≤ i.A ∧ i.A ≤ (l.length:Int)
theorem J.jmp {l:List CodeIns} (h:J l) (hl:l.length ≤ 100000000):Jmp l:=fun i hi g=>by have:=h i hi g;omega
theorem J_no {l:List CodeIns} (h:∀ i∈l,i.Op≠9 ∧ i.Op≠10):J l:=fun i hi g=>by have:=h i hi;omega
theorem J_bh {a b:List CodeIns} (ha:J a) (hb:J b):J (bh a b):=fun i hi g=>by
 rw [kI]
 rcases List.mem_append.1 hi with hi | hi
 ·have:=ha i hi g;omega
 ·obtain⟨j,hj,rfl⟩:=List.mem_map.1 hi;by_cases q:j.Op=9 ∨ j.Op=10
  ·rw [if_pos q];have:=hb j hj q;dsimp only;omega
  ·rw [if_neg q]at g;exact absurd g q
theorem J_app {a:List CodeIns} {i:CodeIns} (ha:J a) (hi:i.Op=9 ∨ i.Op=10 → 0 ≤ i.A ∧ i.A ≤ (a.length:Int)+1):J (a++[i]):=fun j hj g=>by
 rw [List.length_append,List.length_singleton]
 rcases List.mem_append.1 hj with hj | hj
 ·have:=ha j hj g;omega
 ·rw [List.mem_singleton.1 hj]at g ⊢;have:=hi g;omega
theorem xO {c:List CodeIns × Bool} {z:Int} (h:J c.1):J (dB c z):=by
 unfold dB
 split
 ·exact J_app h (fun g=>by simp at g)
 ·exact h
theorem aBq (c:List CodeIns × Bool) (z:Int):(dB c z).length ≤ c.1.length+1:=by
 unfold dB
 split
 ·simp
 ·omega
theorem aBZ (e a b:List CodeIns):(ifC e a b).length=e.length+a.length+b.length+2:=by
 rw [ifC,kI,List.length_append,kI,List.length_append];simp;omega
def JB (B:Int) (l:List CodeIns):Prop:=∀ i∈l,i.Op=9 ∨ i.Op=10 → 0 ≤ i.A ∧ i.A ≤ B
theorem JB_bh {a b:List CodeIns} {B:Int} (ha:JB B a) (hb:J b) (h:(a.length:Int)+b.length ≤ B):JB B (bh a b):=fun i hi g=>by
 rcases List.mem_append.1 hi with hi | hi
 ·exact ha i hi g
 ·obtain⟨j,hj,rfl⟩:=List.mem_map.1 hi;by_cases q:j.Op=9 ∨ j.Op=10
  ·rw [if_pos q];have:=hb j hj q;dsimp only;omega
  ·rw [if_neg q]at g;exact absurd g q
theorem JB_app {a:List CodeIns} {i:CodeIns} {B:Int} (ha:JB B a) (hi:0 ≤ i.A ∧ i.A ≤ B):JB B (a++[i]):=fun j hj g=>by
 rcases List.mem_append.1 hj with hj | hj
 ·exact ha j hj g
 ·rw [List.mem_singleton.1 hj];exact hi
theorem J_if {e a b:List CodeIns} (he:∀ i∈e,i.Op≠9 ∧ i.Op≠10) (ha:J a) (hb:J b):J (ifC e a b):=by
 have h0:JB ((ifC e a b).length:Int) e:=fun i hi g=>absurd g (by have:=he i hi;omega)
 have hl:=aBZ e a b
 refine JB_bh (JB_app (JB_bh (JB_app h0 ?_) ha ?_) ?_) hb ?_
 ·dsimp only;omega
 ·rw [List.length_append,List.length_singleton];omega
 ·dsimp only;omega
 ·rw [List.length_append,List.length_singleton,kI,List.length_append,List.length_singleton];omega
theorem lH {α:Type} (pre suf:List α) (y z:α):(pre++y :: suf).set pre.length z=pre++z :: suf:=by simp
theorem fm_len {s:Int}:∀ l:List ScopeExp,l.all (okE s)=true → (l.flatMap cP).length ≤ 60*l.length
 | [],_=>by simp
 | e :: l,h=>by
  simp only [List.all_cons,Bool.and_eq_true]at h;have ih:=fm_len l h.2;have he:=h.1;unfold okE at he;simp only [Bool.and_eq_true,decide_eq_true_eq]at he;have:=lK (nE e) s e (Nat.le_refl _) he.1.1;simp only [List.flatMap_cons,List.length_append,List.length_cons];omega
theorem vY {s:Int} {e:ScopeExp} (h:okE s e=true):fE s e=true ∧ nE e ≤ 60:=by
 unfold okE at h
 simp only [Bool.and_eq_true,decide_eq_true_eq]at h
 exact⟨h.1.1,h.2⟩
theorem fm_no {s:Int} {l:List ScopeExp} (h:l.all (okE s)=true):∀ i∈l.flatMap cP,i.Op≠9 ∧ i.Op≠10:=fun i hi=>by
 obtain⟨e,he,hi⟩:=List.mem_flatMap.1 hi
 exact sO (vY (List.all_eq_true.1 h e he)).1 i hi
theorem pargs {fuel:Nat} {x:ScopeNode} {s:Int} {c:Code_compiler} (hf:1000 ≤ fuel) (suf:List ScopeExp):∀ (pre:List ScopeExp) (k:Nat) (l:List CodeIns),x.Args=pre++suf → suf.length<k → pre.length+suf.length ≤ 1000 → l.length+60*suf.length ≤ 700000000 → suf.all (okE s)=true →
 nO fuel x k (pre.length:Int) l c.p.Free c.p.Nodes c.p.Defs c.p.Main c.sizes c.starts=some (l++suf.flatMap cP,c.p.Free,c.p.Nodes,c.p.Defs,c.p.Main,c.sizes,c.starts):=by
 induction suf with
 | nil=>
  intro pre k l h hk _ _ _;obtain _ | k:=k
  ·omega
  rw [nO,h,if_neg (by simp)];simp
 | cons e suf ih=>
  intro pre k l h hk hB hl ha;obtain _ | k:=k
  ·omega
  simp only [List.length_cons]at hk hB hl;simp only [List.all_cons,Bool.and_eq_true]at ha;obtain⟨fe,ne⟩:=vY ha.1;have le:=lK (nE e) s e (Nat.le_refl _) fe;rw [nO,if_pos (by rw [h];exact bX _ _ _)];refine b1 (by rw [h];exact bL _ _ _) ?_
  refine b1 (z:=wc ⟨⟨l⟩,c.p,c.sizes,c.starts⟩ (l++cP e)) (by rw [yK];exact aAx fuel s e ⟨⟨l⟩,c.p,c.sizes,c.starts⟩ fe (by omega) (by dsimp only;omega)) ?_
  refine b1 (aU (by omega)) ?_
  rw [bN pre e];have:=ih (pre++[e]) k (l++cP e) (by rw [h];simp) (by omega) (by simp;omega) (by rw [List.length_append];omega) ha.2
  rw [List.flatMap_cons,← List.append_assoc];exact this
theorem rargs {fuel:Nat} {x:ScopeNode} {s:Int} (hf:1000 ≤ fuel) (suf:List ScopeExp):∀ (pre:List ScopeExp) (k:Nat) (l:List CodeIns),x.Args=pre++suf → suf.length<k → pre.length+suf.length ≤ 1000 → l.length+60*suf.length ≤ 1000000 → suf.all (okE s)=true →
 oW fuel x k l (pre.length:Int)=some (l++suf.flatMap cP):=by
 induction suf with
 | nil=>
  intro pre k l h hk _ _ _;obtain _ | k:=k
  ·omega
  rw [oW,h,if_neg (by simp)];simp
 | cons e suf ih=>
  intro pre k l h hk hB hl ha;obtain _ | k:=k
  ·omega
  simp only [List.length_cons]at hk hB hl;simp only [List.all_cons,Bool.and_eq_true]at ha;obtain⟨fe,ne⟩:=vY ha.1;have le:=lK (nE e) s e (Nat.le_refl _) fe;rw [oW,if_pos (by rw [h];exact bX _ _ _)];refine b1 (by rw [h];exact bL _ _ _) ?_
  refine b1 (zU fuel s e fe (by omega) (by omega)) ?_
  refine b1 (kZ (by omega) (by omega) (by omega) (tG (sO fe))) ?_
  rw [uV (sO fe)];refine b1 (aU (by omega)) ?_
  rw [bN pre e];have:=ih (pre++[e]) k (l++cP e) (by rw [h];simp) (by omega) (by simp;omega) (by rw [List.length_append];omega) ha.2
  rw [List.flatMap_cons,← List.append_assoc];exact this
theorem sh9 (n x:Int):sh n [(⟨9,x,0⟩:CodeIns)]=[⟨9,x+n,0⟩]:=by simp [sh]
theorem sh10 (n x:Int):sh n [(⟨10,x,0⟩:CodeIns)]=[⟨10,x+n,0⟩]:=by simp [sh]
theorem if_at {C e a b C1 D A0 B0:List CodeIns} (hno:∀ i∈e,i.Op≠9 ∧ i.Op≠10) (h1:C1=C++e) (hA:A0=sh ((C1++[(⟨9,0,0⟩:CodeIns)]).length:Int) a) (hD:D=C1++(⟨9,(C1.length:Int)+2+A0.length,0⟩:CodeIns) :: A0) (hB:B0=sh ((D++[(⟨10,0,0⟩:CodeIns)]).length:Int) b):
 C++sh C.length (ifC e a b)=D++(⟨10,(D.length:Int)+1+B0.length,0⟩:CodeIns) :: B0:=by
 have lC1:C1.length=C.length+e.length:=by rw [h1,List.length_append]
 have lA0:A0.length=a.length:=by rw [hA,kQ]
 have lD:D.length=C1.length+1+A0.length:=by rw [hD,List.length_append,List.length_cons];omega
 have lB0:B0.length=b.length:=by rw [hB,kQ]
 have q1:(e.length:Int)+2+a.length+C.length=(C1.length:Int)+2+A0.length:=by omega
 have q2:(C.length:Int)+((e++[(⟨9,(e.length:Int)+2+a.length,0⟩:CodeIns)]).length:Int)=((C1++[(⟨9,0,0⟩:CodeIns)]).length:Int):=by simp only [List.length_append,List.length_singleton];omega
 have q3:(e.length:Int)+2+a.length+b.length+C.length=(D.length:Int)+1+B0.length:=by omega
 have q4:(C.length:Int)+((bh (e++[(⟨9,(e.length:Int)+2+a.length,0⟩:CodeIns)]) a++[(⟨10,(e.length:Int)+2+a.length+b.length,0⟩:CodeIns)]).length:Int)=((D++[(⟨10,0,0⟩:CodeIns)]).length:Int):=by simp only [List.length_append,List.length_singleton,kI];omega
 rw [ifC,sh_bh,q4,← hB,tA,sh_bh,q2,← hA,tA,sF hno,sh9,sh10,q1,q3,hD,h1]
 simp
structure lQ (p:ScopeProg) (sz:List Int) (h:Nat) (q:Int × E) (c:List CodeIns × Bool):Prop where
 len:c.1.length+1 ≤ 250*(LN p h q).length
 j:J c.1
 doc:∀ fuel,3000000+2*h ≤ fuel → gI fuel p sz q.1=some c
 prog:∀ fuel (x:Code_compiler),3000000+2*h ≤ fuel → x.p=p → x.sizes=sz → x.tape.code.length+c.1.length ≤ 100000000 → gJ fuel x q.1=some (wc x (x.tape.code++sh x.tape.code.length c.1))
 grow:∀ fuel (x:Code_compiler),h ≤ fuel → x.p=p → jN fuel x q.1=some (x,c.2)
theorem lQ.cutD {p:ScopeProg} {sz:List Int} {h:Nat} {q:Int × E} {c:List CodeIns × Bool} (H:lQ p sz h q c) (hl:(LN p h q).length ≤ 1000) {fuel:Nat} {z:Int} (hf:3000000+2*h ≤ fuel):qU (fuel+1) p sz q.1 z=some (dB c z):=by
 have:=H.len
 rw [qU]
 refine b1 (H.doc fuel hf) ?_
 unfold dB
 cases hc:c.2 with
 | true=>
  rw [cond_true,if_pos rfl];refine b1 rfl ?_;refine b1 (kZ (by simp;omega) (by omega) (by simp) (tG (jR (by omega)))) ?_
  rw [uV (jR (by omega))]
 | false=>rw [cond_false,if_neg (by simp)]
theorem lQ.kept {p:ScopeProg} {sz:List Int} {h:Nat} {q:Int × E} {c:List CodeIns × Bool} (H:lQ p sz h q c) {fuel:Nat} {z:Int} {x:Code_compiler} (hf:3000000+2*h ≤ fuel) (hp:x.p=p) (hz:x.sizes=sz) (hl:x.tape.code.length+(dB c z).length ≤ 100000000):qN (fuel+1) x q.1 z=some (wc x (x.tape.code++sh x.tape.code.length (dB c z))):=by
 have hlen:x.tape.code.length+c.1.length ≤ 100000000:=by
  unfold dB at hl;split at hl
  ·rw [List.length_append]at hl;omega
  ·exact hl
 rw [qN]
 refine b1 (H.prog fuel x hf hp hz hlen) ?_
 refine b1 (H.grow fuel _ (by omega) hp) ?_
 unfold dB
 cases hc:c.2 with
 | true=>
  dsimp only
  rw [cond_true,if_pos rfl];refine b1 (kB (x:=wc x (x.tape.code++sh x.tape.code.length c.1)) (by show(x.tape.code++sh x.tape.code.length c.1).length ≤ _;rw [List.length_append,kQ];omega)) ?_
  rw [tA,sF (jR (by omega)),← List.append_assoc];rfl
 | false=>dsimp only;rw [cond_false,if_neg (by simp)]
theorem kids2 {x:ScopeNode} (h:x.Kids.length=2):idx x.Kids 0=some (kid x 0) ∧ idx x.Kids 1=some (kid x 1) ∧ x.Kids=[kid x 0,kid x 1]:=by
 unfold kid
 match x.Kids,h with
 | [a,b],_=>exact⟨rfl,rfl,rfl⟩
theorem nJ {x:ScopeNode} (h:x.Kids.length=1):idx x.Kids 0=some (kid x 0) ∧ x.Kids=[kid x 0]:=by
 unfold kid
 match x.Kids,h with
 | [a],_=>exact⟨rfl,rfl⟩
theorem aE7 {p:ScopeProg} {sz:List Int}:∀ (h:Nat) (q:Int × E),Tr p h q → Ta p h q → (∀ b∈LN p h q,idx sz b.1=some (b.2.length:Int)) → (LN p h q).length ≤ 1000 → lQ p sz h q (fT p h q.1 q.2.length)
 | 0,q,hT,_,_,_=>hT.elim
 | h+1,⟨n,e⟩,⟨x,hx,h0,hT,hK⟩,⟨x',hx',hA,hKA⟩,hsz,hlen=>by
  dsimp only at hx hT hx' hA hK hKA
  have exx:x'=x:=by rw [hx]at hx';exact(Option.some.inj hx').symm
  subst exx;have hLN:LN p (h+1) (n,e)=(n,e) :: (eG p x' e).flatMap (LN p h):=by simp only [LN,hx]
  have hself:idx sz n=some (e.length:Int):=hsz (n,e) (by rw [hLN];exact .head _)
  rw [hLN,List.length_cons]at hlen;have hsub:∀ k∈eG p x' e,(∀ b∈LN p h k,idx sz b.1=some (b.2.length:Int)) ∧ (LN p h k).length ≤ ((eG p x' e).flatMap (LN p h)).length:=fun k hk=>
   ⟨fun b hb=>hsz b (by rw [hLN];exact .tail _ (List.mem_flatMap.2 ⟨k,hk,hb⟩)),by
    obtain⟨a,b,hab⟩:=List.append_of_mem hk;rw [hab,List.flatMap_append,List.flatMap_cons,List.length_append,List.length_append];omega⟩
  have IH:∀ k∈eG p x' e,lQ p sz h k (fT p h k.1 k.2.length):=fun k hk=>aE7 h k (hK k hk) (hKA k hk) (hsub k hk).1 (by have:=(hsub k hk).2;omega)
  have hns:x'.Op≠4 → eG p x' e=x'.Kids.map fun k=>(k,e):=fun g=>by rw [eG,if_neg g]
  have small:∀ (l:List CodeIns),(∀ i∈l,i.Op≠9 ∧ i.Op≠10) → l.length+1 ≤ 250 → l.length+1 ≤ 250*(LN p (h+1) (n,e)).length ∧ J l:=fun l h1 h2=>⟨by rw [hLN,List.length_cons];omega,J_no h1⟩
  have one:∀ (op a b:Int),op≠9 ∧ op≠10 → ([(⟨op,a,b⟩:CodeIns)].length+1 ≤ 250*(LN p (h+1) (n,e)).length) ∧ J [⟨op,a,b⟩]:=fun op a b g=>small _ (jR g) (by simp)
  rw [fT];dsimp only
  rw [hx];dsimp only
  by_cases o2:x'.Op=2
  ·rw [if_pos o2];have hargs:x'.Args.length ≤ 3:=by rcases hT with g | g | g | g | g <;> omega
   have hno:=fm_no hA.1;have hl:=fm_len x'.Args hA.1;have hno2:∀ i∈x'.Args.flatMap cP++[(⟨8,x'.N,(x'.Args.length:Int)⟩:CodeIns)],i.Op≠9 ∧ i.Op≠10:=fun i hi=>by
    rcases List.mem_append.1 hi with hi | hi
    ·exact hno i hi
    ·rw [List.mem_singleton.1 hi];exact⟨by simp,by simp⟩
   obtain⟨s1,s2⟩:=small _ hno2 (by rw [List.length_append,List.length_singleton];omega)
   refine⟨s1,s2,fun fuel hf=>?_,fun fuel y hf hp hz hB=>?_,fun fuel y hf hp=>?_⟩
   ·obtain _ | fuel:=fuel
    ·omega
    rw [gI];refine b1 hx ?_;rw [if_pos o2];have:=rargs (fuel:=fuel) (x:=x') (s:=e.length) (by omega) x'.Args [] fuel [] rfl (by omega) (by simp;omega) (by simp;omega) hA.1
    refine b1 (z:=Sum.inr (x'.Args.flatMap cP++[(⟨8,x'.N,(x'.Args.length:Int)⟩:CodeIns)],false)) ?_ rfl;refine b1 this ?_;refine b1 rfl ?_;rw [List.nil_append];refine b1 (kZ (by simp;omega) (by omega) (by simp) (tG (jR (by omega)))) ?_
    rw [uV (jR (by omega))];rfl
   ·obtain _ | fuel:=fuel
    ·omega
    rw [List.length_append,List.length_singleton]at hB;rw [gJ];refine b1 (by rw [hp];exact hx) ?_
    rw [if_pos o2];refine b1 (pargs (fuel:=fuel) (x:=x') (s:=e.length) (c:=y) (by omega) x'.Args [] fuel y.tape.code rfl (by omega) (by simp;omega) (by omega) hA.1) ?_
    refine b1 (kB (x:=wc y (y.tape.code++x'.Args.flatMap cP)) (by show(y.tape.code++x'.Args.flatMap cP).length ≤ _;rw [List.length_append];omega)) ?_
    rw [sF hno2,← List.append_assoc];rfl
   ·obtain _ | fuel:=fuel
    ·omega
    rw [jN];refine b1 (by rw [hp];exact hx) ?_
    rw [if_neg (by omega),if_neg (by omega)];rfl
  rw [if_neg o2];by_cases o3:x'.Op=3
  ·rw [if_pos o3];have hk2:x'.Kids.length=2:=by rcases hT with g | g | g | g | g <;> omega
   obtain⟨k0,k1,kk⟩:=kids2 hk2;have hsb:eG p x' e=[(kid x' 0,e),(kid x' 1,e)]:=by rw [hns (by omega),kk];simp [kid]
   rw [hsb]at IH hlen hLN;have i0:=IH _ (.head _);have i1:=IH _ (.tail _ (.head _));dsimp only at i0 i1
   simp only [List.flatMap_cons,List.flatMap_nil,List.append_nil,List.length_append]at hlen hLN;generalize fT p h (kid x' 0) e.length=c0 at i0
   generalize fT p h (kid x' 1) e.length=c1 at i1
   have l0:=i0.len;have l1:=i1.len;have lc:=aBq c0 e.length
   refine⟨?_,J_bh (xO i0.j) i1.j,fun fuel hf=>?_,fun fuel y hf hp hz hB=>?_,fun fuel y hf hp=>?_⟩
   ·dsimp only;rw [kI,hLN,List.length_cons,List.length_append];omega
   ·obtain _ | fuel:=fuel
    ·omega
    obtain _ | fuel:=fuel
    ·omega
    rw [gI];refine b1 hx ?_;rw [if_neg o2,if_pos o3];refine b1 (z:=Sum.inr (bh (dB c0 e.length) c1.1,c1.2)) ?_ rfl;refine b1 k1 ?_;refine b1 (i1.doc (fuel+1) (by omega)) ?_
    refine b1 k0 ?_;refine b1 hself ?_;refine b1 (i0.cutD (by omega) (by omega)) ?_
    refine b1 (kZ (by omega) (by omega) (by omega) (i1.j.jmp (by omega))) ?_
    rfl
   ·obtain _ | fuel:=fuel
    ·omega
    obtain _ | fuel:=fuel
    ·omega
    dsimp only at hB
    rw [kI]at hB;rw [gJ];refine b1 (by rw [hp];exact hx) ?_
    rw [if_neg o2,if_pos o3];refine b1 k0 ?_;refine b1 (by rw [hz];exact hself) ?_
    refine b1 (i0.kept (z:=e.length) (x:=y) (by omega) hp hz (by omega)) ?_
    refine b1 k1 ?_;refine b1 (i1.prog (fuel+1) (wc y (y.tape.code++sh y.tape.code.length (dB c0 e.length))) (by omega) hp hz (by show(y.tape.code++sh y.tape.code.length (dB c0 e.length)).length+_ ≤ _;rw [List.length_append,kQ];omega)) ?_
    dsimp only
    rw [sh_bh,← List.append_assoc];show some (wc y _)=some (wc y _)
    congr 2
    show _++sh ((y.tape.code++sh y.tape.code.length (dB c0 e.length)).length:Int) c1.1=_
    rw [List.length_append,kQ,Int.natCast_add];rfl
   ·obtain _ | fuel:=fuel
    ·omega
    rw [jN];refine b1 (by rw [hp];exact hx) ?_
    rw [if_neg (by omega),if_pos o3];refine b1 (z:=(c1.2,y.tape.code,y.p.Free,y.p.Nodes,y.p.Defs,y.p.Main,y.sizes,y.starts)) ?_ rfl;refine b1 k1 ?_;exact b1 (i1.grow fuel y (by omega) hp) rfl
  rw [if_neg o3];by_cases o4:x'.Op=4
  ·rw [if_pos o4];have ⟨hk1,d,hd,hdo⟩:x'.Kids.length=1 ∧ ∃ d,idx p.Defs x'.N=some d ∧ okD d=true:=by
    rcases hT with g | g | g | g | ⟨_,g2,_,g3⟩
    ·omega
    ·omega
    ·omega
    ·omega
    ·exact⟨g2,g3⟩
   obtain⟨k0,kk⟩:=nJ hk1;have hmem:(kid x' 0,inE e x'.N d)∈eG p x' e:=by
    rw [eG,if_pos o4,hd];exact List.mem_append_right _ (List.mem_append_right _ (List.mem_map.2 ⟨kid x' 0,by rw [kk];simp [kid],rfl⟩))
   have i0:=IH _ hmem;have hl0:=(hsub _ hmem).2;dsimp only at i0
   have ez:((inE e x'.N d).length:Int)=e.length+ownN p x'.N:=by rw [xT,ownN,hd]
   rw [ez]at i0;generalize fT p h (kid x' 0) (e.length+ownN p x'.N)=c0 at i0
   have l0:=i0.len;refine⟨?_,J_bh (J_no (jR (by omega))) i0.j,fun fuel hf=>?_,fun fuel y hf hp hz hB=>?_,fun fuel y hf hp=>?_⟩
   ·simp only [kI,hLN,List.length_cons,List.length_nil];omega
   ·obtain _ | fuel:=fuel
    ·omega
    rw [gI];refine b1 hx ?_;rw [if_neg o2,if_neg o3,if_pos o4];refine b1 (z:=Sum.inr (bh [⟨11,x'.N,0⟩] c0.1,true)) ?_ rfl;refine b1 k0 ?_;refine b1 (i0.doc fuel (by omega)) ?_
    refine b1 rfl ?_;refine b1 (kZ (by omega) (by simp) (by omega) (i0.j.jmp (by omega))) ?_
    rfl
   ·obtain _ | fuel:=fuel
    ·omega
    dsimp only at hB
    rw [kI,List.length_singleton]at hB;rw [gJ];refine b1 (by rw [hp];exact hx) ?_
    rw [if_neg o2,if_neg o3,if_pos o4];refine b1 (kB (x:=y) (by omega)) ?_
    refine b1 k0 ?_;refine b1 (i0.prog fuel (wc y (y.tape.code++[⟨11,x'.N,0⟩])) (by omega) hp hz (by show(y.tape.code++[_]).length+_ ≤ _;rw [List.length_append,List.length_singleton];omega)) ?_
    dsimp only
    rw [sh_bh,sF (jR (by omega)),← List.append_assoc];show some (wc y _)=some (wc y _)
    congr 2
    show _++sh ((y.tape.code++[(⟨11,x'.N,0⟩:CodeIns)]).length:Int) c0.1=_
    rw [List.length_append,Int.natCast_add];rfl
   ·obtain _ | fuel:=fuel
    ·omega
    rw [jN];refine b1 (by rw [hp];exact hx) ?_
    rw [if_pos o4];rfl
  rw [if_neg o4];by_cases o5:x'.Op=5
  ·rw [if_pos o5];have hk2:x'.Kids.length=2:=by rcases hT with g | g | g | g | g <;> omega
   obtain⟨k0,k1,kk⟩:=kids2 hk2;have hsb:eG p x' e=[(kid x' 0,e),(kid x' 1,e)]:=by rw [hns (by omega),kk];simp [kid]
   rw [hsb]at IH hlen hLN;have i0:=IH _ (.head _);have i1:=IH _ (.tail _ (.head _));dsimp only at i0 i1
   simp only [List.flatMap_cons,List.flatMap_nil,List.append_nil,List.length_append]at hlen hLN;obtain⟨a,ha⟩:∃ a,x'.Args=[a]:=by
    have:=hA.2.1 o5;match x'.Args,this with
    | [a],_=>exact⟨a,rfl⟩
   have hall:=hA.1;rw [ha]at hall;simp only [List.all_cons,List.all_nil,Bool.and_true]at hall;obtain⟨fa,na⟩:=vY hall;have la:=lK (nE a) _ a (Nat.le_refl _) fa;have hno:=sO fa;have harg:arg0 x'=cP a:=by rw [arg0,ha]
   have hia:idx x'.Args 0=some a:=by rw [ha];rfl
   rw [harg];generalize fT p h (kid x' 0) e.length=c0 at i0
   generalize fT p h (kid x' 1) e.length=c1 at i1
   have l0:=i0.len;have l1:=i1.len;have lc0:=aBq c0 e.length;have lc1:=aBq c1 e.length
   refine⟨?_,J_if hno (xO i0.j) (xO i1.j),fun fuel hf=>?_,fun fuel y hf hp hz hB=>?_,fun fuel y hf hp=>?_⟩
   ·dsimp only;rw [aBZ,hLN,List.length_cons,List.length_append];omega
   ·obtain _ | fuel:=fuel
    ·omega
    obtain _ | fuel:=fuel
    ·omega
    rw [gI];refine b1 hx ?_;rw [if_neg o2,if_neg o3,if_neg o4,if_pos o5];refine b1 (z:=Sum.inr (ifC (cP a) (dB c0 e.length) (dB c1 e.length),false)) ?_ rfl;refine b1 hia ?_;refine b1 (zU _ _ a fa (by omega) (by omega)) ?_
    refine b1 k0 ?_;refine b1 hself ?_;refine b1 (i0.cutD (by omega) (by omega)) ?_
    refine b1 k1 ?_;refine b1 hself ?_;refine b1 (i1.cutD (by omega) (by omega)) ?_
    rw [List.nil_append];refine b1 (fM (by omega)) ?_
    refine b1 (aU (by omega)) ?_
    refine b1 (aU (by omega)) ?_
    refine b1 (fM (by simp;omega)) ?_
    have lX:(cP a++[(⟨9,((cP a).length:Int)+2+((dB c0 e.length).length:Int),0⟩:CodeIns)]).length=(cP a).length+1:=by simp
    refine b1 (kZ (by omega) (by omega) (by omega) ((xO i0.j).jmp (by omega))) ?_
    have lY:(bh (cP a++[(⟨9,((cP a).length:Int)+2+((dB c0 e.length).length:Int),0⟩:CodeIns)]) (dB c0 e.length)).length=(cP a).length+1+(dB c0 e.length).length:=by rw [kI,lX]
    refine b1 (aU (by omega)) ?_
    refine b1 (aU (by omega)) ?_
    refine b1 (fM (by rw [List.length_append,List.length_singleton];omega)) ?_
    refine b1 (kZ (by omega) (by rw [List.length_append,List.length_singleton];omega) (by omega) ((xO i1.j).jmp (by omega))) ?_
    rw [ifC];have:((bh (cP a++[(⟨9,((cP a).length:Int)+2+((dB c0 e.length).length:Int),0⟩:CodeIns)]) (dB c0 e.length)).length:Int)+1+((dB c1 e.length).length:Int)=((cP a).length:Int)+2+((dB c0 e.length).length:Int)+((dB c1 e.length).length:Int):=by omega
    rw [this];rfl
   ·obtain _ | fuel:=fuel
    ·omega
    obtain _ | fuel:=fuel
    ·omega
    dsimp only at hB
    rw [aBZ]at hB;rw [gJ];refine b1 (by rw [hp];exact hx) ?_
    rw [if_neg o2,if_neg o3,if_neg o4,if_pos o5];refine b1 hia ?_;refine b1 (aAx _ _ a y fa (by omega) (by omega)) ?_
    generalize hC1:y.tape.code++cP a=C1
    have lC1:C1.length=y.tape.code.length+(cP a).length:=by rw [← hC1,List.length_append]
    refine b1 (z:=(wc y (C1++[⟨9,0,0⟩]),(C1.length:Int))) ?_ ?_
    ·rw [tD];exact b1 (kB (x:=wc y C1) (by show C1.length ≤ _;omega)) rfl
    refine b1 k0 ?_;refine b1 (by show idx y.sizes n=_;rw [hz];exact hself) ?_
    have lC2:(C1++[(⟨9,0,0⟩:CodeIns)]).length=C1.length+1:=by simp
    refine b1 (i0.kept (z:=e.length) (x:=wc y (C1++[⟨9,0,0⟩])) (by omega) hp hz (by show(C1++[_]).length+_ ≤ _;omega)) ?_
    generalize hA0:sh ((C1++[(⟨9,0,0⟩:CodeIns)]).length:Int) (dB c0 e.length)=A0
    have lA0:A0.length=(dB c0 e.length).length:=by rw [← hA0,kQ]
    have e3:wc (wc y (C1++[⟨9,0,0⟩])) ((wc y (C1++[⟨9,0,0⟩])).tape.code++sh ((wc y (C1++[⟨9,0,0⟩])).tape.code.length:Int) (dB c0 e.length))=wc y (C1++⟨9,0,0⟩ :: A0):=by
     show wc y (C1++[⟨9,0,0⟩]++sh ((C1++[(⟨9,0,0⟩:CodeIns)]).length:Int) (dB c0 e.length))=_
     rw [hA0,List.append_assoc];rfl
    rw [e3];refine b1 (z:=(wc y (C1++⟨9,0,0⟩ :: (A0++[⟨10,0,0⟩])),(C1.length:Int)+1+A0.length)) ?_ ?_
    ·rw [tD];refine b1 (kB (x:=wc y (C1++⟨9,0,0⟩ :: A0)) (by show(C1++_ :: A0).length ≤ _;rw [List.length_append,List.length_cons];omega)) ?_
     have:((C1++(⟨9,0,0⟩:CodeIns) :: A0).length:Int)=(C1.length:Int)+1+A0.length:=by rw [List.length_append,List.length_cons];omega
     show some (wc y (C1++⟨9,0,0⟩ :: A0++[⟨10,0,0⟩]),((C1++(⟨9,0,0⟩:CodeIns) :: A0).length:Int))=_
     rw [this,List.append_assoc];rfl
    have lC4:(C1++(⟨9,0,0⟩:CodeIns) :: (A0++[(⟨10,0,0⟩:CodeIns)])).length=C1.length+2+A0.length:=by rw [List.length_append,List.length_cons,List.length_append,List.length_singleton];omega
    refine b1 (z:=wc y (C1++⟨9,(C1.length:Int)+2+A0.length,0⟩ :: (A0++[⟨10,0,0⟩]))) ?_ ?_
    ·rw [sP];refine b1 (bL C1 (A0++[(⟨10,0,0⟩:CodeIns)]) ⟨9,0,0⟩) ?_;show some (wc y ((C1++(⟨9,0,0⟩:CodeIns) :: (A0++[(⟨10,0,0⟩:CodeIns)])).set ((C1.length:Int)).toNat _))=_
     rw [Int.toNat_natCast,lH];show some (wc y (C1++⟨9,((C1++(⟨9,0,0⟩:CodeIns) :: (A0++[(⟨10,0,0⟩:CodeIns)])).length:Int),0⟩ :: _))=_
     rw [lC4];have:((C1.length+2+A0.length:Nat):Int)=(C1.length:Int)+2+A0.length:=by omega
     rw [this]
    generalize hD:C1++(⟨9,(C1.length:Int)+2+A0.length,0⟩:CodeIns) :: A0=D
    have lD:D.length=C1.length+1+A0.length:=by rw [← hD,List.length_append,List.length_cons];omega
    have eD:C1++(⟨9,(C1.length:Int)+2+A0.length,0⟩:CodeIns) :: (A0++[⟨10,0,0⟩])=D++[⟨10,0,0⟩]:=by rw [← hD,List.append_assoc];rfl
    rw [eD];refine b1 k1 ?_;refine b1 (by show idx y.sizes n=_;rw [hz];exact hself) ?_
    have lD1:(D++[(⟨10,0,0⟩:CodeIns)]).length=D.length+1:=by simp
    refine b1 (i1.kept (z:=e.length) (x:=wc y (D++[⟨10,0,0⟩])) (by omega) hp hz (by show(D++[_]).length+_ ≤ _;omega)) ?_
    generalize hB0:sh ((D++[(⟨10,0,0⟩:CodeIns)]).length:Int) (dB c1 e.length)=B0
    have lB0:B0.length=(dB c1 e.length).length:=by rw [← hB0,kQ]
    have e6:wc (wc y (D++[⟨10,0,0⟩])) ((wc y (D++[⟨10,0,0⟩])).tape.code++sh ((wc y (D++[⟨10,0,0⟩])).tape.code.length:Int) (dB c1 e.length))=wc y (D++⟨10,0,0⟩ :: B0):=by
     show wc y (D++[⟨10,0,0⟩]++sh ((D++[(⟨10,0,0⟩:CodeIns)]).length:Int) (dB c1 e.length))=_
     rw [hB0,List.append_assoc];rfl
    rw [e6];refine b1 (z:=wc y (D++⟨10,(D.length:Int)+1+B0.length,0⟩ :: B0)) ?_ ?_
    ·have hat:(C1.length:Int)+1+A0.length=(D.length:Int):=by omega
     rw [sP];dsimp only
     rw [hat];refine b1 (bL D B0 ⟨10,0,0⟩) ?_;show some (wc y ((D++(⟨10,0,0⟩:CodeIns) :: B0).set ((D.length:Int)).toNat _))=_
     rw [Int.toNat_natCast,lH];show some (wc y (D++⟨10,((D++(⟨10,0,0⟩:CodeIns) :: B0).length:Int),0⟩ :: _))=_
     have:((D++(⟨10,0,0⟩:CodeIns) :: B0).length:Int)=(D.length:Int)+1+B0.length:=by rw [List.length_append,List.length_cons];omega
     rw [this]
    rw [if_at (D:=D) hno hC1.symm hA0.symm hD.symm hB0.symm]
   ·obtain _ | fuel:=fuel
    ·omega
    rw [jN];refine b1 (by rw [hp];exact hx) ?_
    rw [if_neg (by omega),if_neg (by omega)];rfl
  rw [if_neg o5];have plain:∀ (op a b:Int),op≠9 ∧ op≠10 → (∀ fuel,3000000+2*(h+1) ≤ fuel → gI fuel p sz n=some ([⟨op,a,b⟩],false)) → (∀ fuel (y:Code_compiler),3000000+2*(h+1) ≤ fuel → y.p=p → y.tape.code.length ≤ 100000000 → gJ fuel y n=some (wc y (y.tape.code++[⟨op,a,b⟩]))) → lQ p sz (h+1) (n,e) ([⟨op,a,b⟩],false):=fun op a b g1 g2 g3=>
   ⟨(one op a b g1).1,(one op a b g1).2,g2,fun fuel y hf hp hz hB=>by rw [sF (jR g1)];exact g3 fuel y hf hp (by omega),fun fuel y hf hp=>by
     obtain _ | fuel:=fuel
     ·omega
     rw [jN];refine b1 (by rw [hp];exact hx) ?_
     rw [if_neg (by omega),if_neg (by omega)];rfl⟩
  by_cases o6:x'.Op=6
  ·rw [if_pos o6];have hk1:x'.Kids.length=1:=by rcases hT with g | g | g | g | g <;> omega
   obtain⟨k0,kk⟩:=nJ hk1;refine plain _ _ _ (by omega) (fun fuel hf=>?_) (fun fuel y hf hp hB=>?_)
   ·obtain _ | fuel:=fuel
    ·omega
    rw [gI];refine b1 hx ?_;rw [if_neg o2,if_neg o3,if_neg o4,if_neg o5,if_pos o6];refine b1 (z:=Sum.inr ([⟨13,x'.N,kid x' 0⟩],false)) ?_ rfl;refine b1 k0 ?_;rfl
   ·obtain _ | fuel:=fuel
    ·omega
    rw [gJ];refine b1 (by rw [hp];exact hx) ?_
    rw [if_neg o2,if_neg o3,if_neg o4,if_neg o5,if_pos o6];refine b1 k0 ?_;exact b1 (kB (x:=y) (by omega)) rfl
  rw [if_neg o6];by_cases o8:x'.Op=8
  ·rw [if_pos o8];have hk1:x'.Kids.length=1:=by rcases hT with g | g | g | g | g <;> omega
   obtain⟨k0,kk⟩:=nJ hk1;refine plain _ _ _ (by omega) (fun fuel hf=>?_) (fun fuel y hf hp hB=>?_)
   ·obtain _ | fuel:=fuel
    ·omega
    rw [gI];refine b1 hx ?_;rw [if_neg o2,if_neg o3,if_neg o4,if_neg o5,if_neg o6,if_pos o8];refine b1 (z:=Sum.inr ([⟨15,x'.N,kid x' 0⟩],false)) ?_ rfl;refine b1 k0 ?_;rfl
   ·obtain _ | fuel:=fuel
    ·omega
    rw [gJ];refine b1 (by rw [hp];exact hx) ?_
    rw [if_neg o2,if_neg o3,if_neg o4,if_neg o5,if_neg o6,if_pos o8];refine b1 k0 ?_;exact b1 (kB (x:=y) (by omega)) rfl
  rw [if_neg o8];by_cases o7:x'.Op=7
  ·rw [if_pos o7];refine plain _ _ _ (by omega) (fun fuel hf=>?_) (fun fuel y hf hp hB=>?_)
   ·obtain _ | fuel:=fuel
    ·omega
    rw [gI];refine b1 hx ?_;rw [if_neg o2,if_neg o3,if_neg o4,if_neg o5,if_neg o6,if_neg o8,if_pos o7];rfl
   ·obtain _ | fuel:=fuel
    ·omega
    rw [gJ];refine b1 (by rw [hp];exact hx) ?_
    rw [if_neg o2,if_neg o3,if_neg o4,if_neg o5,if_neg o6,if_neg o8,if_pos o7];exact b1 (kB (x:=y) (by omega)) rfl
  rw [if_neg o7];refine⟨(small [] (fun i hi=>by cases hi) (by simp)).1,(small [] (fun i hi=>by cases hi) (by simp)).2,fun fuel hf=>?_,fun fuel y hf hp hz hB=>?_,fun fuel y hf hp=>?_⟩
  ·obtain _ | fuel:=fuel
   ·omega
   rw [gI];refine b1 hx ?_;rw [if_neg o2,if_neg o3,if_neg o4,if_neg o5,if_neg o6,if_neg o8,if_neg o7];rfl
  ·obtain _ | fuel:=fuel
   ·omega
   rw [gJ];refine b1 (by rw [hp];exact hx) ?_
   rw [if_neg o2,if_neg o3,if_neg o4,if_neg o5,if_neg o6,if_neg o8,if_neg o7,sh_nil,List.append_nil];rfl
  ·obtain _ | fuel:=fuel
   ·omega
   rw [jN];refine b1 (by rw [hp];exact hx) ?_
   rw [if_neg (by omega),if_neg (by omega)];rfl
open Go.SX Go.SW Go.Dt
def fP (d:ScopeDef):List Int:=d.Rules.map (·.Node)++d.Spots.map (·.Node)
def goN (x:ScopeNode):List Int:=if x.Op=6 ∨ x.Op=8 then [kid x 0] else []
def cS (p:ScopeProg):List Int:=p.Main :: (p.Defs.flatMap fP++p.Nodes.flatMap goN)
def rsub (p:ScopeProg) (x:ScopeNode) (e:E):List (Int × E):=
 if x.Op=4 then match idx p.Defs x.N with
  | some d=>d.Rules.map (fun r=>(r.Node,ruE e x.N d r))++d.Spots.map (fun y=>(y.Node,inE e x.N d))
  | none=>[]
 else if x.Op=6 ∨ x.Op=8 then x.Kids.map (fun k=>(k,e)) else []
def isub (p:ScopeProg) (x:ScopeNode) (e:E):List (Int × E):=
 if x.Op=4 then match idx p.Defs x.N with
  | some d=>x.Kids.map (fun k=>(k,inE e x.N d))
  | none=>[]
 else if x.Op=6 ∨ x.Op=8 then [] else x.Kids.map (fun k=>(k,e))
theorem aG8 (p:ScopeProg) (x:ScopeNode) (e:E):eG p x e=rsub p x e++isub p x e:=by
 unfold eG rsub isub
 by_cases h:x.Op=4
 ·rw [if_pos h,if_pos h,if_pos h];cases idx p.Defs x.N with
  | none=>rfl
  | some d=>dsimp only;rw [List.append_assoc]
 ·rw [if_neg h,if_neg h,if_neg h];by_cases g:x.Op=6 ∨ x.Op=8
  ·rw [if_pos g,if_pos g,List.append_nil]
  ·rw [if_neg g,if_neg g];rfl
def bgAt (p:ScopeProg) (m:Int):List Int:=(idx p.Defs m).elim [] fP
def goAt (p:ScopeProg) (n:Int):List Int:=(idx p.Nodes n).elim [] goN
def rcX (p:ScopeProg) (x:ScopeNode):List Int:=if x.Op=4 then bgAt p x.N else if x.Op=6 ∨ x.Op=8 then x.Kids else []
def rc (p:ScopeProg) (n:Int):List Int:=match idx p.Nodes n with | some x=>rcX p x | none=>[]
theorem rsub_rc (p:ScopeProg) (x:ScopeNode) (e:E):(rsub p x e).map (·.1)=rcX p x:=by
 unfold rsub rcX bgAt
 by_cases h:x.Op=4
 ·rw [if_pos h,if_pos h];cases idx p.Defs x.N with
  | none=>rfl
  | some d=>simp [fP,Function.comp_def,Option.elim]
 ·rw [if_neg h,if_neg h];by_cases g:x.Op=6 ∨ x.Op=8
  ·rw [if_pos g,if_pos g];simp [Function.comp_def]
  ·rw [if_neg g,if_neg g];rfl
def RT (p:ScopeProg) (h:Nat) (q:Int × E):List Int:=((LN p h q).map (·.1)).flatMap (rc p)
theorem kY {p:ScopeProg} {h:Nat} {q:Int × E} {x:ScopeNode} (hx:idx p.Nodes q.1=some x):LN p (h+1) q=q :: (eG p x q.2).flatMap (LN p h):=by simp only [LN,hx]
theorem RT_succ {p:ScopeProg} {h:Nat} {q:Int × E} {x:ScopeNode} (hx:idx p.Nodes q.1=some x):RT p (h+1) q=rcX p x++(eG p x q.2).flatMap (RT p h):=by
 unfold RT
 rw [kY hx,List.map_cons,List.flatMap_cons,List.map_flatMap,List.flatMap_assoc]
 congr 1
 unfold rc;rw [hx]
theorem aAH {p:ScopeProg} {h:Nat} {a:Int} (l:List (Int × E)) (ih:∀ k∈l,(k.1 :: RT p h k).count a ≤ ((LN p h k).map (·.1)).count a):(l.map (·.1)).count a+(l.flatMap (RT p h)).count a ≤ ((l.flatMap (LN p h)).map (·.1)).count a:=by
 induction l with
 | nil=>simp
 | cons k l ihl=>
  have h1:=ih k (.head _);have h2:=ihl fun q hq=>ih q (.tail _ hq)
  rw [List.count_cons]at h1;rw [List.map_cons,List.count_cons,List.flatMap_cons,List.flatMap_cons,List.map_append,List.count_append,List.count_append];omega
theorem aBQ {p:ScopeProg} (a:Int):∀ (h:Nat) (q:Int × E),Tr p h q → (q.1 :: RT p h q).count a ≤ ((LN p h q).map (·.1)).count a
 | 0,q,hT=>hT.elim
 | h+1,q,⟨x,hx,_,_,hK⟩=>by
  have hs:=aG8 p x q.2;have hr:=aAH (a:=a) (h:=h) (rsub p x q.2) (fun k hk=>aBQ a h k (hK k (by rw [hs];exact List.mem_append_left _ hk)))
  have hi:=aAH (a:=a) (h:=h) (isub p x q.2) (fun k hk=>aBQ a h k (hK k (by rw [hs];exact List.mem_append_right _ hk)))
  rw [RT_succ hx,kY hx,List.map_cons,List.count_cons,List.count_cons,hs,List.flatMap_append,List.flatMap_append,List.map_append,List.count_append,List.count_append,List.count_append,← rsub_rc p x q.2];omega
theorem aEx {l:List Int}:l.Nodup ↔ ∀ a,l.count a ≤ 1:=by
 induction l with
 | nil=>simp
 | cons b l ih=>
  rw [List.nodup_cons,ih];constructor
  ·rintro⟨h1,h2⟩ a
   rw [List.count_cons];by_cases e:b=a
   ·subst e;rw [List.count_eq_zero.2 h1];simp
   ·have:=h2 a;rw [if_neg (by simpa using e)];omega
  ·intro h;refine⟨fun hb=>?_,fun a=>?_⟩
   ·have h1:=h b;have:=List.count_pos_iff.2 hb;rw [List.count_cons_self]at h1;omega
   ·have h1:=h a;rw [List.count_cons]at h1;omega
def hd (p:ScopeProg) (n:Int):List Int:=match idx p.Nodes n with | some x=>if x.Op=4 then [x.N] else [] | none=>[]
theorem HN_hd {p:ScopeProg}:∀ (h:Nat) (q:Int × E),(HN p h q).map (·.1)=((LN p h q).map (·.1)).flatMap (hd p)
 | 0,q=>rfl
 | h+1,q=>by
  cases hx:idx p.Nodes q.1 with
  | none=>simp [HN,LN,hx,hd]
  | some x=>
   rw [kY hx,List.map_cons,List.flatMap_cons,List.map_flatMap,List.flatMap_assoc];have:HN p (h+1) q=(if x.Op=4 then [(x.N,q.1)] else [])++(eG p x q.2).flatMap (HN p h):=by simp only [HN,hx]
   rw [this,List.map_append,List.map_flatMap];congr 1
   ·unfold hd;rw [hx];dsimp only;split <;> rfl
   ·congr 1;funext k;exact HN_hd h k
def gQ (n:Nat):List Int:=(List.range n).map fun i:Nat=>(i:Int)
theorem uX {n:Nat} {a:Int}:a∈gQ n ↔ 0 ≤ a ∧ a<(n:Int):=by
 unfold gQ
 rw [List.mem_map]
 constructor
 ·rintro⟨i,hi,rfl⟩;have:=List.mem_range.1 hi;omega
 ·rintro⟨h1,h2⟩;exact⟨a.toNat,List.mem_range.2 (by omega),by omega⟩
theorem aBk (n:Nat):(gQ n).Nodup:=by
 unfold gQ
 rw [List.Nodup,List.pairwise_map]
 exact List.nodup_range.imp fun h e=>h (by omega)
theorem aEK {α β:Type} (f:α → List β):∀ (l:List α),(gQ l.length).flatMap (fun i=>(idx l i).elim [] f)=l.flatMap f:=by
 intro l
 have key:∀ (suf pre:List α),(((List.range' pre.length suf.length).map fun i:Nat=>(i:Int)).flatMap (fun i=>(idx (pre++suf) i).elim [] f))=suf.flatMap f:=by
  intro suf;induction suf with
  | nil=>intro pre;rfl
  | cons e suf ih=>
   intro pre;have:=ih (pre++[e]);rw [List.length_append,List.length_singleton,← eB pre suf e]at this;rw [List.length_cons,List.range'_succ,List.map_cons,List.flatMap_cons,List.flatMap_cons,this,bL];rfl
 have:=key l []
 rw [List.length_nil,List.nil_append]at this
 unfold gQ
 rw [List.range_eq_range']
 exact this
theorem aCf {α β:Type} {f g:α → List β}:∀ {l:List α},(∀ a∈l,f a=g a) → l.flatMap f=l.flatMap g
 | [],_=>rfl
 | a :: l,h=>by rw [List.flatMap_cons,List.flatMap_cons,h a (.head _),aCf fun b hb=>h b (.tail _ hb)]
theorem aC9 {α β:Type} (f g:α → List β):∀ l:List α,(l.flatMap fun x=>f x++g x).Perm (l.flatMap f++l.flatMap g)
 | []=> .nil
 | a :: l=>by
  rw [List.flatMap_cons,List.flatMap_cons,List.flatMap_cons];have ih:=aC9 f g l;have h1:(f a++g a++(l.flatMap fun x=>f x++g x)).Perm (f a++g a++(l.flatMap f++l.flatMap g)):=ih.append_left _
  refine h1.trans ?_;rw [List.append_assoc,List.append_assoc];refine List.Perm.append_left _ ?_;rw [← List.append_assoc,← List.append_assoc];exact(List.perm_append_comm).append_right _
theorem aGq {p:ScopeProg} {s:VS} (h:eT p=some s):((cS p).Nodup ∧ ∀ b∈cS p,0 ≤ b ∧ b<(p.Nodes.length:Int)) ∧ ((LN p p.Nodes.length (eA p)).map (·.1)).Perm (gQ p.Nodes.length) ∧ ((HN p p.Nodes.length (eA p)).map (·.1)).Perm (gQ p.Defs.length) ∧ (p.Main :: RT p p.Nodes.length (eA p)).Perm (cS p):=by
 obtain⟨H,hH,_,_,_,hT,_,hn,hd1,_,hc,hcd⟩:=aA5 h
 subst hH
 have hmem:∀ b∈LN p p.Nodes.length (eA p),0 ≤ b.1 ∧ b.1<(p.Nodes.length:Int):=by
  have go:∀ (h:Nat) (q:Int × E),Tr p h q → ∀ b∈LN p h q,0 ≤ b.1 ∧ b.1<(p.Nodes.length:Int):=by
   intro h;induction h with
   | zero=>intro q hT;exact hT.elim
   | succ h ih=>
    rintro q ⟨x,hx,h0,_,hK⟩ b hb
    rw [kY hx]at hb;cases hb with
    | head=>exact rT hx
    | tail _ hb=>
     obtain⟨k,hk,hb⟩:=List.mem_flatMap.1 hb;exact ih k (hK k hk) b hb
  exact go p.Nodes.length _ hT
 have hall:((LN p p.Nodes.length (eA p)).map (·.1)).Perm (gQ p.Nodes.length):=(List.perm_ext_iff_of_nodup hn (aBk _)).2 fun a=>by
  rw [uX];constructor
  ·intro ha;obtain⟨b,hb,rfl⟩:=List.mem_map.1 ha;exact hmem b hb
  ·rintro⟨h1,h2⟩;obtain⟨e,he⟩:=hc a h1 h2;exact List.mem_map.2 ⟨_,he,rfl⟩
 have hhead:((HN p p.Nodes.length (eA p)).map (·.1)).Perm (gQ p.Defs.length):=(List.perm_ext_iff_of_nodup hd1 (aBk _)).2 fun a=>by
  rw [uX];constructor
  ·intro ha;rw [HN_hd]at ha;obtain⟨n,hn,ha⟩:=List.mem_flatMap.1 ha;obtain⟨b,hb,rfl⟩:=List.mem_map.1 hn;have go:∀ (h:Nat) (q:Int × E),Tr p h q → ∀ b∈LN p h q,∀ a∈hd p b.1,0 ≤ a ∧ a<(p.Defs.length:Int):=by
    intro h;induction h with
    | zero=>intro q hT;exact hT.elim
    | succ h ih=>
     rintro q ⟨x,hx,h0,hok,hK⟩ b hb a ha
     rw [kY hx]at hb;cases hb with
     | head=>
      unfold hd at ha;rw [hx]at ha;dsimp only at ha
      split at ha
      ·rename_i h4;rw [List.mem_singleton.1 ha];obtain⟨_,_,d,hd,_⟩:=ok_def hok h4;exact rT hd
      ·cases ha
     | tail _ hb=>
      obtain⟨k,hk,hb⟩:=List.mem_flatMap.1 hb;exact ih k (hK k hk) b hb a ha
   exact go p.Nodes.length _ hT b hb a ha
  ·rintro⟨h1,h2⟩;obtain⟨e,he⟩:=hcd a h1 h2;exact List.mem_map.2 ⟨_,he,rfl⟩
 have hgo:∀ (h:Nat) (q:Int × E),Tr p h q → ∀ b∈LN p h q,rc p b.1=(hd p b.1).flatMap (bgAt p)++goAt p b.1:=by
  intro h;induction h with
  | zero=>intro q hT;exact hT.elim
  | succ h ih=>
   rintro q ⟨x,hx,h0,hok,hK⟩ b hb
   rw [kY hx]at hb;cases hb with
   | head=>
    unfold rc hd goAt;rw [hx];dsimp only [Option.elim];unfold rcX goN;by_cases h4:x.Op=4
    ·rw [if_pos h4,if_pos h4,if_neg (by omega)];simp
    ·rw [if_neg h4,if_neg h4];by_cases h6:x.Op=6 ∨ x.Op=8
     ·rw [if_pos h6,if_pos h6];have:x.Kids.length=1:=by rcases hok with g | g | g | g | g <;> omega
      exact(nJ this).2
     ·rw [if_neg h6,if_neg h6];rfl
   | tail _ hb=>
    obtain⟨k,hk,hb⟩:=List.mem_flatMap.1 hb;exact ih k (hK k hk) b hb
 have hRT:(RT p p.Nodes.length (eA p)).Perm (p.Defs.flatMap fP++p.Nodes.flatMap goN):=by
  have e1:RT p p.Nodes.length (eA p)=((LN p p.Nodes.length (eA p)).map (·.1)).flatMap fun n=>(hd p n).flatMap (bgAt p)++goAt p n:=by
   unfold RT;refine aCf fun n hn=>?_
   obtain⟨b,hb,rfl⟩:=List.mem_map.1 hn;exact hgo p.Nodes.length _ hT b hb
  rw [e1];refine(aC9 _ _ _).trans (List.Perm.append ?_ ?_)
  ·rw [← List.flatMap_assoc,← HN_hd];have:=hhead.flatMap_right (bgAt p);refine this.trans ?_;rw [← aEK fP p.Defs];exact .refl _
  ·refine(hall.flatMap_right _).trans ?_;rw [← aEK goN p.Nodes];exact .refl _
 have hP:(p.Main :: RT p p.Nodes.length (eA p)).Perm (cS p):=hRT.cons _
 have hcnt:∀ a,(cS p).count a ≤ ((LN p p.Nodes.length (eA p)).map (·.1)).count a:=fun a=>by
  rw [← hP.count_eq a];exact aBQ a p.Nodes.length (eA p) hT
 refine⟨⟨aEx.2 fun a=>Nat.le_trans (hcnt a) (aEx.1 hn a),fun b hb=>?_⟩,hall,hhead,hP⟩
 have h1:=List.count_pos_iff.2 hb
 have h2:=hcnt b
 have h3:=List.count_pos_iff.1 (show 0<((LN p p.Nodes.length (eA p)).map (·.1)).count b by omega)
 obtain⟨c,hc,rfl⟩:=List.mem_map.1 h3
 exact hmem c hc
theorem roots_ok {p:ScopeProg} {s:VS} (h:eT p=some s):(cS p).Nodup ∧ ∀ b∈cS p,0 ≤ b ∧ b<(p.Nodes.length:Int):=(aGq h).1
open Go.SX Go.SW Go.Dt
theorem Tr.up {p:ScopeProg}:∀ {h:Nat} {q:Int × E},Tr p h q → Tr p (h+1) q
 | 0,q,hT=>hT.elim
 | h+1,q,⟨x,hx,h0,hok,hK⟩=>⟨x,hx,h0,hok,fun k hk=>Tr.up (hK k hk)⟩
theorem Ta.up {p:ScopeProg}:∀ {h:Nat} {q:Int × E},Ta p h q → Ta p (h+1) q
 | 0,q,hT=>hT.elim
 | h+1,q,⟨x,hx,hok,hK⟩=>⟨x,hx,hok,fun k hk=>Ta.up (hK k hk)⟩
theorem LN_up {p:ScopeProg}:∀ {h:Nat} {q:Int × E},Tr p h q → LN p (h+1) q=LN p h q
 | 0,q,hT=>hT.elim
 | h+1,q,⟨x,hx,h0,hok,hK⟩=>by
  rw [kY (h:=h+1) hx,kY (h:=h) hx,aCf fun k hk=>LN_up (hK k hk)]
theorem below {p:ScopeProg}:∀ (h:Nat) (q:Int × E),Tr p h q → Ta p h q → ∀ b∈LN p h q,Tr p h b ∧ Ta p h b ∧ (∀ c∈LN p h b,c∈LN p h q) ∧ (LN p h b).length ≤ (LN p h q).length
 | 0,q,hT,_,_,_=>hT.elim
 | h+1,q,hT,hA,b,hb=>by
  have hT':=hT;have hA':=hA
  obtain⟨x,hx,h0,hok,hK⟩:=hT;obtain⟨x',hx',_,hKA⟩:=hA;have exx:x'=x:=by rw [hx]at hx';exact(Option.some.inj hx').symm
  subst exx;rw [kY hx]at hb;cases hb with
  | head=>exact⟨hT',hA',fun c hc=>hc,Nat.le_refl _⟩
  | tail _ hb=>
   obtain⟨k,hk,hb⟩:=List.mem_flatMap.1 hb;obtain⟨a1,a2,a3,a4⟩:=below h k (hK k hk) (hKA k hk) b hb;refine⟨a1.up,a2.up,fun c hc=>?_,?_⟩
   ·rw [LN_up a1]at hc;rw [kY hx];exact .tail _ (List.mem_flatMap.2 ⟨k,hk,a3 c hc⟩)
   ·rw [LN_up a1,kY hx];obtain⟨u,v,huv⟩:=List.append_of_mem hk;rw [List.length_cons,huv,List.flatMap_append,List.flatMap_cons,List.length_append,List.length_append];omega
theorem aCO {p:ScopeProg} {h:Nat} {q:Int × E} (hT:Tr p h q):∃ x,idx p.Nodes q.1=some x ∧ okT p x q.2.length:=by
 cases h with
 | zero=>exact hT.elim
 | succ h=>obtain⟨x,hx,_,hok,_⟩:=hT;exact⟨x,hx,hok⟩
structure Fd (p:ScopeProg) (sz:List Int) (H:Nat):Prop where
 sm:SmP p
 h60:H ≤ 60
 nl:p.Nodes.length=H
 dl:p.Defs.length ≤ 12
 fl:p.Free.length ≤ 12
 node:∀ n:Int,0 ≤ n → n<p.Nodes.length → ∃ e:E,Tr p H (n,e) ∧ Ta p H (n,e) ∧ lQ p sz H (n,e) (fT p H n e.length) ∧ idx sz n=some (e.length:Int) ∧ (LN p H (n,e)).length ≤ 60
 nd:(cS p).Nodup
 rg:∀ b∈cS p,0 ≤ b ∧ b<(p.Nodes.length:Int)
 ok:∀ d∈p.Defs,okD d=true
 kd:∀ x∈p.Nodes,(x.Op=6 ∨ x.Op=8) → x.Kids.length=1
theorem chk_fd {p:ScopeProg} {s:VS} (hp:SmP p) (h:eT p=some s):∃ H,Fd p s.sz H:=by
 have hta:=chk_ta h
 obtain⟨hr1,hr2⟩:=roots_ok h
 have hdefs:=aCJ h
 obtain⟨H,hH,h60,hdl,hfl,hT,_,hn,_,hsz,hc,_⟩:=aA5 h
 rw [hH]at hta
 have hlen:(LN p H (eA p)).length ≤ 60:=by
  have hsub:∀ a∈(LN p H (eA p)).map (·.1),a∈gQ p.Nodes.length:=fun a ha=>by
   obtain⟨b,hb,rfl⟩:=List.mem_map.1 ha;obtain⟨x,hx,_⟩:=aCO (below H _ hT hta b hb).1;rw [uX];exact rT hx
  have hp:((LN p H (eA p)).map (·.1)).Perm (gQ p.Nodes.length):=(List.perm_ext_iff_of_nodup hn (aBk _)).2 fun a=>⟨hsub a,fun ha=>by
   rw [uX]at ha;obtain⟨e,he⟩:=hc a ha.1 ha.2;exact List.mem_map.2 ⟨_,he,rfl⟩⟩
  have:=hp.length_eq;unfold gQ at this;simp only [List.length_map,List.length_range]at this;omega
 have hnode:∀ n:Int,0 ≤ n → n<p.Nodes.length → ∃ e:E,Tr p H (n,e) ∧ Ta p H (n,e) ∧ lQ p s.sz H (n,e) (fT p H n e.length) ∧ idx s.sz n=some (e.length:Int) ∧ (LN p H (n,e)).length ≤ 60:=fun n h0 h1=>by
  obtain⟨e,he⟩:=hc n h0 h1;obtain⟨a1,a2,a3,a4⟩:=below H _ hT hta (n,e) he;exact⟨e,a1,a2,aE7 H (n,e) a1 a2 (fun b hb=>hsz b (a3 b hb)) (by omega),hsz _ he,by omega⟩
 refine⟨H,hp,h60,hH,hdl,hfl,hnode,hr1,hr2,hdefs,fun x hx h6=>?_⟩
 obtain⟨n,hn⟩:=List.mem_iff_getElem?.1 hx
 have hnl:=(List.getElem?_eq_some_iff.1 hn).1
 obtain⟨e,hT,_⟩:=hnode n (by omega) (by omega)
 obtain⟨x',hx',hok⟩:=aCO hT
 have:idx p.Nodes (n:Int)=some x:=fR hn
 rw [this]at hx'
 cases hx'
 rcases hok with g | g | g | g | g <;> omega
theorem pr2 {d:ScopeDef} (suf:List ScopeRule):∀ (pre:List ScopeRule) (k:Nat) (acc:List Int),d.Rules=pre++suf → suf.length<k → pre.length+suf.length ≤ 3000000 → acc.length+suf.length ≤ 4000000 → nU d k acc (pre.length:Int)=some (acc++suf.map (·.Node)):=by
 induction suf with
 | nil=>
  intro pre k acc h hk _ _;obtain _ | k:=k
  ·omega
  rw [nU,h,if_neg (by simp)];simp
 | cons e suf ih=>
  intro pre k acc h hk hB hl;obtain _ | k:=k
  ·omega
  simp only [List.length_cons]at hk hB hl;rw [nU,if_pos (by rw [h];exact bX _ _ _)];refine b1 (by rw [h];exact bL _ _ _) ?_
  refine b1 (fM (by simp;omega)) ?_
  refine b1 (aU (by omega)) ?_
  rw [bN pre e,ih (pre++[e]) k _ (by rw [h];simp) (by omega) (by simp;omega) (by simp;omega)];simp
theorem pr3 {d:ScopeDef} (suf:List ScopeSpot):∀ (pre:List ScopeSpot) (k:Nat) (acc:List Int),d.Spots=pre++suf → suf.length<k → pre.length+suf.length ≤ 3000000 → acc.length+suf.length ≤ 4000000 → nF d k acc (pre.length:Int)=some (acc++suf.map (·.Node)):=by
 induction suf with
 | nil=>
  intro pre k acc h hk _ _;obtain _ | k:=k
  ·omega
  rw [nF,h,if_neg (by simp)];simp
 | cons e suf ih=>
  intro pre k acc h hk hB hl;obtain _ | k:=k
  ·omega
  simp only [List.length_cons]at hk hB hl;rw [nF,if_pos (by rw [h];exact bX _ _ _)];refine b1 (by rw [h];exact bL _ _ _) ?_
  refine b1 (fM (by simp;omega)) ?_
  refine b1 (aU (by omega)) ?_
  rw [bN pre e,ih (pre++[e]) k _ (by rw [h];simp) (by omega) (by simp;omega) (by simp;omega)];simp
theorem aCm {d:ScopeDef} (h:okD d=true):(fP d).length ≤ 60 ∧ d.Rules.length ≤ 30 ∧ d.Spots.length ≤ 30:=by
 have:=qM h
 unfold fP
 rw [List.length_append,List.length_map,List.length_map];omega
theorem pr1 {fuel:Nat} {p:ScopeProg} (hf:1000 ≤ fuel) (suf:List ScopeDef):∀ (pre:List ScopeDef) (k:Nat) (acc:List Int),p.Defs=pre++suf → suf.length<k → pre.length+suf.length ≤ 3000 → acc.length+60*suf.length ≤ 3000000 → (∀ d∈suf,okD d=true) → nQ fuel p k acc (pre.length:Int)=some (acc++suf.flatMap fP):=by
 induction suf with
 | nil=>
  intro pre k acc h hk _ _ _;obtain _ | k:=k
  ·omega
  rw [nQ,h,if_neg (by simp)];simp
 | cons e suf ih=>
  intro pre k acc h hk hB hl ho;obtain _ | k:=k
  ·omega
  simp only [List.length_cons]at hk hB hl;obtain⟨d0,d1,d2⟩:=aCm (ho e (.head _));have e2:=pr2 (d:=e) e.Rules [] fuel acc rfl (by omega) (by simp;omega) (by omega)
  have e3:=pr3 (d:=e) e.Spots [] fuel (acc++e.Rules.map (·.Node)) rfl (by omega) (by simp;omega) (by simp;omega)
  simp only [List.length_nil,Int.natCast_zero]at e2 e3;rw [nQ,if_pos (by rw [h];exact bX _ _ _)];refine b1 (z:=acc++fP e) ?_ ?_
  ·refine b1 (by rw [h];exact bL _ _ _) ?_
   refine b1 e2 ?_;rw [e3];simp [fP]
  refine b1 (aU (by omega)) ?_
  rw [bN pre e,ih (pre++[e]) k _ (by rw [h];simp) (by omega) (by simp;omega) (by rw [List.length_append];omega) (fun d hd=>ho d (.tail _ hd))];simp
theorem pr4 {p:ScopeProg} (suf:List ScopeNode):∀ (pre:List ScopeNode) (k:Nat) (acc:List Int),p.Nodes=pre++suf → suf.length<k → pre.length+suf.length ≤ 3000 → acc.length+suf.length ≤ 3000000 → (∀ x∈suf,(x.Op=6 ∨ x.Op=8) → x.Kids.length=1) → mZ p k acc (pre.length:Int)=some (acc++suf.flatMap goN):=by
 induction suf with
 | nil=>
  intro pre k acc h hk _ _ _;obtain _ | k:=k
  ·omega
  rw [mZ,h,if_neg (by simp)];simp
 | cons e suf ih=>
  intro pre k acc h hk hB hl ho;obtain _ | k:=k
  ·omega
  simp only [List.length_cons]at hk hB hl;have hg:(goN e).length ≤ 1:=by unfold goN;split <;> simp
  rw [mZ,if_pos (by rw [h];exact bX _ _ _)];refine b1 (z:=acc++goN e) ?_ ?_
  ·refine b1 (by rw [h];exact bL _ _ _) ?_
   unfold goN;by_cases h6:e.Op=6
   ·have:=(nJ (ho e (.head _) (.inl h6))).1;rw [if_pos h6,if_pos (.inl h6)];refine b1 this ?_;exact b1 (fM (by simp;omega)) rfl
   rw [if_neg h6];by_cases h8:e.Op=8
   ·have:=(nJ (ho e (.head _) (.inr h8))).1;rw [if_pos h8,if_pos (.inr h8)];refine b1 this ?_;exact b1 (fM (by simp;omega)) rfl
   rw [if_neg h8,if_neg (by omega),List.append_nil]
  refine b1 (aU (by omega)) ?_
  rw [bN pre e,ih (pre++[e]) k _ (by rw [h];simp) (by omega) (by simp;omega) (by rw [List.length_append];omega) (fun d hd=>ho d (.tail _ hd))];simp
theorem kN {α β:Type} {f:α → List β} {n:Nat}:∀ {l:List α},(∀ a∈l,(f a).length ≤ n) → (l.flatMap f).length ≤ n*l.length
 | [],_=>by simp
 | a :: l,h=>by
  have h1:=h a (.head _);have h2:=kN fun b hb=>h b (.tail _ hb)
  rw [List.flatMap_cons,List.length_append,List.length_cons,Nat.mul_add];omega
theorem aHY {p:ScopeProg} {sz:List Int} {H fuel:Nat} (h:Fd p sz H) (hf:3000000 ≤ fuel):vP fuel p=some (dT (cS p)):=by
 have h1:=h.nl;have h2:=h.h60;have h3:=h.dl
 have hl:=kN (f:=fP) (n:=60) fun d hd=>(aCm (h.ok d hd)).1
 have e1:=pr1 (fuel:=fuel) (p:=p) (by omega) p.Defs [] fuel [p.Main] rfl (by omega) (by simp;omega) (by simp;omega) h.ok
 have e4:=pr4 (p:=p) p.Nodes [] fuel ([p.Main]++p.Defs.flatMap fP) rfl (by omega) (by simp;omega) (by rw [List.length_append,List.length_singleton];omega) h.kd
 simp only [List.length_nil,Int.natCast_zero]at e1 e4
 rw [vP]
 refine b1 e1 ?_
 refine b1 e4 ?_
 refine b1 rfl ?_
 simp [cS]
def eE (u:List Bool) (l:List Int):List Bool:=l.foldl (fun u j=>u.set j.toNat true) u
theorem vJ (u:List Bool) (a b:List Int):eE u (a++b)=eE (eE u a) b:=by simp [eE]
theorem oJ:∀ (l:List Int) (u:List Bool),(∀ j∈l,0 ≤ j ∧ j<(u.length:Int)) → (eE u l).length=u.length ∧ ∀ i:Nat,(eE u l)[i]? =some true ↔ u[i]? =some true ∨ (i:Int)∈l
 | [],u,_=>⟨rfl,fun i=>by simp [eE]⟩
 | j :: l,u,h=>by
  have hj:=h j (.head _);obtain⟨a,b⟩:=oJ l (u.set j.toNat true) (fun q hq=>by rw [List.length_set];exact h q (.tail _ hq))
  refine⟨by rw [show eE u (j :: l)=eE (u.set j.toNat true) l from rfl,a,List.length_set],fun i=>?_⟩
  rw [show eE u (j :: l)=eE (u.set j.toNat true) l from rfl,b,List.getElem?_set];by_cases e:j.toNat=i
  ·rw [if_pos e,if_pos (by omega)];have:(i:Int)=j:=by omega
   simp [this]
  ·rw [if_neg e];have:(i:Int)≠j:=by omega
   simp [this]
theorem dr2 {p:ScopeProg} {x:Int} {d:ScopeDef} (hd:idx p.Defs x=some d) (suf:List ScopeRule):∀ (pre:List ScopeRule) (k:Nat) (u:List Bool),d.Rules=pre++suf → suf.length<k → pre.length+suf.length ≤ 3000000 → (∀ r∈suf,0 ≤ r.Node ∧ r.Node<(u.length:Int)) → oX p x k u (pre.length:Int)=some (eE u (suf.map (·.Node))):=by
 induction suf with
 | nil=>
  intro pre k u h hk _ _;obtain _ | k:=k
  ·omega
  rw [oX];refine b1 hd ?_;rw [h,if_neg (by simp)];rfl
 | cons e suf ih=>
  intro pre k u h hk hB hu;obtain _ | k:=k
  ·omega
  simp only [List.length_cons]at hk hB;obtain⟨y,hy⟩:=fG (hu e (.head _)).1 (hu e (.head _)).2;rw [oX];refine b1 hd ?_;rw [if_pos (by rw [h];exact bX _ _ _)];refine b1 hd ?_;refine b1 (by rw [h];exact bL _ _ _) ?_
  refine b1 hy ?_;refine b1 (aU (by omega)) ?_
  rw [bN pre e,ih (pre++[e]) k _ (by rw [h];simp) (by omega) (by simp;omega) (fun r hr=>by rw [List.length_set];exact hu r (.tail _ hr))];rfl
theorem dr3 {p:ScopeProg} {x:Int} {d:ScopeDef} (hd:idx p.Defs x=some d) (suf:List ScopeSpot):∀ (pre:List ScopeSpot) (k:Nat) (u:List Bool),d.Spots=pre++suf → suf.length<k → pre.length+suf.length ≤ 3000000 → (∀ r∈suf,0 ≤ r.Node ∧ r.Node<(u.length:Int)) → nP p x k u (pre.length:Int)=some (eE u (suf.map (·.Node))):=by
 induction suf with
 | nil=>
  intro pre k u h hk _ _;obtain _ | k:=k
  ·omega
  rw [nP];refine b1 hd ?_;rw [h,if_neg (by simp)];rfl
 | cons e suf ih=>
  intro pre k u h hk hB hu;obtain _ | k:=k
  ·omega
  simp only [List.length_cons]at hk hB;obtain⟨y,hy⟩:=fG (hu e (.head _)).1 (hu e (.head _)).2;rw [nP];refine b1 hd ?_;rw [if_pos (by rw [h];exact bX _ _ _)];refine b1 hd ?_;refine b1 (by rw [h];exact bL _ _ _) ?_
  refine b1 hy ?_;refine b1 (aU (by omega)) ?_
  rw [bN pre e,ih (pre++[e]) k _ (by rw [h];simp) (by omega) (by simp;omega) (fun r hr=>by rw [List.length_set];exact hu r (.tail _ hr))];rfl
theorem dr1 {fuel:Nat} {p:ScopeProg} (hf:1000 ≤ fuel) (suf:List ScopeDef):∀ (pre:List ScopeDef) (k:Nat) (u:List Bool),p.Defs=pre++suf → suf.length<k → pre.length+suf.length ≤ 3000 → (∀ d∈suf,okD d=true) → (∀ b∈suf.flatMap fP,0 ≤ b ∧ b<(u.length:Int)) → nS fuel p k u (pre.length:Int)=some (eE u (suf.flatMap fP)):=by
 induction suf with
 | nil=>
  intro pre k u h hk _ _ _;obtain _ | k:=k
  ·omega
  rw [nS,h,if_neg (by simp)];rfl
 | cons e suf ih=>
  intro pre k u h hk hB ho hu;obtain _ | k:=k
  ·omega
  simp only [List.length_cons]at hk hB;obtain⟨d0,d1,d2⟩:=aCm (ho e (.head _));have hd:idx p.Defs (pre.length:Int)=some e:=by rw [h];exact bL _ _ _
  have hu1:∀ b∈fP e,0 ≤ b ∧ b<(u.length:Int):=fun b hb=>hu b (List.mem_append_left _ hb)
  have hr:∀ j∈e.Rules.map (·.Node),0 ≤ j ∧ j<(u.length:Int):=fun j hj=>hu1 j (List.mem_append_left _ hj)
  have hs:∀ j∈e.Spots.map (·.Node),0 ≤ j ∧ j<(u.length:Int):=fun j hj=>hu1 j (List.mem_append_right _ hj)
  have l1:=(oJ _ u hr).1;have l2:=(oJ _ u hu1).1;have e2:=dr2 hd e.Rules [] fuel u rfl (by omega) (by simp;omega) (fun r hr'=>hr _ (List.mem_map.2 ⟨r,hr',rfl⟩))
  have e3:=dr3 hd e.Spots [] fuel (eE u (e.Rules.map (·.Node))) rfl (by omega) (by simp;omega) (fun r hr'=>by rw [l1];exact hs _ (List.mem_map.2 ⟨r,hr',rfl⟩))
  simp only [List.length_nil,Int.natCast_zero]at e2 e3;rw [nS,if_pos (by rw [h];exact bX _ _ _)];refine b1 (z:=eE u (fP e)) ?_ ?_
  ·refine b1 e2 ?_;rw [e3,fP,vJ]
  refine b1 (aU (by omega)) ?_
  rw [bN pre e,ih (pre++[e]) k _ (by rw [h];simp) (by omega) (by simp;omega) (fun d hd=>ho d (.tail _ hd)) (fun b hb=>by rw [l2];exact hu b (List.mem_append_right _ hb))]
  rw [List.flatMap_cons,vJ]
theorem dr4 {p:ScopeProg} (suf:List ScopeNode):∀ (pre:List ScopeNode) (k:Nat) (u:List Bool),p.Nodes=pre++suf → suf.length<k → pre.length+suf.length ≤ 3000 → (∀ x∈suf,(x.Op=6 ∨ x.Op=8) → x.Kids.length=1) → (∀ b∈suf.flatMap goN,0 ≤ b ∧ b<(u.length:Int)) → nD p k u (pre.length:Int)=some (eE u (suf.flatMap goN)):=by
 induction suf with
 | nil=>
  intro pre k u h hk _ _ _;obtain _ | k:=k
  ·omega
  rw [nD,h,if_neg (by simp)];rfl
 | cons e suf ih=>
  intro pre k u h hk hB ho hu;obtain _ | k:=k
  ·omega
  simp only [List.length_cons]at hk hB;have hx:idx p.Nodes (pre.length:Int)=some e:=by rw [h];exact bL _ _ _
  have hu1:∀ b∈goN e,0 ≤ b ∧ b<(u.length:Int):=fun b hb=>hu b (List.mem_append_left _ hb)
  have l2:=(oJ _ u hu1).1;rw [nD,if_pos (by rw [h];exact bX _ _ _)];refine b1 (z:=eE u (goN e)) ?_ ?_
  ·refine b1 hx ?_;by_cases h6:e.Op=6
   ·have hk0:=(nJ (ho e (.head _) (.inl h6))).1;have hg:goN e=[kid e 0]:=by unfold goN;rw [if_pos (.inl h6)]
    rw [hg]at hu1 ⊢;obtain⟨y,hy⟩:=fG (hu1 _ (.head _)).1 (hu1 _ (.head _)).2;rw [if_pos h6];refine b1 hx ?_;refine b1 hk0 ?_;exact b1 hy rfl
   rw [if_neg h6];refine b1 hx ?_;by_cases h8:e.Op=8
   ·have hk0:=(nJ (ho e (.head _) (.inr h8))).1;have hg:goN e=[kid e 0]:=by unfold goN;rw [if_pos (.inr h8)]
    rw [hg]at hu1 ⊢;obtain⟨y,hy⟩:=fG (hu1 _ (.head _)).1 (hu1 _ (.head _)).2;rw [if_pos h8];refine b1 hx ?_;refine b1 hk0 ?_;exact b1 hy rfl
   ·have hg:goN e=[]:=by unfold goN;rw [if_neg (by omega)]
    rw [if_neg h8,hg];rfl
  refine b1 (aU (by omega)) ?_
  rw [bN pre e,ih (pre++[e]) k _ (by rw [h];simp) (by omega) (by simp;omega) (fun d hd=>ho d (.tail _ hd)) (fun b hb=>by rw [l2];exact hu b (List.mem_append_right _ hb))]
  rw [List.flatMap_cons,vJ]
def trs:Nat → List Bool → List Int
 | _,[]=>[]
 | i,b :: l=>(if b=true then [(i:Int)] else [])++trs (i+1) l
theorem aCp:∀ (l:List Bool) (i:Nat) (a:Int),a∈trs i l ↔ ∃ j:Nat,a=((i+j:Nat):Int) ∧ l[j]? =some true
 | [],i,a=>by simp [trs]
 | b :: l,i,a=>by
  rw [trs,List.mem_append,aCp l (i+1) a];constructor
  ·rintro(h | ⟨j,h1,h2⟩)
   ·split at h
    ·rename_i hb;exact⟨0,by rw [List.mem_singleton.1 h];rfl,by simp [hb]⟩
    ·cases h
   ·exact⟨j+1,by rw [h1];omega,by simpa using h2⟩
  ·rintro⟨j,h1,h2⟩
   cases j with
   | zero=>
    simp only [List.getElem?_cons_zero,Option.some.injEq]at h2;left;rw [if_pos h2,h1];simp
   | succ j=>right;exact⟨j,by rw [h1];omega,by simpa using h2⟩
theorem aBy:∀ (l:List Bool) (i:Nat),(trs i l).Pairwise (fun a b=>a<b)
 | [],i=> .nil
 | b :: l,i=>by
  rw [trs];refine List.pairwise_append.2 ⟨by split <;> simp,aBy l (i+1),fun x hx y hy=>?_⟩
  split at hx
  ·obtain⟨j,hj,_⟩:=(aCp l (i+1) y).1 hy;rw [List.mem_singleton.1 hx,hj];omega
  ·cases hx
theorem dr5 (suf:List Bool):∀ (pre:List Bool) (k:Nat) (acc:List Int),suf.length<k → pre.length+suf.length ≤ 3000000 → acc.length+suf.length ≤ 4000000 → nN (pre++suf) k acc (pre.length:Int)=some (acc++trs pre.length suf):=by
 induction suf with
 | nil=>
  intro pre k acc hk _ _;obtain _ | k:=k
  ·omega
  rw [nN,if_neg (by simp)];simp [trs]
 | cons e suf ih=>
  intro pre k acc hk hB hl;obtain _ | k:=k
  ·omega
  simp only [List.length_cons]at hk hB hl;rw [nN,if_pos (bX _ _ _)];refine b1 (z:=acc++(if e=true then [(pre.length:Int)] else [])) ?_ ?_
  ·refine b1 (bL _ _ _) ?_;cases e with
   | true=>rw [cond_true,if_pos rfl];exact b1 (fM (by simp;omega)) rfl
   | false=>rw [cond_false,if_neg (by simp),List.append_nil]
  refine b1 (aU (by omega)) ?_
  rw [bN pre e,eB pre suf e,ih (pre++[e]) k _ (by omega) (by simp;omega) (by rw [List.length_append];split <;> simp <;> omega)]
  rw [trs,List.append_assoc,List.length_append,List.length_singleton]
theorem aFq:∀ {l m:List Int},l.Perm m → l.Pairwise (fun a b=>a ≤ b) → m.Pairwise (fun a b=>a ≤ b) → l=m
 | [],m,h,_,_=>by rw [List.nil_perm.1 h]
 | a :: l,[],h,_,_=>by have:=h.length_eq;simp at this
 | a :: l,b :: m,h,h1,h2=>by
  have hab:a=b:=by
   have g1:a∈b :: m:=h.mem_iff.1 (.head _);have g2:b∈a :: l:=h.mem_iff.2 (.head _);have k1:=List.pairwise_cons.1 h1;have k2:=List.pairwise_cons.1 h2;cases g1 with
   | head=>rfl
   | tail _ g1=>
    cases g2 with
    | head=>rfl
    | tail _ g2=>have:=k1.1 b g2;have:=k2.1 a g1;omega
  subst hab;rw [aFq (List.Perm.cons_inv h) (List.pairwise_cons.1 h1).2 (List.pairwise_cons.1 h2).2]
theorem rZ (l:List Int):(dT l).Perm l:=List.mergeSort_perm _ _
theorem aHA (l:List Int):(dT l).Pairwise (fun a b=>a ≤ b):=by
 have:=List.pairwise_mergeSort (le:=fun x y:Int=>decide (x ≤ y)) (by intro a b c h1 h2;simp only [decide_eq_true_eq]at *;omega) (by intro a b;simp;omega) l
 exact this.imp fun h=>by simpa using h
theorem mk_ok {α:Type} {z:α} {n:Nat} (h:n ≤ 1000000000):mk z (n:Int)=some (List.replicate n z):=by unfold mk;rw [if_pos (by omega),Int.toNat_natCast]
theorem aGn {p:ScopeProg} {sz:List Int} {H fuel:Nat} (h:Fd p sz H) (hf:3000000 ≤ fuel):wA fuel p=some (dT (cS p)):=by
 have h1:=h.nl;have h2:=h.h60;have h3:=h.dl
 have hr:=h.rg
 have hu0:(List.replicate p.Nodes.length false).length=p.Nodes.length:=by simp
 have hm:=hr p.Main (.head _)
 have hd:∀ b∈p.Defs.flatMap fP,0 ≤ b ∧ b<(p.Nodes.length:Int):=fun b hb=>hr b (.tail _ (List.mem_append_left _ hb))
 have hg:∀ b∈p.Nodes.flatMap goN,0 ≤ b ∧ b<(p.Nodes.length:Int):=fun b hb=>hr b (.tail _ (List.mem_append_right _ hb))
 have hl1:(eE (List.replicate p.Nodes.length false) [p.Main]).length=p.Nodes.length:=by rw [(oJ _ _ (fun j hj=>by rw [List.mem_singleton.1 hj,hu0];exact hm)).1,hu0]
 have hl2:(eE (eE (List.replicate p.Nodes.length false) [p.Main]) (p.Defs.flatMap fP)).length=p.Nodes.length:=by rw [(oJ _ _ (fun j hj=>by rw [hl1];exact hd j hj)).1,hl1]
 have e1:=dr1 (fuel:=fuel) (p:=p) (by omega) p.Defs [] fuel (eE (List.replicate p.Nodes.length false) [p.Main]) rfl (by omega) (by simp;omega) h.ok (fun b hb=>by rw [hl1];exact hd b hb)
 have e4:=dr4 (p:=p) p.Nodes [] fuel (eE (eE (List.replicate p.Nodes.length false) [p.Main]) (p.Defs.flatMap fP)) rfl (by omega) (by simp;omega) h.kd (fun b hb=>by rw [hl2];exact hg b hb)
 have hall:eE (eE (eE (List.replicate p.Nodes.length false) [p.Main]) (p.Defs.flatMap fP)) (p.Nodes.flatMap goN)=eE (List.replicate p.Nodes.length false) (cS p):=by
  rw [← vJ,← vJ];rfl
 obtain⟨hl,hget⟩:=oJ (cS p) (List.replicate p.Nodes.length false) (fun j hj=>by rw [hu0];exact hr j hj)
 rw [hall]at e4
 have e5:=dr5 (eE (List.replicate p.Nodes.length false) (cS p)) [] fuel [] (by omega) (by simp;omega) (by simp;omega)
 simp only [List.length_nil,Int.natCast_zero,List.nil_append]at e1 e4 e5
 rw [wA]
 refine b1 (mk_ok (by omega)) ?_
 obtain⟨y,hy⟩:=fG (xs:=List.replicate p.Nodes.length false) hm.1 (by rw [hu0];exact hm.2)
 refine b1 hy ?_
 refine b1 e1 ?_
 refine b1 e4 ?_
 refine b1 e5 ?_
 congr 1
 have hp:(trs 0 (eE (List.replicate p.Nodes.length false) (cS p))).Perm (dT (cS p)):=(List.perm_ext_iff_of_nodup ((aBy _ _).imp fun g=>by omega) ((rZ _).nodup_iff.2 h.nd)).2 fun a=>by
  rw [aCp,(rZ _).mem_iff];constructor
  ·rintro⟨j,rfl,hj⟩
   rcases(hget j).1 hj with g | g
   ·rw [List.getElem?_replicate]at g;split at g <;> cases g
   ·simpa using g
  ·intro ha;have:=hr a ha;refine⟨a.toNat,by omega,(hget _).2 (.inr ?_)⟩
   rwa [show((a.toNat:Nat):Int)=a by omega]
 exact aFq hp ((aBy _ _).imp fun g=>by omega) (aHA _)
open Go.SX Go.SW Go.Dt
def fF (p:ScopeProg) (H:Nat) (sz:List Int) (n:Int):List CodeIns:=(fT p H n ((idx sz n).getD 0)).1++[⟨16,0,0⟩]
def iO (bk:Int → List CodeIns):List CodeIns → List Int → List CodeIns
 | c,[]=>c
 | c,n :: l=>iO bk (bh c (bk n)) l
def stM (bk:Int → List CodeIns):aN Int Int → List CodeIns → List Int → aN Int Int
 | g,_,[]=>g
 | g,c,n :: l=>stM bk (aN.upd g n c.length) (bh c (bk n)) l
def stL (bk:Int → List CodeIns):List Int → List CodeIns → List Int → List Int
 | u,_,[]=>u
 | u,c,n :: l=>stL bk (u.set n.toNat c.length) (bh c (bk n)) l
theorem zG {p:ScopeProg} {sz:List Int} {H:Nat} (h:Fd p sz H) {n:Int} (h0:0 ≤ n ∧ n<(p.Nodes.length:Int)):∃ q c,q.1=n ∧ lQ p sz H q c ∧ fF p H sz n=c.1++[⟨16,0,0⟩] ∧ c.1.length ≤ 15000 ∧ (LN p H q).length ≤ 60:=by
 obtain⟨e,_,_,hn,hz,hl⟩:=h.node n h0.1 h0.2
 refine⟨(n,e),_,rfl,hn,?_,?_,hl⟩
 ·unfold fF;rw [hz];rfl
 ·have:=hn.len;omega
theorem aAZ:∀ i∈[(⟨16,0,0⟩:CodeIns)],i.Op≠9 ∧ i.Op≠10:=jR (by omega)
theorem pc1 {p:ScopeProg} {sz:List Int} {H fuel:Nat} (h:Fd p sz H) (hf:3900000 ≤ fuel) {rts:List Int} (suf:List Int):∀ (pre:List Int) (k:Nat) (c:List CodeIns) (g:aN Int Int),rts=pre++suf → suf.length<k → pre.length+suf.length ≤ 3000 → c.length+15001*suf.length ≤ 100000000 → (∀ b∈suf,0 ≤ b ∧ b<(p.Nodes.length:Int)) →
 oO fuel rts k (pre.length:Int) c p.Free p.Nodes p.Defs p.Main sz g=some (iO (fF p H sz) c suf,p.Free,p.Nodes,p.Defs,p.Main,sz,stM (fF p H sz) g c suf):=by
 have h60:=h.h60
 induction suf with
 | nil=>
  intro pre k c g hr hk _ _ _;obtain _ | k:=k
  ·omega
  rw [oO,hr,if_neg (by simp)];rfl
 | cons n suf ih=>
  intro pre k c g hr hk hB hc hn;obtain _ | k:=k
  ·omega
  simp only [List.length_cons]at hk hB hc;obtain⟨q,r,rfl,hok,hb,hl,_⟩:=zG h (hn n (.head _));rw [oO,if_pos (by rw [hr];exact bX _ _ _)];refine b1 (by rw [hr];exact bL _ _ _) ?_
  refine b1 (hok.prog fuel ⟨⟨c⟩,p,sz,aN.upd g q.1 c.length⟩ (by omega) rfl rfl (by dsimp only;omega)) ?_
  refine b1 (kB (x:=wc ⟨⟨c⟩,p,sz,aN.upd g q.1 c.length⟩ (c++sh c.length r.1)) (by show(c++sh c.length r.1).length ≤ _;rw [List.length_append,kQ];omega)) ?_
  refine b1 (aU (by omega)) ?_
  have e1:c++sh c.length r.1++[(⟨16,0,0⟩:CodeIns)]=bh c (fF p H sz q.1):=by rw [hb,bh,tA,sF aAZ,List.append_assoc]
  rw [bN pre q.1,iO,stM,← e1];have:=ih (pre++[q.1]) k (c++sh c.length r.1++[⟨16,0,0⟩]) (aN.upd g q.1 c.length) (by rw [hr];simp) (by omega) (by simp;omega) (by rw [List.length_append,List.length_append,kQ,List.length_singleton];omega) (fun b hb=>hn b (.tail _ hb))
  exact this
theorem dc2 {p:ScopeProg} {sz:List Int} {H fuel:Nat} (h:Fd p sz H) (hf:3900000 ≤ fuel) {rts:List Int} (suf:List Int):∀ (pre:List Int) (k:Nat) (c:List CodeIns) (u:List Int),rts=pre++suf → suf.length<k → pre.length+suf.length ≤ 3000 → c.length+15001*suf.length ≤ 100000000 → u.length=p.Nodes.length → (∀ b∈suf,0 ≤ b ∧ b<(p.Nodes.length:Int)) →
 pB fuel p (sz,0) rts k u (pre.length:Int) c=some (stL (fF p H sz) u c suf,iO (fF p H sz) c suf):=by
 have h60:=h.h60
 induction suf with
 | nil=>
  intro pre k c u hr hk _ _ _ _;obtain _ | k:=k
  ·omega
  rw [pB,hr,if_neg (by simp)];rfl
 | cons n suf ih=>
  intro pre k c u hr hk hB hc hu hn;obtain _ | k:=k
  ·omega
  simp only [List.length_cons]at hk hB hc;obtain⟨q,r,rfl,hok,hb,hl,_⟩:=zG h (hn n (.head _));have hq:=hn q.1 (.head _);obtain⟨y,hy⟩:=fG (xs:=u) hq.1 (by rw [hu];exact hq.2)
  rw [pB,if_pos (by rw [hr];exact bX _ _ _)];refine b1 (by rw [hr];exact bL _ _ _) ?_
  refine b1 hy ?_;refine b1 (by rw [hr];exact bL _ _ _) ?_
  refine b1 (hok.doc fuel (by omega)) ?_
  refine b1 rfl ?_;refine b1 (kZ (by simp;omega) (by omega) (by simp) (tG aAZ)) ?_
  rw [uV aAZ,← hb];have hbl:(fF p H sz q.1).length ≤ 15001:=by rw [hb,List.length_append,List.length_singleton];omega
  have hbj:Jmp (fF p H sz q.1):=by
   rw [hb];exact(J_app hok.j (fun g=>by simp at g)).jmp (by rw [List.length_append,List.length_singleton];omega)
  refine b1 (kZ (by omega) (by omega) (by omega) hbj) ?_
  refine b1 (aU (by omega)) ?_
  rw [bN pre q.1,iO,stL];exact ih (pre++[q.1]) k (bh c (fF p H sz q.1)) (u.set q.1.toNat c.length) (by rw [hr];simp) (by omega) (by simp;omega) (by rw [kI];omega) (by rw [List.length_set];exact hu) (fun b hb=>hn b (.tail _ hb))
theorem st_rel {bk:Int → List CodeIns} {N:Nat}:∀ (l:List Int) (g:aN Int Int) (u:List Int) (c:List CodeIns) (S:List Int),u.length=N → (∀ b∈l,0 ≤ b ∧ b<(N:Int)) → (∀ b∈S,∃ w,g.get b=some w ∧ idx u b=some w) → (stL bk u c l).length=N ∧ ∀ b,b∈S ∨ b∈l → ∃ w,(stM bk g c l).get b=some w ∧ idx (stL bk u c l) b=some w
 | [],g,u,c,S,hu,_,hS=>⟨hu,fun b hb=>hS b (hb.resolve_right (by simp))⟩
 | n :: l,g,u,c,S,hu,hl,hS=>by
  have hn:=hl n (.head _);obtain⟨a,b⟩:=st_rel (bk:=bk) l (aN.upd g n c.length) (u.set n.toNat c.length) (bh c (bk n)) (n :: S) (by rw [List.length_set];exact hu) (fun b hb=>hl b (.tail _ hb)) (fun b hb=>by
   by_cases e:b=n
   ·subst e;exact⟨c.length,by simp [aN.upd],zB hn.1 (by rw [hu];exact hn.2)⟩
   ·obtain⟨w,h1,h2⟩:=hS b ((List.mem_cons.1 hb).resolve_left e);exact⟨w,by simp [aN.upd,e,h1],by rw [aAU hn.1 e];exact h2⟩)
  refine⟨a,fun x hx=>b x ?_⟩
  rcases hx with hx | hx
  ·exact .inl (.tail _ hx)
  ·rcases List.mem_cons.1 hx with rfl | hx
   ·exact .inl (.head _)
   ·exact .inr hx
def pat (v:Int → Int) (i:CodeIns):CodeIns:=if i.Op=13 ∨ i.Op=15 then{ i with B:=v i.B } else i
theorem on_eq (a:Int):vT a=some (decide (a=13 ∨ a=15)):=by
 rw [vT]
 by_cases h:a=13
 ·subst h;rfl
 ·rw [if_neg h,bsm];simp [h]
theorem don_eq (a:Int):aAn a=some (decide (a=13 ∨ a=15)):=on_eq a
theorem pc2 {x1:List CodeIns} {g:aN Int Int} (suf:List CodeIns):∀ (pre:List CodeIns) (k:Nat),x1.length=pre.length+suf.length → suf.length<k → pre.length+suf.length ≤ 1000000000 →
 nT x1 g k (pre.length:Int) (pre.map (pat fun b=>(g.get b).getD 0)++suf)=some ((pre++suf).map (pat fun b=>(g.get b).getD 0)):=by
 induction suf with
 | nil=>
  intro pre k h hk _;obtain _ | k:=k
  ·omega
  simp only [List.length_nil]at h;rw [nT,if_neg (by omega)];simp
 | cons e suf ih=>
  intro pre k h hk hB;obtain _ | k:=k
  ·omega
  simp only [List.length_cons]at h hk hB;have hix:idx (pre.map (pat fun b=>(g.get b).getD 0)++e :: suf) (pre.length:Int)=some e:=by
   have:=bL (pre.map (pat fun b=>(g.get b).getD 0)) suf e
   rwa [List.length_map]at this
  rw [nT,if_pos (by omega)];refine b1 (z:=(pre++[e]).map (pat fun b=>(g.get b).getD 0)++suf) ?_ ?_
  ·refine b1 hix ?_;refine b1 (on_eq _) ?_;by_cases o:e.Op=13 ∨ e.Op=15
   ·rw [decide_eq_true o,cond_true];refine b1 hix ?_;refine b1 hix ?_;rw [Int.toNat_natCast];have:=lH (pre.map (pat fun b=>(g.get b).getD 0)) suf e ({ e with B:=(g.get e.B).getD 0 })
    rw [List.length_map]at this;rw [this,List.map_append,List.map_cons,List.map_nil,List.append_assoc];unfold pat;rw [if_pos o];rfl
   ·rw [decide_eq_false o,cond_false,List.map_append,List.map_cons,List.map_nil,List.append_assoc];have:pat (fun b=>(g.get b).getD 0) e=e:=by unfold pat;rw [if_neg o]
    rw [this];rfl
  refine b1 (aU (by omega)) ?_
  rw [bN pre e,ih (pre++[e]) k (by simp;omega) (by omega) (by simp;omega),List.append_assoc];rfl
theorem dc3 {st:List Int} {v:Int → Int} (suf:List CodeIns):∀ (pre:List CodeIns) (k:Nat),(∀ i∈suf,i.Op=13 ∨ i.Op=15 → idx st i.B=some (v i.B)) → suf.length<k → pre.length+suf.length ≤ 1000000000 →
 oD st k (pre.length:Int) (pre.map (pat v)++suf)=some ((pre++suf).map (pat v)):=by
 induction suf with
 | nil=>
  intro pre k h hk _;obtain _ | k:=k
  ·omega
  rw [oD,if_neg (by simp)];simp
 | cons e suf ih=>
  intro pre k h hk hB;obtain _ | k:=k
  ·omega
  simp only [List.length_cons]at hk hB;have hix:idx (pre.map (pat v)++e :: suf) (pre.length:Int)=some e:=by
   have:=bL (pre.map (pat v)) suf e
   rwa [List.length_map]at this
  rw [oD,if_pos (by rw [List.length_append,List.length_map,List.length_cons];omega)];refine b1 (z:=(pre++[e]).map (pat v)++suf) ?_ ?_
  ·refine b1 hix ?_;refine b1 (don_eq _) ?_;by_cases o:e.Op=13 ∨ e.Op=15
   ·rw [decide_eq_true o,cond_true];refine b1 hix ?_;refine b1 (h e (.head _) o) ?_;refine b1 hix ?_;rw [Int.toNat_natCast];have:=lH (pre.map (pat v)) suf e ({ e with B:=v e.B })
    rw [List.length_map]at this;rw [this,List.map_append,List.map_cons,List.map_nil,List.append_assoc];unfold pat;rw [if_pos o];rfl
   ·rw [decide_eq_false o,cond_false,List.map_append,List.map_cons,List.map_nil,List.append_assoc];have:pat v e=e:=by unfold pat;rw [if_neg o]
    rw [this];rfl
  refine b1 (aU (by omega)) ?_
  rw [bN pre e,ih (pre++[e]) k (fun i hi=>h i (.tail _ hi)) (by omega) (by simp;omega),List.append_assoc];rfl
def OnB (p:ScopeProg) (l:List CodeIns):Prop:=∀ i∈l,i.Op=13 ∨ i.Op=15 → i.B∈cS p
theorem OnB.app {p:ScopeProg} {a b:List CodeIns} (ha:OnB p a) (hb:OnB p b):OnB p (a++b):=fun i hi=>by
 rcases List.mem_append.1 hi with hi | hi
 ·exact ha i hi
 ·exact hb i hi
theorem OnB.sh {p:ScopeProg} {n:Int} {a:List CodeIns} (ha:OnB p a):OnB p (sh n a):=fun i hi o=>by
 obtain⟨j,hj,rfl⟩:=List.mem_map.1 hi
 by_cases q:j.Op=9 ∨ j.Op=10
 ·rw [if_pos q]at o;dsimp only at o;omega
 ·rw [if_neg q]at o ⊢;exact ha j hj o
theorem OnB.bh {p:ScopeProg} {a b:List CodeIns} (ha:OnB p a) (hb:OnB p b):OnB p (bh a b):=ha.app hb.sh
theorem OnB.no {p:ScopeProg} {l:List CodeIns} (h:∀ i∈l,i.Op≠13 ∧ i.Op≠15):OnB p l:=fun i hi o=>by have:=h i hi;omega
theorem OnB.cut {p:ScopeProg} {c:List CodeIns × Bool} {z:Int} (h:OnB p c.1):OnB p (dB c z):=by
 unfold dB
 split
 ·exact h.app (.no fun i hi=>by rw [List.mem_singleton.1 hi];exact⟨by simp,by simp⟩)
 ·exact h
theorem aD5 {p:ScopeProg}:∀ (h:Nat) (q:Int × E),Tr p h q → Ta p h q → OnB p (fT p h q.1 q.2.length).1
 | 0,q,hT,_=>hT.elim
 | h+1,⟨n,e⟩,⟨x,hx,h0,hT,hK⟩,⟨x',hx',hA,hKA⟩=>by
  dsimp only at hx hT hx' hA hK hKA
  have exx:x'=x:=by rw [hx]at hx';exact(Option.some.inj hx').symm
  subst exx;have IH:∀ k∈eG p x' e,OnB p (fT p h k.1 k.2.length).1:=fun k hk=>aD5 h k (hK k hk) (hKA k hk)
  have hns:x'.Op≠4 → eG p x' e=x'.Kids.map fun k=>(k,e):=fun g=>by rw [eG,if_neg g]
  have hexp:∀ a,okE e.length a=true → OnB p (cP a):=fun a ha=> .no fun i hi=>by
   have:=zE (nE a) _ a (Nat.le_refl _) (vY ha).1 i hi;omega
  have one:∀ (op a b:Int),op≠13 ∧ op≠15 → OnB p [⟨op,a,b⟩]:=fun op a b g=> .no fun i hi=>by rw [List.mem_singleton.1 hi];exact g
  have hgo:∀ (op:Int),(x'.Op=6 ∨ x'.Op=8) → OnB p [⟨op,x'.N,kid x' 0⟩]:=fun op g i hi _=>by
   rw [List.mem_singleton.1 hi];refine .tail _ (List.mem_append_right _ (List.mem_flatMap.2 ⟨x',jL hx,?_⟩));unfold goN;rw [if_pos g];exact .head _
  rw [fT];dsimp only
  rw [hx];dsimp only
  by_cases o2:x'.Op=2
  ·rw [if_pos o2];refine OnB.app (fun i hi=>?_) (one _ _ _ (by omega))
   obtain⟨a,ha,hi⟩:=List.mem_flatMap.1 hi;exact hexp a (List.all_eq_true.1 hA.1 a ha) i hi
  rw [if_neg o2];by_cases o3:x'.Op=3
  ·rw [if_pos o3];have hk2:x'.Kids.length=2:=by rcases hT with g | g | g | g | g <;> omega
   obtain⟨k0,k1,kk⟩:=kids2 hk2;have hsb:eG p x' e=[(kid x' 0,e),(kid x' 1,e)]:=by rw [hns (by omega),kk];simp [kid]
   rw [hsb]at IH;exact(OnB.cut (IH _ (.head _))).bh (IH _ (.tail _ (.head _)))
  rw [if_neg o3];by_cases o4:x'.Op=4
  ·rw [if_pos o4];have ⟨hk1,d,hd,hdo⟩:x'.Kids.length=1 ∧ ∃ d,idx p.Defs x'.N=some d ∧ okD d=true:=by
    rcases hT with g | g | g | g | ⟨_,g2,_,g3⟩
    ·omega
    ·omega
    ·omega
    ·omega
    ·exact⟨g2,g3⟩
   obtain⟨k0,kk⟩:=nJ hk1;have hmem:(kid x' 0,inE e x'.N d)∈eG p x' e:=by
    rw [eG,if_pos o4,hd];exact List.mem_append_right _ (List.mem_append_right _ (List.mem_map.2 ⟨kid x' 0,by rw [kk];simp [kid],rfl⟩))
   have i0:=IH _ hmem;have ez:((inE e x'.N d).length:Int)=e.length+ownN p x'.N:=by rw [xT,ownN,hd]
   dsimp only at i0
   rw [ez]at i0;exact(one _ _ _ (by omega)).bh i0
  rw [if_neg o4];by_cases o5:x'.Op=5
  ·rw [if_pos o5];have hk2:x'.Kids.length=2:=by rcases hT with g | g | g | g | g <;> omega
   obtain⟨k0,k1,kk⟩:=kids2 hk2;have hsb:eG p x' e=[(kid x' 0,e),(kid x' 1,e)]:=by rw [hns (by omega),kk];simp [kid]
   rw [hsb]at IH;have harg:OnB p (arg0 x'):=by
    unfold arg0;have hall:=hA.1;cases hxa:x'.Args with
    | nil=>exact fun i hi=>by cases hi
    | cons a l=>rw [hxa]at hall;simp only [List.all_cons,Bool.and_eq_true]at hall;exact hexp a hall.1
   exact((harg.app (one _ _ _ (by omega))).bh (OnB.cut (IH _ (.head _)))).app (one _ _ _ (by omega)) |>.bh (OnB.cut (IH _ (.tail _ (.head _))))
  rw [if_neg o5];by_cases o6:x'.Op=6
  ·rw [if_pos o6];exact hgo _ (.inl o6)
  rw [if_neg o6];by_cases o8:x'.Op=8
  ·rw [if_pos o8];exact hgo _ (.inr o8)
  rw [if_neg o8];by_cases o7:x'.Op=7
  ·rw [if_pos o7];exact one _ _ _ (by omega)
  rw [if_neg o7];exact fun i hi=>by cases hi
theorem lay_on {p:ScopeProg} {bk:Int → List CodeIns}:∀ (l:List Int) (c:List CodeIns),OnB p c → (∀ n∈l,OnB p (bk n)) → OnB p (iO bk c l)
 | [],_,hc,_=>hc
 | n :: l,c,hc,h=>lay_on l _ (hc.bh (h n (.head _))) fun b hb=>h b (.tail _ hb)
theorem aCt {bk:Int → List CodeIns} {B:Nat}:∀ (l:List Int) (c:List CodeIns),(∀ n∈l,(bk n).length ≤ B) → (iO bk c l).length ≤ c.length+B*l.length
 | [],c,_=>by simp [iO]
 | n :: l,c,h=>by
  have h1:=aCt l (bh c (bk n)) fun b hb=>h b (.tail _ hb)
  have h2:=h n (.head _);rw [kI]at h1;rw [iO,List.length_cons,Nat.mul_add];omega
def ptS (v:Int → Int) (s:ScopeSpot):ScopeSpot:=⟨s.In,v s.Node⟩
def ptR (v:Int → Int) (r:ScopeRule):ScopeRule:=⟨r.At,r.Joins,v r.Node⟩
def ptD (v:Int → Int) (d:ScopeDef):ScopeDef:=⟨d.Chans,d.Spots.map (ptS v),d.Rules.map (ptR v)⟩
theorem pc4 {g:aN Int Int} {d:ScopeDef} (suf:List ScopeSpot):∀ (pre:List ScopeSpot) (k:Nat),d.Spots=pre++suf → suf.length<k → pre.length+suf.length ≤ 3000000 → oZ g d k (pre.length:Int) (pre.map (ptS fun b=>(g.get b).getD 0))=some (d.Spots.map (ptS fun b=>(g.get b).getD 0)):=by
 induction suf with
 | nil=>
  intro pre k h hk _;obtain _ | k:=k
  ·omega
  rw [oZ,h,if_neg (by simp)];simp
 | cons e suf ih=>
  intro pre k h hk hB;obtain _ | k:=k
  ·omega
  simp only [List.length_cons]at hk hB;rw [oZ,if_pos (by rw [h];exact bX _ _ _)];refine b1 (by rw [h];exact bL _ _ _) ?_
  refine b1 (fM (by simp;omega)) ?_
  refine b1 (aU (by omega)) ?_
  have:=ih (pre++[e]) k (by rw [h];simp) (by omega) (by simp;omega)
  rw [List.map_append]at this;rw [bN pre e];exact this
theorem clI_eq {l:List Int} (h:l.length ≤ 1000000000):tO l=some l:=by
 rw [tO,List.nil_append,fM h,bsm]
theorem clC_eq {l:List ScopeChan} (h:l.length ≤ 1000000000):vG l=some l:=by
 rw [vG,List.nil_append,fM h,bsm]
theorem pc5 {g:aN Int Int} {d:ScopeDef} (suf:List ScopeRule):∀ (pre:List ScopeRule) (k:Nat),d.Rules=pre++suf → (∀ r∈suf,r.Joins.length ≤ 2000000) → suf.length<k → pre.length+suf.length ≤ 3000000 → oY g d k (pre.length:Int) (pre.map (ptR fun b=>(g.get b).getD 0))=some (d.Rules.map (ptR fun b=>(g.get b).getD 0)):=by
 induction suf with
 | nil=>
  intro pre k h _ hk _;obtain _ | k:=k
  ·omega
  rw [oY,h,if_neg (by simp)];simp
 | cons e suf ih=>
  intro pre k h hj hk hB;obtain _ | k:=k
  ·omega
  simp only [List.length_cons]at hk hB;rw [oY,if_pos (by rw [h];exact bX _ _ _)];refine b1 (by rw [h];exact bL _ _ _) ?_
  refine b1 (clI_eq (by have:=hj e (.head _);omega)) ?_
  refine b1 (fM (by simp;omega)) ?_
  refine b1 (aU (by omega)) ?_
  have:=ih (pre++[e]) k (by rw [h];simp) (fun r hr=>hj r (.tail _ hr)) (by omega) (by simp;omega)
  rw [List.map_append]at this;rw [bN pre e];exact this
theorem pc3 {fuel:Nat} {p:ScopeProg} {g:aN Int Int} (hf:3000000<fuel) (suf:List ScopeDef):∀ (pre:List ScopeDef) (k:Nat),p.Defs=pre++suf → (∀ d∈suf,smD d) → suf.length<k → pre.length+suf.length ≤ 3000000 → pD fuel p g k (pre.length:Int) (pre.map (ptD fun b=>(g.get b).getD 0))=some (p.Defs.map (ptD fun b=>(g.get b).getD 0)):=by
 induction suf with
 | nil=>
  intro pre k h _ hk _;obtain _ | k:=k
  ·omega
  rw [pD,h,if_neg (by simp)];simp
 | cons e suf ih=>
  intro pre k h hs hk hB;obtain _ | k:=k
  ·omega
  simp only [List.length_cons]at hk hB;obtain⟨s1,s2,s3,s4⟩:=hs e (.head _);have e4:=pc4 (g:=g) (d:=e) e.Spots [] fuel rfl (by omega) (by simp;omega)
  have e5:=pc5 (g:=g) (d:=e) e.Rules [] fuel rfl s4 (by omega) (by simp;omega)
  simp only [List.length_nil,Int.natCast_zero,List.map_nil]at e4 e5;rw [pD,if_pos (by rw [h];exact bX _ _ _)];refine b1 (z:=(pre++[e]).map (ptD fun b=>(g.get b).getD 0)) ?_ ?_
  ·refine b1 (by rw [h];exact bL _ _ _) ?_
   refine b1 (clC_eq (by omega)) ?_
   refine b1 e4 ?_;refine b1 e5 ?_;refine b1 (fM (by simp;omega)) ?_
   rw [List.map_append];rfl
  refine b1 (aU (by omega)) ?_
  rw [bN pre e];exact ih (pre++[e]) k (by rw [h];simp) (fun d hd=>hs d (.tail _ hd)) (by omega) (by simp;omega)
theorem cp2 {D:List ScopeDef} {x:Int} {d:ScopeDef} (hd:idx D x=some d) (suf:List ScopeRule):∀ (pre:List ScopeRule) (k:Nat),d.Rules=pre++suf → (∀ r∈suf,r.Joins.length ≤ 2000000) → suf.length<k → pre.length+suf.length ≤ 3000000 → oI D x k (pre.length:Int) pre=some d.Rules:=by
 induction suf with
 | nil=>
  intro pre k h _ hk _;obtain _ | k:=k
  ·omega
  rw [oI];refine b1 hd ?_;rw [h,if_neg (by simp),List.append_nil]
 | cons e suf ih=>
  intro pre k h hj hk hB;obtain _ | k:=k
  ·omega
  simp only [List.length_cons]at hk hB;rw [oI];refine b1 hd ?_;rw [if_pos (by rw [h];exact bX _ _ _)];refine b1 hd ?_;refine b1 (by rw [h];exact bL _ _ _) ?_
  rw [List.nil_append];refine b1 (fM (by have:=hj e (.head _);omega)) ?_
  refine b1 (fM (by simp;omega)) ?_
  refine b1 (aU (by omega)) ?_
  rw [bN pre e];exact ih (pre++[e]) k (by rw [h];simp) (fun r hr=>hj r (.tail _ hr)) (by omega) (by simp;omega)
theorem cp1 {fuel:Nat} {D:List ScopeDef} (hf:3000000<fuel) (suf:List ScopeDef):∀ (pre:List ScopeDef) (k:Nat),D=pre++suf → (∀ d∈suf,smD d) → suf.length<k → pre.length+suf.length ≤ 3000000 → oC fuel D k pre (pre.length:Int)=some D:=by
 induction suf with
 | nil=>
  intro pre k h _ hk _;obtain _ | k:=k
  ·omega
  rw [oC,h,if_neg (by simp),List.append_nil]
 | cons e suf ih=>
  intro pre k h hs hk hB;obtain _ | k:=k
  ·omega
  simp only [List.length_cons]at hk hB;obtain⟨s1,s2,s3,s4⟩:=hs e (.head _);have hd:idx D (pre.length:Int)=some e:=by rw [h];exact bL _ _ _
  have e2:=cp2 hd e.Rules [] fuel rfl s4 (by omega) (by simp;omega)
  simp only [List.length_nil,Int.natCast_zero]at e2;rw [oC,if_pos (by rw [h];exact bX _ _ _)];refine b1 (z:=pre++[e]) ?_ ?_
  ·refine b1 hd ?_;rw [List.nil_append];refine b1 (fM (by omega)) ?_
   refine b1 hd ?_;rw [List.nil_append];refine b1 (fM (by omega)) ?_
   refine b1 e2 ?_;exact b1 (fM (by simp;omega)) rfl
  refine b1 (aU (by omega)) ?_
  rw [bN pre e];exact ih (pre++[e]) k (by rw [h];simp) (fun d hd=>hs d (.tail _ hd)) (by omega) (by simp;omega)
theorem dc5 {st:List Int} {v:Int → Int} {A B:List ScopeDef} {d:ScopeDef} (suf:List ScopeRule):∀ (pre:List ScopeRule) (k:Nat),(∀ r∈suf,idx st r.Node=some (v r.Node)) → suf.length<k → pre.length+suf.length ≤ 3000000 →
 oE st (A.length:Int) k (pre.length:Int) (A++⟨d.Chans,d.Spots,pre.map (ptR v)++suf⟩ :: B)=some (A++⟨d.Chans,d.Spots,(pre++suf).map (ptR v)⟩ :: B):=by
 induction suf with
 | nil=>
  intro pre k h hk _;obtain _ | k:=k
  ·omega
  rw [oE];refine b1 (bL _ _ _) ?_;dsimp only
  rw [if_neg (by simp),Int.toNat_natCast,lH,List.append_nil,List.append_nil]
 | cons e suf ih=>
  intro pre k h hk hB;obtain _ | k:=k
  ·omega
  simp only [List.length_cons]at hk hB;have hix:idx (pre.map (ptR v)++e :: suf) (pre.length:Int)=some e:=by
   have:=bL (pre.map (ptR v)) suf e
   rwa [List.length_map]at this
  rw [oE];refine b1 (bL _ _ _) ?_;dsimp only
  rw [if_pos (by rw [List.length_append,List.length_map,List.length_cons];omega)];refine b1 (bL _ _ _) ?_;refine b1 (bL _ _ _) ?_;refine b1 hix ?_;refine b1 (h e (.head _)) ?_;refine b1 hix ?_;refine b1 (aU (by omega)) ?_
  rw [Int.toNat_natCast,Int.toNat_natCast,lH];have hs:=lH (pre.map (ptR v)) suf e ({ e with Node:=v e.Node })
  rw [List.length_map]at hs;rw [hs,bN pre e];have:=ih (pre++[e]) k (fun r hr=>h r (.tail _ hr)) (by omega) (by simp;omega)
  rw [List.map_append,List.append_assoc]at this;rw [List.append_assoc]at this;exact this
theorem dc6 {st:List Int} {v:Int → Int} {A B:List ScopeDef} {d:ScopeDef} (suf:List ScopeSpot):∀ (pre:List ScopeSpot) (k:Nat),(∀ r∈suf,idx st r.Node=some (v r.Node)) → suf.length<k → pre.length+suf.length ≤ 3000000 →
 nA st (A.length:Int) k (pre.length:Int) (A++⟨d.Chans,pre.map (ptS v)++suf,d.Rules⟩ :: B)=some (A++⟨d.Chans,(pre++suf).map (ptS v),d.Rules⟩ :: B):=by
 induction suf with
 | nil=>
  intro pre k h hk _;obtain _ | k:=k
  ·omega
  rw [nA];refine b1 (bL _ _ _) ?_;dsimp only
  rw [if_neg (by simp),Int.toNat_natCast,lH,List.append_nil,List.append_nil]
 | cons e suf ih=>
  intro pre k h hk hB;obtain _ | k:=k
  ·omega
  simp only [List.length_cons]at hk hB;have hix:idx (pre.map (ptS v)++e :: suf) (pre.length:Int)=some e:=by
   have:=bL (pre.map (ptS v)) suf e
   rwa [List.length_map]at this
  rw [nA];refine b1 (bL _ _ _) ?_;dsimp only
  rw [if_pos (by rw [List.length_append,List.length_map,List.length_cons];omega)];refine b1 (bL _ _ _) ?_;refine b1 (bL _ _ _) ?_;refine b1 hix ?_;refine b1 (h e (.head _)) ?_;refine b1 hix ?_;refine b1 (aU (by omega)) ?_
  rw [Int.toNat_natCast,Int.toNat_natCast,lH];have hs:=lH (pre.map (ptS v)) suf e ({ e with Node:=v e.Node })
  rw [List.length_map]at hs;rw [hs,bN pre e];have:=ih (pre++[e]) k (fun r hr=>h r (.tail _ hr)) (by omega) (by simp;omega)
  rw [List.map_append,List.append_assoc]at this;rw [List.append_assoc]at this;exact this
theorem dc4 {fuel:Nat} {st:List Int} {v:Int → Int} (hf:3000000<fuel) (suf:List ScopeDef):∀ (pre:List ScopeDef) (k:Nat),(∀ d∈suf,smD d ∧ (∀ r∈d.Rules,idx st r.Node=some (v r.Node)) ∧ ∀ r∈d.Spots,idx st r.Node=some (v r.Node)) → suf.length<k → pre.length+suf.length ≤ 3000000 →
 oV fuel st k (pre.length:Int) (pre.map (ptD v)++suf)=some ((pre++suf).map (ptD v)):=by
 induction suf with
 | nil=>
  intro pre k h hk _;obtain _ | k:=k
  ·omega
  rw [oV,if_neg (by simp)];simp
 | cons e suf ih=>
  intro pre k h hk hB;obtain _ | k:=k
  ·omega
  simp only [List.length_cons]at hk hB;obtain⟨⟨s1,s2,s3,s4⟩,hr,hs⟩:=h e (.head _);have e5:=dc5 (st:=st) (v:=v) (A:=pre.map (ptD v)) (B:=suf) (d:=e) e.Rules [] fuel hr (by omega) (by simp;omega)
  have e6:=dc6 (st:=st) (v:=v) (A:=pre.map (ptD v)) (B:=suf) (d:=⟨e.Chans,e.Spots,e.Rules.map (ptR v)⟩) e.Spots [] fuel hs (by omega) (by simp;omega)
  simp only [List.length_nil,Int.natCast_zero,List.map_nil,List.nil_append,List.length_map]at e5 e6;rw [oV,if_pos (by rw [List.length_append,List.length_map,List.length_cons];omega)];refine b1 (z:=(pre++[e]).map (ptD v)++suf) ?_ ?_
  ·refine b1 e5 ?_;rw [e6,List.map_append,List.append_assoc];rfl
  refine b1 (aU (by omega)) ?_
  rw [bN pre e,ih (pre++[e]) k (fun d hd=>h d (.tail _ hd)) (by omega) (by simp;omega),List.append_assoc];rfl
theorem dc1:∀ (k n:Nat) (u:List Int),n ≤ u.length → u.length - n<k → u.length ≤ 3000000 → ∃ w,pR k u (n:Int)=some w ∧ w.length=u.length
 | 0,_,_,_,hk,_=>by omega
 | k+1,n,u,hn,hk,hB=>by
  rw [pR];by_cases g:n<u.length
  ·obtain⟨w,h1,h2⟩:=dc1 k (n+1) (u.set n (-1)) (by rw [List.length_set];omega) (by rw [List.length_set];omega) (by rw [List.length_set];exact hB)
   refine⟨w,?_,by rw [h2,List.length_set]⟩
   rw [if_pos (by omega)];refine b1 (fR (List.getElem?_eq_getElem g)) ?_;refine b1 (aU (by omega)) ?_
   rw [Int.toNat_natCast,show(n:Int)+1=((n+1:Nat):Int) by omega];exact h1
  ·exact⟨u,by rw [if_neg (by omega)],rfl⟩
def codeG (p:ScopeProg) (G:aN Int Int) (L:List CodeIns):CodeProg:=⟨p.Free.length,p.Defs.map (ptD fun b=>(G.get b).getD 0),L.map (pat fun b=>(G.get b).getD 0),(G.get p.Main).getD 0⟩
def pU (p:ScopeProg) (sz:List Int) (H:Nat):CodeProg:=codeG p (stM (fF p H sz) aN.none [] (dT (cS p))) (iO (fF p H sz) [] (dT (cS p)))
theorem aBv:∀ {l m:List Int},l.Nodup → (∀ x∈l,x∈m) → l.length ≤ m.length
 | [],m,_,_=>Nat.zero_le _
 | a :: l,m,hn,hs=>by
  have hp:=List.perm_cons_erase (hs a (.head _));have hn2:=List.nodup_cons.1 hn;have:=aBv (l:=l) (m:=m.erase a) hn2.2 (fun x hx=>(List.mem_erase_of_ne (by intro e;subst e;exact hn2.1 hx)).2 (hs x (.tail _ hx)))
  have hl:=hp.length_eq;rw [List.length_cons]at hl ⊢;omega
theorem psz_none {p:ScopeProg} (hp:SmP p) (h:eT p=none):sE F p=some ([],2):=by
 rw [sE,yE,wW,show(⟨p.Free,p.Nodes,p.Defs,p.Main⟩:ScopeProg)=p from rfl,aE8 hp,bsm,h];rfl
theorem dsz_eq {p:ScopeProg} (hp:SmP p):sY F p=some (match eT p with | some s=>(s.sz,0) | none=>([],2)):=by
 obtain⟨L,h1,h2⟩:=jW (f:=F) hp
 rw [sY,show(⟨p.Free,p.Nodes,p.Defs,p.Main⟩:ScopeProg)=p from rfl,h1,bsm]
 cases hc:eT p with
 | none=>rw [hc]at h2;have h2:L.bad=true:=h2;rw [h2];rfl
 | some s=>rw [hc]at h2;have h2:L=_:=h2;subst h2;rfl
theorem aG5 {p:ScopeProg} (hp:SmP p) {s:VS} (hs:eT p=some s):∃ H st,Fd p s.sz H ∧ sI F p=some (pU p s.sz H,0) ∧ rV F p=some (pU p s.sz H,st,0):=by
 obtain⟨H,h⟩:=chk_fd hp hs
 have h60:=h.h60;have hnl:=h.nl;have hdl:=h.dl
 have hszl:s.sz.length=p.Nodes.length:=by obtain⟨_,_,_,_,_,_,q,_⟩:=aA5 hs;exact q
 have e0:=sizes_eq hp hs hszl (by omega)
 have e0':sY F p=some (s.sz,0):=by rw [dsz_eq hp,hs]
 have hF:F=4000000:=rfl
 have hrl:(cS p).length ≤ 60:=by
  have:=aBv (m:=gQ p.Nodes.length) h.nd fun x hx=>uX.2 (h.rg x hx)
  unfold gQ at this;rw [List.length_map,List.length_range]at this;omega
 have hsl:(dT (cS p)).length ≤ 60:=by rw [(rZ _).length_eq];exact hrl
 have hrg:∀ b∈dT (cS p),0 ≤ b ∧ b<(p.Nodes.length:Int):=fun b hb=>h.rg b ((rZ _).mem_iff.1 hb)
 have e1:=aHY (fuel:=F) h (by omega)
 have e1':=aGn (fuel:=F) h (by omega)
 have e2:=pc1 (fuel:=F) h (by omega) (rts:=dT (cS p)) (dT (cS p)) [] F [] aN.none rfl (by omega) (by simp;omega) (by simp;omega) hrg
 obtain⟨u0,d1,hu0⟩:=dc1 F 0 (List.replicate p.Nodes.length 0) (by simp) (by simp;omega) (by simp;omega)
 rw [List.length_replicate]at hu0
 have e2':=dc2 (fuel:=F) h (by omega) (rts:=dT (cS p)) (dT (cS p)) [] F [] u0 rfl (by omega) (by simp;omega) (by simp;omega) hu0 hrg
 obtain⟨_,hrel⟩:=st_rel (bk:=fF p H s.sz) (N:=p.Nodes.length) (dT (cS p)) aN.none u0 [] [] hu0 hrg (fun b hb=>by cases hb)
 have hrel':∀ b∈cS p,idx (stL (fF p H s.sz) u0 [] (dT (cS p))) b=some (((stM (fF p H s.sz) aN.none [] (dT (cS p))).get b).getD 0):=fun b hb=>by
  obtain⟨w,h1,h2⟩:=hrel b (.inr ((rZ _).mem_iff.2 hb));rw [h1,h2];rfl
 generalize hG:stM (fF p H s.sz) aN.none [] (dT (cS p))=G at e2 hrel'
 generalize hU:stL (fF p H s.sz) u0 [] (dT (cS p))=U at e2' hrel'
 have hbl:∀ n∈dT (cS p),(fF p H s.sz n).length ≤ 15001:=fun n hn=>by
  obtain⟨q,c,_,_,hb,hl,_⟩:=zG h (hrg n hn);rw [hb,List.length_append,List.length_singleton];omega
 have hon:OnB p (iO (fF p H s.sz) [] (dT (cS p))):=lay_on _ _ (fun i hi=>by cases hi) fun n hn=>by
  obtain⟨e,hT,hA,_,hz,_⟩:=h.node n (hrg n hn).1 (hrg n hn).2;have:=aD5 H (n,e) hT hA;unfold fF;rw [hz];exact this.app (.no fun i hi=>by rw [List.mem_singleton.1 hi];exact⟨by simp,by simp⟩)
 have hlen:=aCt (B:=15001) (dT (cS p)) [] hbl
 rw [List.length_nil]at hlen
 generalize hL:iO (fF p H s.sz) [] (dT (cS p))=L at e2 e2' hon hlen
 have hL2:L.length ≤ 20000000:=by omega
 have e3:=pc2 (x1:=L) (g:=G) L [] F (by simp) (by omega) (by simp;omega)
 have e3':=dc3 (st:=U) (v:=fun b=>(G.get b).getD 0) L [] F (fun i hi o=>hrel' _ (hon i hi o)) (by omega) (by simp;omega)
 have e4:=pc3 (fuel:=F) (p:=p) (g:=G) (by omega) p.Defs [] F rfl hp.dfs (by omega) (by simp;omega)
 have e4':=cp1 (fuel:=F) (D:=p.Defs) (by omega) p.Defs [] F rfl hp.dfs (by omega) (by simp;omega)
 have e5':=dc4 (fuel:=F) (st:=U) (v:=fun b=>(G.get b).getD 0) (by omega) p.Defs [] F (fun d hd=>⟨hp.dfs d hd,fun r hr=>hrel' _ (.tail _ (List.mem_append_left _ (List.mem_flatMap.2 ⟨d,hd,List.mem_append_left _ (List.mem_map.2 ⟨r,hr,rfl⟩)⟩))),fun r hr=>hrel' _ (.tail _ (List.mem_append_left _ (List.mem_flatMap.2 ⟨d,hd,List.mem_append_right _ (List.mem_map.2 ⟨r,hr,rfl⟩)⟩)))⟩) (by omega) (by simp;omega)
 simp only [List.length_nil,Int.natCast_zero,List.map_nil,List.nil_append]at e2 e2' e3 e3' e4 e4' e5'
 refine⟨H,U,h,?_,?_⟩
 ·rw [sI];refine b1 e0 ?_;rw [if_neg (fun g=>g rfl)];refine b1 (z:=(L,p.Free,p.Nodes,p.Defs,p.Main,s.sz,G)) ?_ ?_
  ·refine b1 e1 ?_;exact e2
  refine b1 e3 ?_;refine b1 e4 ?_;rw [pU,hG,hL];rfl
 ·rw [rV];refine b1 e0' ?_;rw [if_neg (fun g=>g rfl)];refine b1 (mk_ok (by omega)) ?_
  refine b1 d1 ?_;refine b1 (z:=p.Defs) (by rw [aAD,e4',bsm]) ?_
  refine b1 e1' ?_;refine b1 e2' ?_;refine b1 (hrel' p.Main (.head _)) ?_;refine b1 e3' ?_;refine b1 e5' ?_;rw [pU,hG,hL];rfl
open Go.SX Go.SW Go.Dt
theorem sd1 {d:ScopeDef} (hl:d.Chans.length ≤ 2000000):∀ (k n:Nat),n ≤ d.Chans.length → d.Chans.length - n<k → qD d d k (n:Int)=some (.inl ())
 | 0,_,_,hk=>by omega
 | k+1,n,hn,hk=>by
  rw [qD];by_cases g:n<d.Chans.length
  ·rw [if_pos (by omega)];refine b1 (fR (List.getElem?_eq_getElem g)) ?_;refine b1 (fR (List.getElem?_eq_getElem g)) ?_;rw [decide_eq_true rfl,decide_eq_true rfl,Bool.and_self,cond_true];refine b1 (aU (by omega)) ?_
   rw [show(n:Int)+1=((n+1:Nat):Int) by omega];exact sd1 hl k (n+1) (by omega) (by omega)
  ·rw [if_neg (by omega)]
theorem sd2 {d:ScopeDef} (hl:d.Spots.length ≤ 2000000):∀ (k n:Nat),n ≤ d.Spots.length → d.Spots.length - n<k → qK d d k (n:Int)=some (.inl ())
 | 0,_,_,hk=>by omega
 | k+1,n,hn,hk=>by
  rw [qK];by_cases g:n<d.Spots.length
  ·rw [if_pos (by omega)];refine b1 (fR (List.getElem?_eq_getElem g)) ?_;refine b1 (fR (List.getElem?_eq_getElem g)) ?_;rw [decide_eq_true rfl,decide_eq_true rfl,Bool.and_self,cond_true];refine b1 (aU (by omega)) ?_
   rw [show(n:Int)+1=((n+1:Nat):Int) by omega];exact sd2 hl k (n+1) (by omega) (by omega)
  ·rw [if_neg (by omega)]
theorem sd4 {r:ScopeRule} (hl:r.Joins.length ≤ 2000000):∀ (k n:Nat),n ≤ r.Joins.length → r.Joins.length - n<k → pK r r k (n:Int)=some (.inl ())
 | 0,_,_,hk=>by omega
 | k+1,n,hn,hk=>by
  rw [pK];by_cases g:n<r.Joins.length
  ·rw [if_pos (by omega)];refine b1 (fR (List.getElem?_eq_getElem g)) ?_;refine b1 (fR (List.getElem?_eq_getElem g)) ?_;rw [if_neg (fun g=>g rfl)];refine b1 (aU (by omega)) ?_
   rw [show(n:Int)+1=((n+1:Nat):Int) by omega];exact sd4 hl k (n+1) (by omega) (by omega)
  ·rw [if_neg (by omega)]
theorem sd3 {fuel:Nat} {d:ScopeDef} (hf:3000000 ≤ fuel) (hl:d.Rules.length ≤ 2000000) (hj:∀ r∈d.Rules,r.Joins.length ≤ 2000000):∀ (k n:Nat),n ≤ d.Rules.length → d.Rules.length - n<k → pI fuel d d k (n:Int)=some (.inl ())
 | 0,_,_,hk=>by omega
 | k+1,n,hn,hk=>by
  rw [pI];by_cases g:n<d.Rules.length
  ·rw [if_pos (by omega)];have hr:=hj _ (List.getElem_mem g);refine b1 (z:= .inl ()) ?_ ?_
   ·refine b1 (fR (List.getElem?_eq_getElem g)) ?_;refine b1 (fR (List.getElem?_eq_getElem g)) ?_;rw [if_neg (fun g=>g rfl),if_neg (fun g=>g rfl),if_neg (fun g=>g rfl)];exact sd4 hr fuel 0 (by omega) (by omega)
   refine b1 (aU (by omega)) ?_
   rw [show(n:Int)+1=((n+1:Nat):Int) by omega];exact sd3 hf hl hj k (n+1) (by omega) (by omega)
  ·rw [if_neg (by omega)]
theorem sd_eq {fuel:Nat} {d:ScopeDef} (hf:3000000 ≤ fuel) (hs:smD d):vM fuel d d=some true:=by
 obtain⟨s1,s2,s3,s4⟩:=hs
 rw [vM,if_neg (fun g=>g rfl),if_neg (fun g=>g rfl),if_neg (fun g=>g rfl)]
 refine b1 (sd1 s1 fuel 0 (by omega) (by omega)) ?_
 refine b1 (sd2 s2 fuel 0 (by omega) (by omega)) ?_
 exact b1 (sd3 hf s3 s4 fuel 0 (by omega) (by omega)) rfl
theorem sds1 {fuel:Nat} {l:List ScopeDef} (hf:3000000 ≤ fuel) (hl:l.length ≤ 2000000) (hs:∀ d∈l,smD d):∀ (k n:Nat),n ≤ l.length → l.length - n<k → pZ fuel l l k (n:Int)=some (.inl ())
 | 0,_,_,hk=>by omega
 | k+1,n,hn,hk=>by
  rw [pZ];by_cases g:n<l.length
  ·rw [if_pos (by omega)];refine b1 (fR (List.getElem?_eq_getElem g)) ?_;refine b1 (fR (List.getElem?_eq_getElem g)) ?_;refine b1 (sd_eq hf (hs _ (List.getElem_mem g))) ?_;rw [cond_true];refine b1 (aU (by omega)) ?_
   rw [show(n:Int)+1=((n+1:Nat):Int) by omega];exact sds1 hf hl hs k (n+1) (by omega) (by omega)
  ·rw [if_neg (by omega)]
theorem sc1 {c:CodeProg} (hl:c.Code.length ≤ 2000000):∀ (k n:Nat),n ≤ c.Code.length → c.Code.length - n<k → qL c c k (n:Int)=some (.inl ())
 | 0,_,_,hk=>by omega
 | k+1,n,hn,hk=>by
  rw [qL];by_cases g:n<c.Code.length
  ·rw [if_pos (by omega)];refine b1 (fR (List.getElem?_eq_getElem g)) ?_;refine b1 (fR (List.getElem?_eq_getElem g)) ?_;rw [decide_eq_true rfl,decide_eq_true rfl,decide_eq_true rfl,Bool.and_self,Bool.and_self,cond_true];refine b1 (aU (by omega)) ?_
   rw [show(n:Int)+1=((n+1:Nat):Int) by omega];exact sc1 hl k (n+1) (by omega) (by omega)
  ·rw [if_neg (by omega)]
theorem aFM {fuel:Nat} {c:CodeProg} (hf:3000000 ≤ fuel) (hl:c.Code.length ≤ 2000000) (hd:c.Defs.length ≤ 2000000) (hs:∀ d∈c.Defs,smD d):xY fuel c c=some true:=by
 rw [xY,if_neg (fun g=>g rfl),if_neg (fun g=>g rfl),if_neg (fun g=>g rfl)]
 refine b1 (z:=true) ?_ ?_
 ·rw [aAd,if_neg (fun g=>g rfl)];exact b1 (sds1 hf hd hs fuel 0 (by omega) (by omega)) rfl
 rw [cond_true]
 exact b1 (sc1 hl fuel 0 (by omega) (by omega)) rfl
theorem code_len {p:ScopeProg} {sz:List Int} {H:Nat} (h:Fd p sz H):(pU p sz H).Code.length ≤ 1000000:=by
 have h60:=h.h60;have hnl:=h.nl
 have hrl:(cS p).length ≤ 60:=by
  have:=aBv (m:=gQ p.Nodes.length) h.nd fun x hx=>uX.2 (h.rg x hx)
  unfold gQ at this;rw [List.length_map,List.length_range]at this;omega
 have hsl:(dT (cS p)).length ≤ 60:=by rw [(rZ _).length_eq];exact hrl
 have:=aCt (bk:=fF p H sz) (B:=15001) (dT (cS p)) [] fun n hn=>by
  obtain⟨q,c,_,_,hb,hl,_⟩:=zG h (h.rg n ((rZ _).mem_iff.1 hn));rw [hb,List.length_append,List.length_singleton];omega
 rw [List.length_nil]at this
 show((iO (fF p H sz) [] (dT (cS p))).map _).length ≤ _
 rw [List.length_map];omega
theorem code_sm {p:ScopeProg} {sz:List Int} {H:Nat} (hp:SmP p):∀ d∈(pU p sz H).Defs,smD d:=fun d hd=>by
 obtain⟨e,he,rfl⟩:=List.mem_map.1 hd
 obtain⟨s1,s2,s3,s4⟩:=hp.dfs e he
 refine⟨s1,by unfold ptD;simp;omega,by unfold ptD;simp;omega,fun r hr=>?_⟩
 obtain⟨q,hq,rfl⟩:=List.mem_map.1 hr
 exact s4 q hq
theorem aIC {p:ScopeProg} (hp:SmP p):zM F p=some true:=by
 have hkn:aBO=some true:=rfl
 have hF:F=4000000:=rfl
 rw [zM]
 cases hs:eT p with
 | none=>
  have e1:sI F p=some (⟨0,[],[],0⟩,2):=by
   rw [sI];refine b1 (psz_none hp hs) ?_;rw [if_pos (by decide)]
  have e2:rV F p=some (⟨0,[],[],0⟩,[],2):=by
   rw [rV];refine b1 (dsz_eq hp) ?_;rw [hs];dsimp only
   rw [if_pos (by decide)]
  refine b1 e1 ?_;refine b1 e2 ?_;rw [if_pos rfl,aFM (c:=⟨0,[],[],0⟩) (by omega) (by simp) (by simp) (fun d hd=>by cases hd),bsm,cond_true,hkn,bsm,bsm]
 | some s=>
  obtain⟨H,st,h,e1,e2⟩:=aG5 hp hs;have h3:(pU p s.sz H).Defs.length ≤ 2000000:=by
   have:=hp.defs;show(p.Defs.map _).length ≤ _
   rw [List.length_map];exact this
  refine b1 e1 ?_;refine b1 e2 ?_;rw [if_pos rfl];refine b1 (z:=true) ?_ rfl;refine b1 (aFM (c:=pU p s.sz H) (by omega) (by have:=code_len h;omega) h3 (code_sm hp)) ?_
  rw [cond_true,hkn,bsm]
open Go.SX Go.SW
theorem aHo {W:World} {a:Addr} {c:Value} (h:W.cell? a=some c):(jC W).cell a=some c:=by
 unfold World.cell? at h
 unfold Mem.cell sW jC
 cases hb:W.heap[a.block]? with
 | none=>rw [hb]at h;cases h
 | some o=>
  rw [hb]at h;cases o with
  | cells c t fr=>
   dsimp only at h ⊢
   first
    | exact h
    | (cases hs:a.spot with
       | none=>rw [hs]at h;simpa using h
       | some s=>rw [hs]at h;simp at h)
  | _=>cases h
theorem aD6 {H:Type} {d:DataW H} {l:List (DataW H)} (h:d∈l):Rows.uptoBulk d ≤ Rows.uptoBulkAll l:=by
 induction l with
 | nil=>cases h
 | cons x r ih=>
  simp only [Rows.uptoBulkAll];cases h with
  | head=>omega
  | tail _ e=>have:=ih e;omega
theorem bulk_one {H:Type} (d:DataW H):1 ≤ Rows.uptoBulk d:=by
 cases d with
 | lit l=>cases l <;> simp [Rows.uptoBulk]
 | _=>simp [Rows.uptoBulk]
section
variable {H:Type} {enc:TypeId × Value → H} {P:Program} {W:World}
def Rd (enc:TypeId × Value → H) (P:Program) (W:World) (n:Nat) {α:Type} (T:Ty α) (t:TypeId) (μ:α → Nat) (S:α → Prop):Prop:=
 ∀ cs x,DataW.trod enc P W 0 (fun _=>true) true n t cs=some x → Rows.uptoBulk x.1 ≤ 1048576 → ∃ a,aV (T.leafs a) (jC W) cs ∧ μ a ≤ Rows.uptoBulk x.1 ∧ S a
def RdF (enc:TypeId × Value → H) (P:Program) (W:World) (n:Nat) (fs:List Field) (o e:Nat) {β:Type} (L:β → List Fact) (μ:β → Nat) (S:β → Prop):Prop:=
 ∀ (cs:List Value) xs,cs.length=e → (fs.mapM fun f=>DataW.trod enc P W 0 (fun _=>true) true n f.type ((cs.drop f.offset).take (P.cellsOf f.type)))=some xs → Rows.uptoBulkAll (xs.map (·.1)) ≤ 1048576 → ∃ b,aV (L b) (jC W) (cs.drop o) ∧ μ b ≤ Rows.uptoBulkAll (xs.map (·.1)) ∧ S b
theorem oR {α:Type} {T:Ty α} {t:TypeId} {μ:α → Nat} {S:α → Prop}:Rd enc P W 0 T t μ S:=fun cs x h=>by cases h
theorem qT {n e:Nat}:RdF enc P W n [] e e (β:=Unit) (fun _=>[]) (fun _=>0) (fun _=>True):=fun cs xs hl h hb=>⟨(),by rw [List.drop_of_length_le (by omega)];rfl,Nat.zero_le _,trivial⟩
theorem aDm {α β:Type} {f:α → Option β} {x:α} {l:List α} {ys:List β} (h:(x :: l).mapM f=some ys):∃ y r,f x=some y ∧ l.mapM f=some r ∧ ys=y :: r:=by
 rw [List.mapM_cons]at h
 cases hx:f x with
 | none=>rw [hx]at h;cases h
 | some y=>
  cases hl:l.mapM f with
  | none=>rw [hx,hl]at h;cases h
  | some r=>rw [hx,hl]at h;cases h;exact⟨y,r,rfl,rfl,rfl⟩
theorem fA {n o e:Nat} {f:Field} {fs:List Field} {α β:Type} {T:Ty α} {μ:α → Nat} {S:α → Prop} {L:β → List Fact} {ν:β → Nat} {R:β → Prop} (h:Rd enc P W n T f.type μ S) (ho:f.offset=o) (hz:P.cellsOf f.type=T.sz) (k:RdF enc P W n fs (o+T.sz) e L ν R):
 RdF enc P W n (f :: fs) o e (fun x:α × β=>T.leafs x.1++L x.2) (fun x=>μ x.1+ν x.2) (fun x=>S x.1 ∧ R x.2):=fun cs xs hl hm hb=>by
 obtain⟨y,r,h1,h2,rfl⟩:=aDm hm
 simp only [List.map_cons,Rows.uptoBulkAll]at hb
 obtain⟨a,a1,a2,a3⟩:=h _ _ h1 (by omega)
 obtain⟨b,b1,b2,b3⟩:=k cs r hl h2 (by omega)
 refine⟨(a,b),?_,by simp only [List.map_cons,Rows.uptoBulkAll];omega,a3,b3⟩
 have:=a1.append b1
 rw [ho,hz,← List.drop_drop,List.take_append_drop]at this
 exact this
theorem qI {n e:Nat} {α β:Type} {T:Ty α} {t:TypeId} {fs:Array Field} {μ:α → Nat} {S:α → Prop} {L:β → List Fact} {ν:β → Nat} {R:β → Prop} (mk:β → α) (ht:P.underlying t=some (.struct fs)) (hc:P.cellsOf t=e) (k:RdF enc P W n fs.toList 0 e L ν R)
 (hL:∀ b,T.leafs (mk b)=L b) (hμ:∀ b,μ (mk b) ≤ ν b+1) (hS:∀ b,R b → ν b+1 ≤ 1048576 → S (mk b)):Rd enc P W (n+1) T t μ S:=fun cs x h hb=>by
 rw [DataW.trod_step]at h
 unfold DataW.trodStep at h
 rw [ht]at h
 dsimp only at h
 split at h
 ·rename_i hcs;cases hm:(fs.toList.mapM fun f=>DataW.trod enc P W 0 (fun _=>true) true n f.type ((cs.drop f.offset).take (P.cellsOf f.type)))with
  | none=>rw [hm]at h;cases h
  | some xs=>
   rw [hm]at h;cases h;simp only [Rows.uptoBulk]at hb;obtain⟨b,b1,b2,b3⟩:=k cs xs (by omega) hm (by omega)
   rw [List.drop_zero]at b1;have:=hμ b;refine⟨mk b,by rw [hL];exact b1,by simp only [Rows.uptoBulk];omega,hS b b3 (by omega)⟩
 ·cases h
theorem rd_int {n:Nat} {t:TypeId} {k:IntKind} (ht:P.underlying t=some (.int k)):Rd enc P W n (dU k) t (fun _=>1) (fun i=>(Lit.int k i).wf=true):=fun cs x h hb=>by
 obtain _ | n:=n
 ·cases h
 rw [DataW.trod_step]at h
 unfold DataW.trodStep at h
 rw [ht]at h
 match cs,h with
 | [.int k' i],h=>
  dsimp only at h
  split at h
  ·rename_i hc;obtain⟨rfl,hw⟩:=hc;cases h;exact⟨i,⟨_,[],rfl,rfl,rfl⟩,Nat.le_refl _,hw⟩
  ·cases h
theorem rd_str {n:Nat} {t:TypeId} (ht:P.underlying t=some .string):Rd enc P W n aE t (fun s=>s.size+1) (fun s=>s.size ≤ 1048576):=fun cs x h hb=>by
 obtain _ | n:=n
 ·cases h
 rw [DataW.trod_step]at h
 unfold DataW.trodStep at h
 rw [ht]at h
 match cs,h with
 | [.string s],h=>
  dsimp only at h
  split at h
  ·cases h;have e:s.data.toList.length=s.size:=rfl;simp only [Rows.uptoBulk]at hb;exact⟨s,⟨_,[],rfl,rfl,rfl⟩,by simp only [Rows.uptoBulk];omega,by omega⟩
  ·cases h
def msum {α:Type} (μ:α → Nat):List α → Nat
 | []=>0
 | a :: l=>μ a+msum μ l
theorem aDM {α:Type} {f:Nat → Option α} {n:Nat} {l:List α} (h:(List.range n).mapM f=some l):l.length=n ∧ ∀ i,i<n → ∃ y,l[i]? =some y ∧ f i=some y:=by
 have g:∀ (ks:List Nat) (l:List α),ks.mapM f=some l → l.length=ks.length ∧ ∀ (i k:Nat),ks[i]? =some k → ∃ y,l[i]? =some y ∧ f k=some y:=fun ks=>by
  induction ks with
  | nil=>intro l h;cases h;exact⟨rfl,fun i k h=>by simp at h⟩
  | cons k ks ih=>
   intro l h;obtain⟨y,r,h1,h2,rfl⟩:=aDm h;obtain⟨a,b⟩:=ih r h2;refine⟨by simp [a],fun i q hq=>?_⟩
   cases i with
   | zero=>simp at hq;subst hq;exact⟨y,rfl,h1⟩
   | succ i=>exact b i q (by simpa using hq)
 obtain⟨a,b⟩:=g _ _ h
 exact⟨by simpa using a,fun i hi=>b i i (by simp [hi])⟩
theorem aGK {W:World} {b z:Nat} {a:Addr} {cs:List Value} (h:W.cells? b a z=some cs):∀ (j:Nat) c,cs[j]? =some c → W.cell? (a.add j)=some c:=by
 unfold World.cells? at h
 split at h
 ·obtain⟨h1,h2⟩:=aDM h;intro j c hj;have:=(List.getElem?_eq_some_iff.1 hj).1;obtain⟨y,y1,y2⟩:=h2 j (by omega)
  rw [hj]at y1;cases y1;exact y2
 ·cases h
theorem aD0 {α γ:Type} {Q:γ → α → Prop}:∀ (l:List γ),(∀ c∈l,∃ a,Q c a) → ∃ r:List α,r.length=l.length ∧ ∀ (i:Nat) c,l[i]? =some c → ∃ a,r[i]? =some a ∧ Q c a
 | [],_=>⟨[],rfl,fun i c h=>by simp at h⟩
 | c :: l,h=>by
  obtain⟨a,ha⟩:=h c (.head _);obtain⟨r,h1,h2⟩:=aD0 l (fun c hc=>h c (.tail _ hc))
  refine⟨a :: r,by simp [h1],fun i q hq=>?_⟩
  cases i with
  | zero=>simp at hq;subst hq;exact⟨a,rfl,ha⟩
  | succ i=>exact h2 i q (by simpa using hq)
theorem aCZ {α:Type} {μ:α → Nat}:∀ {r:List α} {ds:List (DataW H)},r.length=ds.length → (∀ (i:Nat) d a,ds[i]? =some d → r[i]? =some a → μ a ≤ Rows.uptoBulk d) → msum μ r ≤ Rows.uptoBulkAll ds ∧ r.length ≤ Rows.uptoBulkAll ds
 | [],[],_,_=>⟨Nat.zero_le _,Nat.zero_le _⟩
 | a :: r,d :: ds,hl,h=>by
  obtain⟨h1,h2⟩:=aCZ (r:=r) (ds:=ds) (by simpa using hl) (fun i d a hd ha=>h (i+1) d a (by simpa using hd) (by simpa using ha))
  have:=h 0 d a rfl rfl;have:=bulk_one d;simp only [msum,Rows.uptoBulkAll,List.length_cons];omega
theorem rd_sl {n:Nat} {t e:TypeId} {α:Type} {T:Ty α} {μ:α → Nat} {S:α → Prop} (ht:P.underlying t=some (.slice e)) (hz:P.cellsOf e=T.sz) (h:Rd enc P W n T e μ S):Rd enc P W (n+1) (tSl T) t (fun l=>msum μ l+1) (fun l=>l.length ≤ 1048576 ∧ ∀ a∈l,S a):=fun cs x hx hb=>by
 rw [DataW.trod_step]at hx
 unfold DataW.trodStep at hx
 rw [ht]at hx
 match cs,hx with
 | [.slice none 0 0],hx=>
  cases hx;exact⟨[],⟨_,[],rfl,gA (jC W) _ rfl,rfl⟩,Nat.le_refl _,by simp,fun a ha=>by cases ha⟩
 | [.slice (some p) len cap],hx=>
  dsimp only at hx
  split at hx
  ·rename_i hc;cases h1:((List.range len).mapM fun i=>(W.cells? 0 (p.add (i*P.cellsOf e)) (P.cellsOf e)).bind (DataW.trod enc P W 0 (fun _=>true) true n e))with
   | none=>rw [h1]at hx;cases hx
   | some es=>
    rw [h1]at hx;obtain⟨rest,_,rfl⟩:=Option.map_eq_some_iff.1 hx;obtain⟨l1,l2⟩:=aDM h1;simp only [Rows.uptoBulk]at hb;have each:∀ y∈es,∃ a,(μ a ≤ Rows.uptoBulk y.1 ∧ S a) ∧ ∀ i cs',W.cells? 0 (p.add (i*P.cellsOf e)) (P.cellsOf e)=some cs' → DataW.trod enc P W 0 (fun _=>true) true n e cs'=some y → True:=fun y hy=>by
     obtain⟨i,hi,rfl⟩:=List.mem_iff_getElem.1 hy;obtain⟨y,y1,y2⟩:=l2 i (by omega)
     obtain⟨cs',c1,c2⟩:=Option.bind_eq_some_iff.1 y2;have e1:es[i]=y:=by rw [List.getElem?_eq_getElem hi]at y1;exact Option.some.inj y1
     have m1:Rows.uptoBulk y.1 ≤ Rows.uptoBulkAll (es.map (·.1)):=aD6 (List.mem_map_of_mem (by rw [← e1];exact List.getElem_mem _))
     obtain⟨a,a1,a2,a3⟩:=h _ _ c2 (by omega)
     exact⟨a,⟨by rw [e1];exact a2,a3⟩,fun _ _ _ _=>trivial⟩
    have each2:∀ i∈List.range len,∃ a,(∃ y,es[i]? =some y ∧ μ a ≤ Rows.uptoBulk y.1) ∧ S a ∧ T.at (jC W) (p.add (i*T.sz)) a:=fun i hi=>by
     obtain⟨y,y1,y2⟩:=l2 i (by simpa using hi)
     obtain⟨cs',c1,c2⟩:=Option.bind_eq_some_iff.1 y2;have m1:Rows.uptoBulk y.1 ≤ Rows.uptoBulkAll (es.map (·.1)):=aD6 (List.mem_map_of_mem (List.mem_of_getElem? y1));obtain⟨a,a1,a2,a3⟩:=h _ _ c2 (by omega)
     exact⟨a,⟨y,y1,a2⟩,a3,cs',a1,fun j c hj=>by rw [← hz];exact aHo (aGK c1 j c hj)⟩
    obtain⟨r,r1,r2⟩:=aD0 (List.range len) each2;have rl:r.length=len:=by simpa using r1
    have r3:∀ i,i<len → ∃ a,r[i]? =some a ∧ (∃ y,es[i]? =some y ∧ μ a ≤ Rows.uptoBulk y.1) ∧ S a ∧ T.at (jC W) (p.add (i*T.sz)) a:=fun i hi=>r2 i i (by simp [hi])
    obtain⟨m1,m2⟩:=aCZ (μ:=μ) (r:=r) (ds:=es.map (·.1)) (by simp [rl,l1]) (fun i d a hd ha=>by
     obtain⟨a',a1,⟨y,y1,y2⟩,_⟩:=r3 i (by have:=(List.getElem?_eq_some_iff.1 ha).1;omega)
     rw [ha]at a1;cases a1
     rw [List.getElem?_map,y1]at hd;cases hd
     exact y2)
    refine⟨r,⟨_,[],rfl,⟨fun i=>p.add (i*T.sz),⟨some p,cap,by rw [rl],by rw [rl];exact hc.2.1,fun i _=>⟨p,rfl,rfl⟩⟩,by omega,fun i a ha=>?_⟩,rfl⟩,by simp only [Rows.uptoBulk];omega,by omega,fun a ha=>?_⟩
    ·obtain⟨a',a1,_,_,a2⟩:=r3 i (by have:=(List.getElem?_eq_some_iff.1 ha).1;omega)
     rw [ha]at a1;cases a1;exact a2
    ·obtain⟨i,hi,rfl⟩:=List.mem_iff_getElem.1 ha;obtain⟨a',a1,_,a2,_⟩:=r3 i (by omega)
     rw [List.getElem?_eq_getElem hi]at a1;cases a1;exact a2
  ·cases hx
theorem Rd.mono {n:Nat} {α:Type} {T:Ty α} {t:TypeId} {μ ν:α → Nat} {S R:α → Prop} (h:Rd enc P W n T t μ S) (hμ:∀ a,ν a ≤ μ a) (hS:∀ a,S a → μ a ≤ 1048576 → R a):Rd enc P W n T t ν R:=fun cs x hx hb=>by
 obtain⟨a,a1,a2,a3⟩:=h cs x hx hb
 exact⟨a,a1,Nat.le_trans (hμ a) a2,hS a a3 (by omega)⟩
theorem arg_st {α:Type} {T:Ty α} {t:TypeId} {μ:α → Nat} {S:α → Prop} {fs:Array Field} {r:Reach} {b0:Nat} {v:Value} {d:DataW H} {ps:List MemPlace} (h:∀ n,Rd enc P W n T t μ S) (ht:P.underlying t=some (.struct fs)) (hval:Value.okWide P W r b0 t v)
 (hd:DataW.Trod enc P W 0 (fun _=>true) true t v d ps) (hb:Rows.uptoBulk d ≤ 1048576):∃ a,(fSt T a).p (jC W) v ∧ S a:=by
 unfold Value.okWide at hval
 rw [ht]at hval
 obtain⟨cs,rfl,_⟩:=hval
 obtain⟨n,hn⟩:=hd
 obtain⟨a,a1,_,a2⟩:=h n _ _ hn hb
 exact⟨a,⟨cs.toList,by simp,a1⟩,a2⟩
end
open Go.SX Go.SW Go.Dt
section
variable {H:Type} {enc:TypeId × Value → H} {W:World}
abbrev RdP (enc:TypeId × Value → H) (W:World) (n:Nat) {α:Type} (T:Ty α) (t:TypeId) (μ:α → Nat) (S:α → Prop):Prop:=Rd enc Tryz.prog W n T t μ S
theorem iJ (n:Nat) {t:TypeId} (ht:Tryz.prog.underlying t=some (.int .i64)):RdP enc W n (dU .i64) t (fun _=>1) (fun _=>True):=(rd_int ht).mono (fun _=>Nat.le_refl _) (fun _ _ _=>trivial)
theorem qF {n:Nat} {t e:TypeId} {α:Type} {T:Ty α} {μ:α → Nat} {S:α → Prop} (ht:Tryz.prog.underlying t=some (.slice e)) (hz:Tryz.prog.cellsOf e=T.sz) (h:∀ k,RdP enc W k T e μ S):RdP enc W n (tSl T) t (fun l=>msum μ l+1) (fun l=>l.length ≤ 1048576 ∧ ∀ a∈l,S a):=by
 cases n with
 | zero=>exact oR
 | succ n=>exact rd_sl ht hz (h n)
theorem aEy (n:Nat) {t e:TypeId} (ht:Tryz.prog.underlying t=some (.slice e)) (he:Tryz.prog.underlying e=some (.int .i64)) (hz:Tryz.prog.cellsOf e=1):RdP enc W n (tSl (dU .i64)) t (fun _=>0) (fun l=>l.length ≤ 1048576):=
 (qF ht hz (fun k=>iJ k he)).mono (fun _=>Nat.zero_le _) (fun _ h _=>h.1)
theorem xF:∀ l:List ScopeExp,nL l=msum nE l
 | []=>rfl
 | a :: l=>by simp only [nL,msum,xF l]
theorem aEX (a b:Int) (c:List ScopeExp):cF.leafs ⟨a,b,c⟩=[aR .i64 a,aR .i64 b,fSl cF c]:=by
 show [_,_,fW c]=_
 rw [gF]
theorem rd_exp:∀ n:Nat,RdP enc W n cF 143 nE (fun e=>nE e ≤ 1048576)
 | 0=>oR
 | 1=>fun cs x h hb=>(qI (μ:=nE) (S:=fun e=>nE e ≤ 1048576) (T:=cF) (fun b:Int × Int × List ScopeExp × Unit=>⟨b.1,b.2.1,b.2.2.1⟩) Tryz.underlying143 (e:=3) (by kernel_rfl)
  (fA (iJ 0 Tryz.underlying141) rfl (by kernel_rfl) (fA (iJ 0 Tryz.underlying3) rfl (by kernel_rfl) (fA (T:=tSl cF) (μ:=fun l=>msum nE l+1) (S:=fun _=>True) oR rfl (by kernel_rfl) qT)))
  (fun b=>aEX b.1 b.2.1 b.2.2.1) (fun b=>by simp only [nE,xF];omega) (fun b _ hb=>by simp only [nE,xF]at *;omega)) cs x h hb
 | n+2=>fun cs x h hb=>(qI (μ:=nE) (S:=fun e=>nE e ≤ 1048576) (T:=cF) (fun b:Int × Int × List ScopeExp × Unit=>⟨b.1,b.2.1,b.2.2.1⟩) Tryz.underlying143 (e:=3) (by kernel_rfl)
  (fA (iJ _ Tryz.underlying141) rfl (by kernel_rfl) (fA (iJ _ Tryz.underlying3) rfl (by kernel_rfl) (fA (rd_sl Tryz.underlying138 (by kernel_rfl) (rd_exp n)) rfl (by kernel_rfl) qT)))
  (fun b=>aEX b.1 b.2.1 b.2.2.1) (fun b=>by simp only [nE,xF];omega) (fun b _ hb=>by simp only [nE,xF]at *;omega)) cs x h hb
theorem aIM:∀ n:Nat,RdP enc W n aG 140 (fun _=>0) (fun x=>x.Args.length ≤ 2000000 ∧ x.Kids.length ≤ 2000000 ∧ ∀ e∈x.Args,nE e ≤ 2000000)
 | 0=>oR
 | n+1=>qI (T:=aG) (fun b:Int × Int × List ScopeExp × List Int × Unit=>⟨b.1,b.2.1,b.2.2.1,b.2.2.2.1⟩) Tryz.underlying140 (e:=4) (by kernel_rfl)
  (fA (iJ n Tryz.underlying58) rfl (by kernel_rfl) (fA (iJ n Tryz.underlying3) rfl (by kernel_rfl) (fA (qF Tryz.underlying138 (by kernel_rfl) rd_exp) rfl (by kernel_rfl) (fA (aEy n Tryz.underlying40 Tryz.underlying3 (by kernel_rfl)) rfl (by kernel_rfl) qT))))
  (fun _=>rfl) (fun _=>Nat.zero_le _) (fun b h _=>⟨by have:=h.2.2.1.1;show b.2.2.1.length ≤ _;omega,by have:=h.2.2.2.1;show b.2.2.2.1.length ≤ _;omega,fun e he=>Nat.le_trans (h.2.2.1.2 e he) (by omega)⟩)
theorem aHh:∀ n:Nat,RdP enc W n aS 110 (fun _=>0) (fun _=>True)
 | 0=>oR
 | n+1=>qI (T:=aS) (fun b:Int × Int × Unit=>⟨b.1,b.2.1⟩) Tryz.underlying110 (e:=2) (by kernel_rfl)
  (fA (iJ n Tryz.underlying3) rfl (by kernel_rfl) (fA (iJ n Tryz.underlying3) rfl (by kernel_rfl) qT))
  (fun _=>rfl) (fun _=>Nat.zero_le _) (fun _ _ _=>trivial)
theorem aGX:∀ n:Nat,RdP enc W n aY 112 (fun _=>0) (fun _=>True)
 | 0=>oR
 | n+1=>qI (T:=aY) (fun b:Int × Int × Unit=>⟨b.1,b.2.1⟩) Tryz.underlying112 (e:=2) (by kernel_rfl)
  (fA (iJ n Tryz.underlying3) rfl (by kernel_rfl) (fA (iJ n Tryz.underlying3) rfl (by kernel_rfl) qT))
  (fun _=>rfl) (fun _=>Nat.zero_le _) (fun _ _ _=>trivial)
theorem aHj:∀ n:Nat,RdP enc W n aZ 114 (fun _=>0) (fun x=>x.Joins.length ≤ 2000000)
 | 0=>oR
 | n+1=>qI (T:=aZ) (fun b:Int × List Int × Int × Unit=>⟨b.1,b.2.1,b.2.2.1⟩) Tryz.underlying114 (e:=3) (by kernel_rfl)
  (fA (iJ n Tryz.underlying3) rfl (by kernel_rfl) (fA (aEy n Tryz.underlying40 Tryz.underlying3 (by kernel_rfl)) rfl (by kernel_rfl) (fA (iJ n Tryz.underlying3) rfl (by kernel_rfl) qT)))
  (fun _=>rfl) (fun _=>Nat.zero_le _) (fun b h _=>by have:=h.2.1;show b.2.1.length ≤ _;omega)
theorem aHa:∀ n:Nat,RdP enc W n aB 63 (fun _=>0) (smD)
 | 0=>oR
 | n+1=>qI (T:=aB) (fun b:List ScopeChan × List ScopeSpot × List ScopeRule × Unit=>⟨b.1,b.2.1,b.2.2.1⟩) Tryz.underlying63 (e:=3) (by kernel_rfl)
  (fA (qF Tryz.underlying59 (by kernel_rfl) aHh) rfl (by kernel_rfl) (fA (qF Tryz.underlying60 (by kernel_rfl) aGX) rfl (by kernel_rfl) (fA (qF Tryz.underlying61 (by kernel_rfl) aHj) rfl (by kernel_rfl) qT)))
  (fun _=>rfl) (fun _=>Nat.zero_le _) (fun b h _=>⟨by have:=h.1.1;show b.1.length ≤ _;omega,by have:=h.2.1.1;show b.2.1.length ≤ _;omega,by have:=h.2.2.1.1;show b.2.2.1.length ≤ _;omega,h.2.2.1.2⟩)
theorem aGc:∀ n:Nat,RdP enc W n fJ 37 (fun _=>0) (SmP)
 | 0=>oR
 | n+1=>qI (T:=fJ) (fun b:List ByteArray × List ScopeNode × List ScopeDef × Int × Unit=>⟨b.1,b.2.1,b.2.2.1,b.2.2.2.1⟩) Tryz.underlying37 (e:=4) (by kernel_rfl)
  (fA (qF (S:=fun s:ByteArray=>s.size ≤ 1048576) Tryz.underlying34 (by kernel_rfl) (fun k=>(rd_str (n:=k) Tryz.underlying9))) rfl (by kernel_rfl) (fA (qF Tryz.underlying35 (by kernel_rfl) aIM) rfl (by kernel_rfl) (fA (qF Tryz.underlying22 (by kernel_rfl) aHa) rfl (by kernel_rfl) (fA (iJ n Tryz.underlying3) rfl (by kernel_rfl) qT))))
  (fun _=>rfl) (fun _=>Nat.zero_le _) (fun b h _=>⟨by have:=h.2.1.1;show b.2.1.length ≤ _;omega,by have:=h.2.2.1.1;show b.2.2.1.length ≤ _;omega,by have:=h.1.1;show b.1.length ≤ _;omega,fun x hx=>Nat.le_trans (h.1.2 x hx) (by omega),h.2.1.2,h.2.2.1.2⟩)
end
end Go.Proofs.YtjahnkcjbglnoaaGreatDoor
namespace Go.SW
open Go.SX
theorem aHN {w w':World} (h:w.keptBut w' (fun _=>False)) {p:MemPlace} (hp:p.block<w.heap.size):w.sameAt w' p:=by
 obtain⟨_,_,h⟩:=h
 cases p with
 | cell b off=>
  have:=h b hp;show w'.cell? _=w.cell? _
  unfold World.cell?
  dsimp only at *
  cases h1:w.heap[b]? with
  | none=>rw [h1]at this;dsimp only at this;rw [this]
  | some o=>
   rw [h1]at this;cases o with
   | cells c t fr=>
    cases h2:w'.heap[b]? with
    | none=>rw [h2]at this;cases this
    | some o'=>
     rw [h2]at this;cases o' with
     | cells c' t' fr'=>
      dsimp only at this ⊢
      rw [this.2.2.2 off (fun f=>f)]
     | _=>cases this
   | map es clock=>
    cases h2:w'.heap[b]? with
    | none=>rfl
    | some o'=>
     rw [h2]at this;cases o' with
     | cells=>cases this
     | _=>rfl
   | _=>dsimp only at this;rw [this]
 | map b=>
  have:=h b hp;show w'.heap[b]? =w.heap[b]?
  cases h1:w.heap[b]? with
  | none=>rw [h1]at this;exact this
  | some o=>
   rw [h1]at this;cases o with
   | cells c t fr=>
    cases h2:w'.heap[b]? with
    | none=>rw [h2]at this;cases this
    | some o'=>
     rw [h2]at this;cases o' with
     | cells c' t' fr'=>
      dsimp only at this
      obtain⟨rfl,rfl,hs,hc⟩:=this;have:c'=c:=Array.ext_getElem? fun j=>hc j (fun f=>f)
      rw [this]
     | _=>cases this
   | map es clock=>
    cases h2:w'.heap[b]? with
    | none=>rw [h2]at this;cases this
    | some o'=>
     rw [h2]at this;cases o' with
     | map es' clock'=>
      rcases this with f | ⟨rfl,rfl⟩
      ·exact f.elim
      ·rfl
     | _=>cases this
   | _=>exact this
theorem aEP {H:Type} {enc:TypeId × Value → H} {P:Program} {W W':World} (hl:laidOutB P=true) (hm:mapsRowed P=true) (hz:∀ t e,t<P.types.size → P.underlying t=some (.slice e) → 0<P.cellsOf e) (hk:W.keptBut W' (fun _=>False)):
 ∀ {ts:List TypeId} {vs:List Value} {ds:List (DataW H)} {ps:List MemPlace},(∀ t∈ts,t<P.types.size) → DataW.TrodAll enc P W 0 (fun _=>true) true ts vs ds ps → DataW.TrodAll enc P W' 0 (fun b=>decide (b<W.heap.size)) true ts vs ds ps
 | [],[],[],_,_,h=>h
 | t :: _,_ :: _,_ :: _,ps,ht,h=>by
  have hlt:=h.lt;obtain⟨p,q,⟨n,hn⟩,h2,e⟩:=h;refine⟨p,q,⟨n,?_⟩,aEP hl hm hz hk (fun t h=>ht t (.tail _ h)) h2,e⟩
  have hp:∀ x∈p,x.block<W.heap.size:=fun x hx=>hlt x (by rw [e];exact List.mem_append_left _ hx)
  exact DataW.trod_stays (kids_rows hl hm) (fun a b=>hz _ _ a b) (fun f=>by cases f) (ht t (.head _)) hn (fun x hx=>aHN hk (hp x hx)) (fun x hx=>decide_eq_true (hp x hx))
 | [],_ :: _,_,_,_,h=>h.elim
 | [],[],_ :: _,_,_,h=>h.elim
 | _ :: _,[],_,_,_,h=>h.elim
 | _ :: _,_ :: _,[],_,_,h=>h.elim
end Go.SW
