/- Parts of the proof: lemmas, and the steps through the program. -/
import Derived.Test.YtgidgoahhepmlaaGreatFl4
set_option linter.unusedVariables false
set_option linter.unusedSimpArgs false
set_option maxRecDepth 100000
set_option maxHeartbeats 2000000
namespace Go.Proofs.YtgidgoahhepmlaaGreat
open Go.SX Go.SW Go.Dt
def start (p:AI):VS:=⟨List.replicate p.AD.length 0,List.replicate p.AD.length false,List.replicate p.AF.length false⟩
open Classical in
noncomputable def dZ (p:AI):Option VS:=
 if p.AH.length<=12/\p.AD.length<=60/\p.AF.length<=12/\okF none p.AH=true then
  (vis p p.AD.length (start p) p.AG p.AH.length).bind fun s=>if s.AR.all id=true/\s.AY.all id=true then some s else none
 else none
theorem xU {p:AI}:WS p (start p):=⟨by simp [start],by simp [start],by simp [start]⟩
theorem xL {p:AI}:unm (start p)=p.AD.length:=by simp [unm,start,List.countP_replicate]
def GD (p:AI) (s:VS):Prop:=∀ i:Nat,s.AY[i]? =some true->∃ d,p.AF[i]? =some d/\okD d=true
theorem wH {p:AI} {g:VS->Int->Int->Option VS} (h:∀ s n z s',g s n z=some s'->GD p s->GD p s'):∀ (l:List (Int × Int)) (s s':VS),bY g s l=some s'->GD p s->GD p s'
 | [],s,s',e,h0=>by cases e;exact h0
 | x :: l,s,s',e,h0=>by
  obtain⟨s1,e1,e2⟩:=bind_some e;exact wH h l s1 s' e2 (h _ _ _ _ e1 h0)
theorem vis_gd {p:AI} (f:Nat):∀ (s:VS) (n z:Int) (s':VS),vis p f s n z=some s'->GD p s->GD p s':=by
 induction f with
 | zero=>intro s n z s' h;simp [vis]at h
 | succ f ih=>
  intro s n z s' h h0;simp only [vis]at h;split at h
  ·obtain⟨x,_,h⟩:=bind_some h;split at h
   ·split at h
    ·obtain⟨d,hd,h⟩:=bind_some h;split at h
     ·rename_i hok;obtain⟨s1,e1,h⟩:=bind_some h;obtain⟨s2,e2,e3⟩:=bind_some h;refine wH ih _ _ _ e3 (wH ih _ _ _ e2 (wH ih _ _ _ e1 ?_));intro i hi;by_cases hn:x.N.toNat=i
      ·obtain⟨j,hj,hj2,_⟩:=oB hd;rw [<- hn,hj];simp only [a0r];exact⟨d,hj2,hok⟩
      ·simp only [a0N hn]at hi;exact h0 i hi
     ·cases h
    ·exact wH ih _ _ _ h h0
   ·cases h
  ·cases h
theorem aB8 {p:AI} {s:VS} (h:dZ p=some s):∀ d∈p.AF,okD d=true:=by
 unfold dZ at h
 split at h
 ·obtain⟨s1,h1,h2⟩:=bind_some h;split at h2
  ·rename_i hc;cases h2;have hg:=vis_gd _ _ _ _ _ h1 (fun i hi=>by simp [start,List.getElem?_replicate]at hi)
   have hw:=((visO p p.AD.length).out _ _ _ _ xU (by rw [xL];exact a1G _) h1).1
   intro d hd;obtain⟨i,hi⟩:=a1h.1 hd;have hlt:=(a0K.1 hi).1;have hlt2:i<s.AY.length:=by rw [hw.AY];exact hlt
   have ht:s.AY[i]=true:=a0t.1 hc.2 _ (List.getElem_mem hlt2);obtain⟨d',h3,h4⟩:=hg i (by rw [a0I hlt2,ht])
   rw [hi]at h3;cases h3;exact h4
  ·cases h2
 ·cases h
theorem aJq (AC:List Bool):∀ (AB:List Bool) (k:Nat),AC.length<k->AB.length+AC.length<=3000000->∃ r,oG (AB++AC) false k AB.length=some r/\((AC.all id=false/\∃ i:Int,r= .inr i/\0<=i)\/(AC.all id=true/\r= .inl ())):=by
 induction AC with
 | nil=>
  intro AB k hk _;obtain _ | k:=k
  ·omega
  exact⟨_,by rw [oG,a2c (by simp)], .inr ⟨rfl,rfl⟩⟩
 | cons e AC ih=>
  intro AB k hk hB;obtain _ | k:=k
  ·omega
  simp only [a0S]at hk hB;rw [oG,a2d (aV _ _ _),aX,bsm];cases e with
  | false=>exact⟨_,rfl, .inl ⟨rfl,_,rfl,by omega⟩⟩
  | true=>
   rw [show(false==true)=false from rfl,a1X,aM (by omega),bsm,bA AB AC true,aU AB true];obtain⟨r,h1,h2⟩:=ih (AB++[true]) k (by omega) (by simp;omega)
   exact⟨r,h1,by simpa using h2⟩
theorem aED {l:List Bool} (h:l.length<=3000000):uL F l false=some (!l.all id):=by
 obtain⟨r,h1,h2⟩:=aJq l [] F (by show l.length<1000000000;omega) (by simp;omega)
 simp only [a1n,a0W,a0q]at h1
 rw [uL,aBE,h1]
 rcases h2 with⟨h2,i,rfl,h3⟩ | ⟨h2,rfl⟩
 ·rw [h2];simp [h3]
 ·rw [h2];rfl
theorem aDO {p:AI} (hp:SmP p):sL F p=some (iW p (dZ p)):=by
 obtain⟨fr,nodes,Ad,mn⟩:=p
 have hf:=hp.free;have hn:=hp.nodes;have hd:=hp.Ad
 dsimp only at hf hn hd
 rw [sL]
 dsimp only
 unfold dZ
 dsimp only
 by_cases l1:fr.length<=12
 ·rw [a2d (by omega)];by_cases l2:nodes.length<=60
  ·rw [a2d (by omega)];by_cases l3:Ad.length<=12
   ·rw [a2a (by omega),eB,bsm,bsm];dsimp only
    have e1:lS F ⟨fr,nodes,Ad,mn⟩ F 0=some (if okF none fr=true then .inl () else .inr (.inr flaw)):=fl1 (nodes:=nodes) (Ad:=Ad) (mn:=mn) fr [] F (by show fr.length<1000000000;omega) (by simp;omega) hp.names
    rw [e1,bsm];by_cases hok:okF none fr=true
    ·rw [a2d hok,a2d ⟨l1,l2,l3,hok⟩];dsimp only
     have hmk:∀ {α:Type} (a:α) (k:Nat),k<=60->mk a (k:Int)=some (List.replicate k a):=fun a k hk=>by unfold mk;rw [a2d (by omega)];simp
     rw [hmk 0 _ l2,bsm,hmk false _ l2,bsm,hmk false _ (by omega),bsm];have hv:=pvis hp (b:=1000000000 - nodes.length - 1) (by omega) nodes.length
     rw [show 1000000000 - nodes.length - 1+nodes.length+1=F from by show _=1000000000;omega]at hv
     have hrun:=hv.run (start ⟨fr,nodes,Ad,mn⟩) mn fr.length xU (by rw [xL];exact a1G _) (by omega) (by omega)
     rw [show(⟨⟨fr,nodes,Ad,mn⟩,List.replicate nodes.length 0,List.replicate nodes.length false,List.replicate Ad.length false⟩:Ae)=⟨⟨fr,nodes,Ad,mn⟩,(start ⟨fr,nodes,Ad,mn⟩).sz,(start ⟨fr,nodes,Ad,mn⟩).AR,(start ⟨fr,nodes,Ad,mn⟩).AY⟩from rfl,hrun,bsm];cases hc:vis ⟨fr,nodes,Ad,mn⟩ nodes.length (start ⟨fr,nodes,Ad,mn⟩) mn fr.length with
     | none=>rfl
     | some s=>
      obtain⟨w,_⟩:=(visO _ _).out _ _ _ _ xU (by rw [xL];exact a1G _) hc
      have wm:s.AR.length=nodes.length:=w.AR;have wd:s.AY.length=Ad.length:=w.AY;simp only [iW];rw [bsm,aED (by omega),bsm];cases hm:s.AR.all id with
      | false=>rw [a2c (fun q=>by cases q.1)];rfl
      | true=>
       rw [a0o,a0n,a1Y,aED (by omega),bsm];cases hm2:s.AY.all id with
       | false=>rw [a2c (fun q=>by cases q.2)];rfl
       | true=>rw [a2d ⟨rfl,rfl⟩];rfl
    ·rw [a2c hok,a2c (fun q=>hok q.2.2.2)];rfl
   ·rw [a1Z (by omega),cN,a2c (fun q=>l3 q.2.2.1)];rfl
  ·rw [a2c (by omega),cN,a2c (fun q=>l2 q.2.1)];rfl
 ·rw [a2c (by omega),cN,a2c (fun q=>l1 q.1)];rfl
theorem check_eq {p:AI} (hp:SmP p):tU F p=some (if (dZ p).isSome=true then 0 else 2):=by
 rw [tU,aBw,show(⟨p.AH,p.AD,p.AF,p.AG⟩:AI)=p from rfl,aDO hp,bsm]
 cases dZ p with
 | none=>rfl
 | some s=>rfl
theorem aHI {f:Nat} {p:AI} (AC:List AN):∀ (AB:List AN) (k:Nat),p.AF=AB++AC->AC.length<k->AB.length+AC.length<=3000000->qV f p k AB.length true=some true:=by
 induction AC with
 | nil=>
  intro AB k he hk _;obtain _ | k:=k
  ·omega
  rw [qV,he,a2c (by simp)]
 | cons e AC ih=>
  intro AB k he hk hB;obtain _ | k:=k
  ·omega
  simp only [a0S]at hk hB;rw [qV,he,a2d (aV _ _ _),a1Y,bsm,aM (by omega),bsm,aU AB e];exact ih (AB++[e]) k (by rw [he];simp) (by omega) (by simp;omega)
theorem al2 {f:Nat} (hf:3900000<=f) {p:AI} (hp:SmP p) (AC:List AN):∀ (AB:List AN) (k:Nat),p.AF=AB++AC->AC.length<k->AB.length+AC.length<=3000000->qV f p k AB.length false=some (!AC.all okD):=by
 induction AC with
 | nil=>
  intro AB k he hk _;obtain _ | k:=k
  ·omega
  rw [qV,he,a2c (by simp)];rfl
 | cons e AC ih=>
  intro AB k he hk hB;obtain _ | k:=k
  ·omega
  simp only [a0S]at hk hB;have hmem:e∈p.AF:=by rw [he];simp
  rw [qV,he,a2d (aV _ _ _),a1X,aX,bsm,rdef_eq (by omega) (hp.AY e hmem),bsm,bsm,aM (by omega),bsm,aU AB e];cases h:okD e with
  | false=>rw [a0n,aHI AC (AB++[e]) k (by rw [he];simp) (by omega) (by simp;omega),show(e :: AC).all okD=(okD e && AC.all okD)from rfl,h];rfl
  | true=>rw [a0o,ih (AB++[e]) k (by rw [he];simp) (by omega) (by simp;omega),show(e :: AC).all okD=(okD e && AC.all okD)from rfl,h,a0p]
theorem aEH {L:Aj} (AC:List Int):∀ (AB:List Int) (k:Nat),L.Aq=AB++AC->AC.length<k->AB.length+AC.length<=3000000->pU L k AB.length true=some true:=by
 induction AC with
 | nil=>
  intro AB k he hk _;obtain _ | k:=k
  ·omega
  rw [pU,he,a2c (by simp)]
 | cons e AC ih=>
  intro AB k he hk hB;obtain _ | k:=k
  ·omega
  simp only [a0S]at hk hB;rw [pU,he,a2d (aV _ _ _),a1Y,bsm,aM (by omega),bsm,aU AB e];exact ih (AB++[e]) k (by rw [he];simp) (by omega) (by simp;omega)
theorem aDJ {L:Aj} (AC:List Int):∀ (AB:List Int) (k:Nat),L.Ao=AB++AC->AC.length<k->AB.length+AC.length<=3000000->qK L k AB.length true=some true:=by
 induction AC with
 | nil=>
  intro AB k he hk _;obtain _ | k:=k
  ·omega
  rw [qK,he,a2c (by simp)]
 | cons e AC ih=>
  intro AB k he hk hB;obtain _ | k:=k
  ·omega
  simp only [a0S]at hk hB;rw [qK,he,a2d (aV _ _ _),a1Y,bsm,aM (by omega),bsm,aU AB e];exact ih (AB++[e]) k (by rw [he];simp) (by omega) (by simp;omega)
theorem al3 {L:Aj} (AC:List Bool):∀ (AB:List Int) (k:Nat),L.Aq=AB++ob AC->AC.length<k->AB.length+AC.length<=3000000->pU L k AB.length false=some (!AC.all id):=by
 induction AC with
 | nil=>
  intro AB k he hk _;obtain _ | k:=k
  ·omega
  rw [pU,he,a2c (by simp [ob])];rfl
 | cons e AC ih=>
  intro AB k he hk hB;obtain _ | k:=k
  ·omega
  simp only [a0S]at hk hB;have hob:ob (e :: AC)=(if e=true then 1 else 0) :: ob AC:=rfl
  rw [hob]at he;have he2:=he;rw [bA]at he2;rw [pU,he,a2d (aV _ _ _),a1X,aX,bsm,bsm,aM (by omega),bsm,aU AB (if e=true then 1 else 0)];cases e with
  | false=>
   rw [a2c a0m]at he2 ⊢;rw [a2a (by omega),aEH (ob AC) (AB++[0]) k he2 (by rw [iS];omega) (by rw [iS];simp;omega)];rfl
  | true=>
   rw [a2d rfl]at he2 ⊢;rw [a1Z (by omega),ih (AB++[1]) k he2 (by omega) (by simp;omega)];simp
theorem al4 {L:Aj} (AC:List Bool):∀ (AB:List Int) (k:Nat),L.Ao=AB++ob AC->AC.length<k->AB.length+AC.length<=3000000->qK L k AB.length false=some (!AC.all id):=by
 induction AC with
 | nil=>
  intro AB k he hk _;obtain _ | k:=k
  ·omega
  rw [qK,he,a2c (by simp [ob])];rfl
 | cons e AC ih=>
  intro AB k he hk hB;obtain _ | k:=k
  ·omega
  simp only [a0S]at hk hB;have hob:ob (e :: AC)=(if e=true then 1 else 0) :: ob AC:=rfl
  rw [hob]at he;have he2:=he;rw [bA]at he2;rw [qK,he,a2d (aV _ _ _),a1X,aX,bsm,bsm,aM (by omega),bsm,aU AB (if e=true then 1 else 0)];cases e with
  | false=>
   rw [a2c a0m]at he2 ⊢;rw [a2a (by omega),aDJ (ob AC) (AB++[0]) k he2 (by rw [iS];omega) (by rw [iS];simp;omega)];rfl
  | true=>
   rw [a2d rfl]at he2 ⊢;rw [a1Z (by omega),ih (AB++[1]) k he2 (by omega) (by simp;omega)];simp
def AOut (p:AI) (o:Option VS) (L:Aj):Prop:=match o with
 | some s=>L=⟨p,s.sz,ob s.AR,ob s.AY,false⟩
 | none=>L.bad=true
theorem iV {f:Nat} {p:AI} (hp:SmP p) (hfu:3900000<=f:=by decide):∃ L,aCI f p=some L/\AOut p (dZ p) L:=by
 have hdefs:dZ p≠none->∀ d∈p.AF,okD d=true:=fun h=>by
  cases hc:dZ p with
  | none=>exact absurd hc h
  | some s=>exact aB8 hc
 obtain⟨fr,nodes,Ad,mn⟩:=p
 have hf:=hp.free;have hn:=hp.nodes;have hd:=hp.Ad
 dsimp only at hf hn hd
 rw [aCI]
 dsimp only
 have hno:∀ (q:¬ (fr.length<=12/\nodes.length<=60/\Ad.length<=12/\okF none fr=true)),dZ ⟨fr,nodes,Ad,mn⟩=none:=fun q=>by unfold dZ;rw [a2c q]
 by_cases l1:12<fr.length
 ·rw [a2d (by omega),hno (fun q=>by omega)];exact⟨_,rfl,rfl⟩
 ·rw [a2c (by omega)];by_cases l2:60<nodes.length
  ·rw [a2d (by omega),hno (fun q=>by omega)];exact⟨_,rfl,rfl⟩
  ·rw [a2c (by omega)];by_cases l3:12<Ad.length
   ·rw [a2d (by omega),hno (fun q=>by omega)];exact⟨_,rfl,rfl⟩
   ·rw [a2c (by omega)];have e1:mO f ⟨fr,nodes,Ad,mn⟩ f 0 false=some (!okF none fr):=fr1 hfu (p:=⟨fr,nodes,Ad,mn⟩) fr [] f rfl (by omega) (by simp;omega) hp.names
    have hmk:∀ (k:Nat),k<=60->mk (0:Int) (k:Int)=some (List.replicate k 0):=fun k hk=>by unfold mk;rw [a2d (by omega)];simp
    rw [e1,bsm];cases hok:okF none fr with
    | false=>
     have e2:=aHI (f:=f) (p:=⟨fr,nodes,Ad,mn⟩) Ad [] f rfl (by omega) (by simp;omega)
     simp only [a0W,a0q]at e2;rw [a0n,e2,bsm,hmk _ (by omega),bsm,bsm,hmk _ (by omega),bsm,a1Y,hno (fun q=>by rw [hok]at q;cases q.2.2.2)]
     exact⟨_,rfl,rfl⟩
    | true=>
     have e2:=al2 hfu hp (p:=⟨fr,nodes,Ad,mn⟩) Ad [] f rfl (by omega) (by simp;omega)
     simp only [a0W,a0q]at e2;rw [a0o,e2,bsm,hmk _ (by omega),bsm,bsm,hmk _ (by omega),bsm];cases had:Ad.all okD with
     | false=>
      have:dZ ⟨fr,nodes,Ad,mn⟩=none:=by
       cases hc:dZ ⟨fr,nodes,Ad,mn⟩with
       | none=>rfl
       | some s=>
        have:=a0t.2 (hdefs (by rw [hc];simp))
        dsimp only at this
        rw [had]at this;cases this
      rw [this,a0n,a1Y];exact⟨_,rfl,rfl⟩
     | true=>
      rw [a0o,a1X];have hv:=rvis hp (a0t.1 had) nodes.length f (by omega)
      obtain⟨L,h1,h2⟩:=hv.run (start ⟨fr,nodes,Ad,mn⟩) mn fr.length xU (by rw [xL];exact a1G _) (by omega) (by omega)
      have hst:(⟨⟨fr,nodes,Ad,mn⟩,List.replicate nodes.length 0,List.replicate nodes.length 0,List.replicate Ad.length 0,false⟩:Aj)=⟨⟨fr,nodes,Ad,mn⟩,(start ⟨fr,nodes,Ad,mn⟩).sz,ob (start ⟨fr,nodes,Ad,mn⟩).AR,ob (start ⟨fr,nodes,Ad,mn⟩).AY,false⟩:=by
       simp [start,ob_rep]
      rw [hst,h1,bsm];have hcv:dZ ⟨fr,nodes,Ad,mn⟩=(vis ⟨fr,nodes,Ad,mn⟩ nodes.length (start ⟨fr,nodes,Ad,mn⟩) mn fr.length).bind fun s=>if s.AR.all id=true/\s.AY.all id=true then some s else none:=by
       unfold dZ;rw [a2d ⟨by show fr.length<=12;omega,by show nodes.length<=60;omega,by show Ad.length<=12;omega,hok⟩]
      rw [hcv];cases hc:vis ⟨fr,nodes,Ad,mn⟩ nodes.length (start ⟨fr,nodes,Ad,mn⟩) mn fr.length with
      | none=>
       rw [hc]at h2;obtain⟨g1,g2,g3⟩:=h2;dsimp only at g2 g3
       have e3:=aEH (L:=L) L.Aq [] f rfl (by rw [g2];omega) (by simp;omega)
       have e4:=aDJ (L:=L) L.Ao [] f rfl (by rw [g3];omega) (by simp;omega)
       simp only [a0W,a0q]at e3 e4;rw [g1,e3,bsm,e4,bsm];exact⟨_,rfl,rfl⟩
      | some s=>
       rw [hc]at h2;have h2:L=_:=h2;subst h2;obtain⟨w,_⟩:=(visO _ _).out _ _ _ _ xU (by rw [xL];exact a1G _) hc
       have wm:s.AR.length=nodes.length:=w.AR;have wd:s.AY.length=Ad.length:=w.AY;have e3:=al3 (L:=⟨⟨fr,nodes,Ad,mn⟩,s.sz,ob s.AR,ob s.AY,false⟩) s.AR [] f rfl (by omega) (by simp;omega)
       simp only [a0W,a0q]at e3;dsimp only
       rw [e3,bsm,bsm];cases hm:s.AR.all id with
       | false=>
        have e4:=aDJ (L:=⟨⟨fr,nodes,Ad,mn⟩,s.sz,ob s.AR,ob s.AY,false⟩) (ob s.AY) [] f rfl (by rw [iS];omega) (by rw [iS];simp;omega)
        simp only [a0W,a0q]at e4;rw [a0n,e4,bsm,a2c (fun q=>by cases q.1)]
        exact⟨_,rfl,rfl⟩
       | true=>
        have e4:=al4 (L:=⟨⟨fr,nodes,Ad,mn⟩,s.sz,ob s.AR,ob s.AY,false⟩) s.AY [] f rfl (by omega) (by simp;omega)
        simp only [a0W,a0q]at e4;rw [a0o,e4,bsm];cases hm2:s.AY.all id with
        | false=>rw [a2c (fun q=>by cases q.2)];exact⟨_,rfl,rfl⟩
        | true=>rw [a2d ⟨rfl,rfl⟩];exact⟨_,rfl,rfl⟩
theorem aFe {f:Nat} {p:AI} (hp:SmP p) {s:VS} (h:dZ p=some s) (hf:3900000<=f:=by decide):aAT f p=some s.sz:=by
 obtain⟨L,h1,h2⟩:=iV hp hf
 rw [h]at h2
 have h2:L=_:=h2
 subst h2
 rw [aAT,show(⟨p.AH,p.AD,p.AF,p.AG⟩:AI)=p from rfl,h1,bsm]
open Go.SX Go.SW Go.Dt
def cT (b:Int):Option Int->List Int->Bool
 | _,[]=>true
 | p,n :: l=>(decide (0<=n/\n<b) && (match p with | none=>true | some q=>decide (q<n))) && cT b (some n) l
def pick (l a:List Int):List Int:=a.map fun i=>(idx l i).getD 0
def upto (n:Int) (k:Nat):List Int:=(List.range k).map fun (i:Nat)=>n+(i:Int)
mutual
def opE (l:List Int):AT->Option AT
 | ⟨op,n,ks⟩=>(if op=2 then idx l n else some n).bind fun m=>(opL l ks).bind fun ks'=>some ⟨op,m,ks'⟩
def opL (l:List Int):List AT->Option (List AT)
 | []=>some []
 | k :: ks=>(opE l k).bind fun k'=>(opL l ks).bind fun ks'=>some (k' :: ks')
end
def cS (op:Int):Bool:=decide (op=4\/op=6\/op=7\/op=8)
def opI (y:Ah) (list tk:List Int):Option Int:=
 if y.Op=2 then idx list y.N else if y.Op=6\/y.Op=8 then idx tk y.N else some y.N
def opN (y:Ah) (list tk:List Int):Option AV:=(opI y list tk).bind fun m=>(opL list y.AW).bind fun a=>some ⟨y.Op,m,a,y.AO⟩
def gS (ch:List An):List Int->Option Int
 | []=>some 0
 | c :: js=>(idx ch c).bind fun y=>if 0<=y.Ap/\y.Ap<=3 then(gS ch js).bind fun k=>some (y.Ap+k) else none
structure FS where
 AX:List Bool
 Aa:List (List Int)
 AZ:List (List Int)
 nd:List AV
def FS.put (s:FS) (n:Int) (l t:List Int) (z:AV):FS:=⟨s.AX.set n.toNat true,s.Aa.set n.toNat l,s.AZ.set n.toNat t,s.nd.set n.toNat z⟩
def dX (g:FS->Int->List Int->Int->Option FS):FS->List (Option (Int × List Int × Int))->Option FS
 | s,[]=>some s
 | _,none :: _=>none
 | s,some t :: l=>(g s t.1 t.2.1 t.2.2).bind fun s=>dX g s l
def limD (d:AN):Prop:=d.AQ.length<=30/\d.AS.length<=30/\d.AP.length<=30
def dI (d:AN):Nat:=d.AQ.length+d.AS.length
open Classical in
noncomputable def qL (x:Bool) (d:AN) (ins:List Int) (size:Int) (r:Ai):Option (Int × List Int × Int):=
 if x=true->r.Ab.length<=3 then(gS d.AQ r.Ab).bind fun k=>some (r.AU,ins++upto size k.toNat,size+k) else none
def gQ (y:Ah) (list tk:List Int):List Int:=if y.Op=6\/y.Op=8 then tk else list
def uB (x:Bool) (y:Ah) (list:List Int):Prop:=
 ((cS y.Op=true\/y.AM=[])/\cT list.length none y.AM=true)/\(x=true->y.AW.length<=3/\y.AO.length<=2/\y.AW.all (okE list.length)=true)
open Classical in
noncomputable def iY (x:Bool) (f:AE) (g:FS->Int->List Int->Int->Option FS) (s:FS) (y:Ah) (list tk:List Int) (size:Int):Option FS:=
 if y.Op=4 then
  (idx f.AF y.N).bind fun d=>
  if x=true->limD d then
   (dX g s (d.AP.map (qL x d (tk++upto size (dI d)) (size+dI d)))).bind fun s=>
   (dX g s (d.AS.map fun p=>some (p.AU,tk++upto size (dI d),size+dI d))).bind fun s=>
   dX g s (y.AO.map fun c=>some (c,list++upto size (dI d),size+dI d))
  else none
 else dX g s (y.AO.map fun c=>some (c,gQ y list tk,size))
open Classical in
noncomputable def cG (x:Bool) (f:AE):Nat->FS->Int->List Int->Int->Option FS
 | 0,_,_,_,_=>none
 | k+1,s,n,list,size=>
  if 0<=n/\n<(f.AD.length:Int)/\idx s.AX n=some false then
   (idx f.AD n).bind fun y=>
   if uB x y list then
    (opN y list (pick list y.AM)).bind fun z=>iY x f (cG x f k) (s.put n list (pick list y.AM) z) y list (pick list y.AM) size
   else none
  else none
structure LimF (f:AE):Prop where
 node:∀ y∈f.AD,y.AW.length<=3/\y.AO.length<=2/\∀ l a,opL l y.AW=some a->y.AW.all (okE l.length)=true
 Ad:∀ d∈f.AF,limD d/\∀ r∈d.AP,r.Ab.length<=3
open Go.SX Go.SW Go.Dt
theorem opE_eq {l:List Int} {op n:Int} {ks:List AT} {e:AT} (h:opE l ⟨op,n,ks⟩=some e):∃ m ks',e=⟨op,m,ks'⟩/\(if op=2 then idx l n else some n)=some m/\opL l ks=some ks':=by
 rw [opE]at h
 obtain⟨m,e1,h⟩:=bind_some h
 obtain⟨ks',e2,h⟩:=bind_some h
 cases h
 exact⟨m,ks',rfl,e1,e2⟩
theorem aBV {l:List Int} {k:AT} {ks a:List AT} (h:opL l (k :: ks)=some a):∃ k' ks',a=k' :: ks'/\opE l k=some k'/\opL l ks=some ks':=by
 rw [opL]at h
 obtain⟨k',e1,h⟩:=bind_some h
 obtain⟨ks',e2,h⟩:=bind_some h
 cases h
 exact⟨k',ks',rfl,e1,e2⟩
theorem aEC {l:List Int}:∀ {ks a:List AT},opL l ks=some a->a.length=ks.length
 | [],a,h=>by rw [opL]at h;cases h;rfl
 | k :: ks,a,h=>by
  obtain⟨k',ks',rfl,_,h2⟩:=aBV h;simp [aEC h2]
mutual
theorem aFw {l:List Int}:∀ {e e':AT},opE l e=some e'->nE e'=nE e/\dE e'=dE e
 | ⟨op,n,ks⟩,e',h=>by
  obtain⟨m,ks',rfl,_,h2⟩:=opE_eq h;have:=aG6 h2;simp only [nE,dE];omega
theorem aG6 {l:List Int}:∀ {ks a:List AT},opL l ks=some a->nL a=nL ks/\dL a=dL ks
 | [],a,h=>by rw [opL]at h;cases h;exact⟨rfl,rfl⟩
 | k :: ks,a,h=>by
  obtain⟨k',ks',rfl,h1,h2⟩:=aBV h;have:=aFw h1;have:=aG6 h2
  simp only [nL,dL];omega
end
theorem wI {α:Type} {xs:List α} {i:Int} {y:α} (h:idx xs i=some y):0<=i/\i<(xs.length:Int):=by
 obtain⟨j,rfl,hj,_⟩:=oB h
 have:=(a0K.1 hj).1
 omega
def aAh:AV:=⟨0,0,[],[]⟩
def InvF (f:AE) (s:FS):Prop:=∀ (i:Nat) (w:AV),s.nd[i]? =some w->w=aAh\/∃ y l t,f.AD[i]? =some y/\opN y l t=some w
theorem uR {R:FS->Prop} {g:FS->Int->List Int->Int->Option FS} (H:∀ s n l z s',g s n l z=some s'->R s->R s'):∀ (ts:List (Option (Int × List Int × Int))) (s s':FS),dX g s ts=some s'->R s->R s'
 | [],s,s',e,h=>by cases e;exact h
 | none :: ts,s,s',e,h=>by cases e
 | some t :: ts,s,s',e,h=>by
  obtain⟨s1,e1,e2⟩:=bind_some e;exact uR H ts s1 s' e2 (H _ _ _ _ _ e1 h)
theorem tJ {x:Bool} {f:AE} {R:FS->Prop} (hp:∀ s n y l t z,idx f.AD n=some y->opN y l t=some z->R s->R (s.put n l t z)):∀ (k:Nat) (s:FS) (n:Int) (l:List Int) (z:Int) (s':FS),cG x f k s n l z=some s'->R s->R s'
 | 0,_,_,_,_,_,h,_=>by cases h
 | k+1,s,n,l,z,s',h,h0=>by
  rw [cG]at h;split at h
  ·obtain⟨y,ey,h⟩:=bind_some h;split at h
   ·obtain⟨w,ew,h⟩:=bind_some h;have h1:=hp s n y l _ w ey ew h0;unfold iY at h;split at h
    ·obtain⟨d,ed,h⟩:=bind_some h;split at h
     ·obtain⟨s1,e1,h⟩:=bind_some h;obtain⟨s2,e2,h⟩:=bind_some h;exact uR (tJ hp k) _ _ _ h (uR (tJ hp k) _ _ _ e2 (uR (tJ hp k) _ _ _ e1 h1))
     ·cases h
    ·exact uR (tJ hp k) _ _ _ h h1
   ·cases h
  ·cases h
theorem inv_put {f:AE} {s:FS} {n:Int} {y:Ah} {l t:List Int} {z:AV} (ey:idx f.AD n=some y) (ez:opN y l t=some z) (h:InvF f s):InvF f (s.put n l t z):=by
 intro i w hw
 simp only [FS.put]at hw
 obtain⟨j,rfl,hj,_⟩:=oB ey
 rw [a0r]at hw
 by_cases hn:j=i
 ·subst hn;rw [List.getElem?_set_self']at hw;cases hs:s.nd[j]? with
  | none=>rw [hs]at hw;cases hw
  | some w0=>
   rw [hs]at hw;have hw:z=w:=by simpa using hw
   subst hw;exact .inr ⟨y,l,t,hj,ez⟩
 ·rw [a0N hn]at hw;exact h i w hw
def bM (f:AE) (s:FS):AI:=⟨f.AH,s.nd,f.AF,f.AG⟩
theorem okN_args {p:AI} {s:VS} {y:AV} {z:Int} (h:okN p s y z):y.AW.length<=3/\y.AO.length<=2/\y.AW.all (okE z)=true/\y.Op≠0:=by
 obtain⟨⟨k,c,h1,h2,h3⟩,h4⟩:=h
 have h5:y.AW.length<=3:=by
  unfold okM at h3;split at h3
  ·omega
  ·omega
  ·omega
  ·omega
  ·omega
 refine⟨h5,?_,h4,fun h0=>?_⟩
 ·unfold shp at h1;split at h1
  ·cases h1;omega
  ·split at h1
   ·cases h1;omega
   ·split at h1
    ·cases h1;omega
    ·split at h1
     ·cases h1;omega
     ·split at h1
      ·cases h1;omega
      ·split at h1
       ·cases h1;omega
       ·cases h1
 ·rw [h0]at h1;simp [shp]at h1
def fW (f:AE):FS:=⟨List.replicate f.AD.length false,List.replicate f.AD.length [],List.replicate f.AD.length [],List.replicate f.AD.length aAh⟩
noncomputable def oU (x:Bool) (f:AE):Option FS:=
 if (f.AD.length<=60/\f.AH.length<=12/\f.AF.length<=12)/\cT f.AH.length none f.AM=true then cG x f f.AD.length (fW f) f.AG f.AM f.AH.length else none
noncomputable def fV (x:Bool) (f:AE):Option FS:=(oU x f).bind fun s=>if (dZ (bM f s)).isSome=true then some s else none
theorem aDb {x:Bool} {f:AE} {s:FS} (h:oU x f=some s):InvF f s/\s.nd.length=f.AD.length:=by
 unfold oU at h
 split at h
 ·refine tJ (R:=fun s=>InvF f s/\s.nd.length=f.AD.length) (fun s n y l t z e1 e2 h=>⟨inv_put e1 e2 h.1,by simp only [FS.put,a0X];exact h.2⟩) _ _ _ _ _ _ h ⟨fun i w hw=> .inl ?_,by simp [fW]⟩
  simp only [fW,List.getElem?_replicate]at hw;split at hw
  ·exact(a1T hw).symm
  ·cases hw
 ·cases h
open Go.SX Go.SW Go.Dt
theorem cX {β:Type} {l:List β} (h:l.length<=1000000000):cQ l=some l:=a2d h
theorem yY {α:Type} {z:α} {n:Nat} (h:n<=1000000000):mk z (n:Int)=some (List.replicate n z):=by unfold mk;rw [a2d (by omega),a0r]
structure SmF (f:AE):Prop where
 nodes:f.AD.length<=2000000
 Ad:f.AF.length<=2000000
 free:f.AH.length<=2000000
 names:∀ x∈f.AH,x.size<=2000000
 args:∀ x∈f.AD,x.AW.length<=2000000/\x.AO.length<=2000000/\∀ e∈x.AW,nE e<=2000000
 takes:∀ x∈f.AD,x.AM.length<=2000000
 AY:∀ d∈f.AF,smD d
 take:f.AM.length<=2000000
theorem gK {α:Type} {xs:List α} {i:Int} (h0:0<=i) (h1:i<(xs.length:Int)):∃ y,idx xs i=some y:=by
 obtain⟨j,rfl⟩:=Int.eq_ofNat_of_zero_le h0
 exact⟨xs[j],iP (a0I (by omega))⟩
theorem aGM (b:Int):∀ (l:List Int) (q:Int),q<b->cT b (some q) l=true->(l.length:Int)<=b - 1 - q
 | [],q,h,_=>by simp;omega
 | n :: l,q,h,e=>by
  simp only [cT,a0k,a2b]at e;have:=aGM b l n e.1.1.2 e.2;simp only [a0S];omega
theorem aBW {b:Int} (hb:0<=b):∀ {l:List Int},cT b none l=true->(l.length:Int)<=b
 | [],_=>by simpa using hb
 | n :: l,e=>by
  simp only [cT,a0k,a2b]at e;have:=aGM b l n e.1.1.2 e.2;simp only [a0S];omega
theorem aBe {b:Int}:∀ {l:List Int} {p:Option Int},cT b p l=true->∀ i∈l,0<=i/\i<b
 | [],_,_,i,h=>by cases h
 | n :: l,p,e,i,h=>by
  simp only [cT,a0k,a2b]at e;cases h with
  | head=>exact e.1.1
  | tail _ h=>exact aBe e.2 i h
theorem aIA (AB:List Int):AB=[]\/∃ p q,AB=p++[q]:=by
 rcases List.eq_nil_or_concat AB with h | ⟨p,q,h⟩
 ·exact .inl h
 ·exact .inr ⟨p,q,by simpa using h⟩
theorem aKk {b:Int} (AC:List Int):∀ (AB:List Int) (k:Nat),AC.length<k->AB.length+AC.length<=3000000 ->
 nH (AB++AC) b k AB.length=some (if cT b AB.getLast? AC=true then .inl () else .inr false):=by
 induction AC with
 | nil=>
  intro AB k hk _;obtain _ | k:=k
  ·omega
  rw [nH,a2c (by simp)];simp [cT]
 | cons e AC ih=>
  intro AB k hk hB;obtain _ | k:=k
  ·omega
  simp only [a0S]at hk hB;rw [nH,a2d (aV _ _ _),aX,bsm];have hn:=ih (AB++[e]) k (by omega) (by simp;omega)
  rw [List.getLast?_append,List.getLast?_singleton,Option.some_or]at hn;by_cases c1:e<0
  ·rw [a2d c1,a2c (by simp only [cT,a0k,a2b];omega)];rfl
  rw [a2c c1];by_cases c2:b<=e
  ·rw [a2d c2,a2c (by simp only [cT,a0k,a2b];omega)];rfl
  rw [a2c c2];rcases aIA AB with rfl | ⟨p,q,rfl⟩
  ·rw [a2c (by simp),bsm];dsimp only
   rw [aM (by simp),bsm,bA,aU,hn];have:cT b (([]:List Int).getLast?) (e :: AC)=cT b (some e) AC:=by
    simp only [List.getLast?_nil,cT,Bool.and_true];rw [a2a (by omega),a0p]
   rw [this]
  ·rw [a2d (by simp),aM (by simp at hB ⊢;omega),bsm];have hi:idx (p++[q]++e :: AC) (((p++[q]).length:Int) - 1)=some q:=by
    rw [show(((p++[q]).length:Int) - 1)=(p.length:Int)from by simp,a0u];exact aX _ _ _
   rw [hi,bsm];by_cases c3:e<=q
   ·rw [a2d c3,a2c (by simp [cT];omega)];rfl
   ·rw [a2c c3,bsm];dsimp only
    rw [aM (by omega),bsm,bA,aU,hn];have:cT b ((p++[q]).getLast?) (e :: AC)=cT b (some e) AC:=by
     simp only [List.getLast?_append,List.getLast?_singleton,Option.some_or,cT];rw [a2a (by omega),a2a (by omega),a0p,a0p]
    rw [this]
theorem aHd {AA:Nat} {l:List Int} {b:Int} (hf:l.length<AA) (hB:l.length<=3000000):rI AA l b=some (cT b none l):=by
 have h:=aKk (b:=b) l [] AA hf (by simp;omega)
 simp only [a1n,a0W,a0q]at h
 rw [rI,h,bsm]
 by_cases hr:cT b none l=true
 ·rw [a2d (show cT b ([]:List Int).getLast? l=true from hr)];show some true=_
  rw [hr]
 ·rw [a2c (show ¬ cT b ([]:List Int).getLast? l=true from hr)];show some false=_
  rw [Bool.eq_false_iff.2 hr]
theorem aH5 {l:List Int} (AC:List Int):∀ (AB acc:List Int) (k:Nat),AC.length<k->AB.length+AC.length<=3000000->acc.length+AC.length<=1000000000->(∀ i∈AC,0<=i/\i<(l.length:Int)) ->
 oF l (AB++AC) k acc AB.length=some (acc++pick l AC):=by
 induction AC with
 | nil=>
  intro AB acc k hk _ _ _;obtain _ | k:=k
  ·omega
  rw [oF,a2c (by simp)];simp [pick]
 | cons e AC ih=>
  intro AB acc k hk hB hA hi;obtain _ | k:=k
  ·omega
  simp only [a0S]at hk hB hA;obtain⟨y,hy⟩:=gK (hi e (.head _)).1 (hi e (.head _)).2;rw [oF,a2d (aV _ _ _),aX,bsm,hy,bsm,cX (by simp;omega),bsm,aM (by omega),bsm,bA,aU,ih (AB++[e]) _ k (by omega) (by simp;omega) (by simp;omega) (fun i h=>hi i (.tail _ h))];simp [pick,hy]
theorem pick_p {AA:Nat} {l a:List Int} (hf:a.length<AA) (hB:a.length<=3000000) (hi:∀ i∈a,0<=i/\i<(l.length:Int)):uK AA l a=some (pick l a):=by
 have h:=aH5 (l:=l) a [] [] AA hf (by simp;omega) (by simp;omega) hi
 simp only [a1n,a0W,a0q]at h
 rw [uK,h,bsm]
theorem aAB {l a:List Int}:(pick l a).length=a.length:=by simp [pick]
theorem aFO (n:Int) (i:Nat):upto n (i+1)=upto n i++[n+(i:Int)]:=by simp [upto,List.range_succ]
theorem gE {n:Int} {k:Nat}:(upto n k).length=k:=by simp [upto]
theorem aGb {n:Int} {m:Nat} (hn:0<=n/\n<=1000000000) (hm:m<=500000000):∀ (j i k:Nat),i+j=m->j<k->lN n m k (upto n i) i=some (upto n m)
 | 0,i,k+1,h,_=>by
  rw [lN,a2c (by omega),show i=m from by omega]
 | j+1,i,k+1,h,hk=>by
  rw [lN,a2d (by omega),aM (by omega),bsm,cX (by simp [gE];omega),bsm,aM (by omega),bsm,<- aFO,show(i:Int)+1=((i+1:Nat):Int)from by omega];exact aGb hn hm j (i+1) k (by omega) (by omega)
theorem aBj {AA:Nat} {n m:Int} (hn:0<=n/\n<=1000000000) (h0:0<=m) (hm:m<=500000000) (hf:m<AA):pP AA n m=some (upto n m.toNat):=by
 obtain⟨m,rfl⟩:=Int.eq_ofNat_of_zero_le h0
 have h:=aGb (m:=m) hn (by omega) m 0 AA (by omega) (by omega)
 rw [a0r]
 rw [pP,show lN n m AA [] 0=_ from h,bsm]
theorem tN {a b:List Int} (h:a.length+b.length<=1000000000):lL a b=some (a++b):=by
 rw [lL,fC,a1n,cX (by omega),bsm,bsm,cX (by simp;omega),bsm]
theorem aCo (op:Int):pF op=some (cS op):=by
 rw [pF]
 by_cases a:op=4
 ·rw [a2d a,bsm,cS,a2a (by omega)]
 by_cases b:op=6
 ·rw [a2c a,a2d b,bsm,cS,a2a (by omega)]
 by_cases c:op=7
 ·rw [a2c a,a2c b,a2d c,bsm,cS,a2a (by omega)]
 ·rw [a2c a,a2c b,a2c c,bsm,cS];congr 1;rw [decide_eq_decide];omega
theorem aKz {rec:AT->List Int->Option (AT × Bool)} {op n:Int} {l:List Int} {x:Int} (AC:List AT):∀ (AB acc:List AT) (k:Nat),AC.length<k->AB.length+AC.length<=3000000->acc.length+AC.length<=1000000000 ->
 (∀ e∈AC,∃ e' b,rec e l=some (e',b)/\opE l e=if b=true then some e' else none) ->
  ∃ r,lE rec ⟨op,n,AB++AC⟩ l x k AB.length acc=some r/\match opL l AC with | some ks=>r= .inl (acc++ks) | none=>∃ e',r= .inr (e',false):=by
 induction AC with
 | nil=>
  intro AB acc k hk _ _ _;obtain _ | k:=k
  ·omega
  exact⟨_,by rw [lE,a2c (by simp)],by simp [opL]⟩
 | cons e AC ih=>
  intro AB acc k hk hB hA hr;obtain _ | k:=k
  ·omega
  simp only [a0S]at hk hB hA;obtain⟨e',b,h1,h2⟩:=hr e (.head _);rw [lE,a2d (aV _ _ _),aX,bsm,jU,h1,bsm];cases b with
  | true=>
   rw [a2d rfl]at h2;simp only [a1Y,jU];rw [cX (by simp;omega),bsm,aM (by omega),bsm,bA,aU];obtain⟨r,g1,g2⟩:=ih (AB++[e]) (acc++[e']) k (by omega) (by simp;omega) (by simp;omega) (fun x hx=>hr x (.tail _ hx))
   refine⟨r,g1,?_⟩;rw [opL,h2,bsm];cases ho:opL l AC with
   | none=>rw [ho]at g2;exact g2
   | some ks=>rw [ho]at g2;rw [bsm];dsimp only at g2 ⊢;rw [g2];simp
  | false=>
   rw [a2c (by simp)]at h2;simp only [a1X];refine⟨_,rfl,?_⟩;rw [opL,h2];exact⟨_,rfl⟩
theorem exp_p (AA:Nat):∀ (e:AT) (l:List Int),nE e<AA->nE e<=2000000->∃ e' b,jY AA e l=some (e',b)/\opE l e=if b=true then some e' else none:=by
 induction AA with
 | zero=>intro e l h;omega
 | succ AA ih=>
  intro ⟨op,n,ks⟩ l hf hB
  simp only [nE]at hf hB;have hlen:=qF ks;have hloop:=fun x=>aKz (rec:=jY AA) (op:=op) (n:=n) (l:=l) (x:=x) ks [] [] AA (by omega) (by simp;omega) (by simp;omega) (fun e he=>ih e l (by have:=gV he;omega) (by have:=gV he;omega))
  simp only [a1n,a0W,a0q]at hloop;have fin:∀ x,(if op=2 then idx l n else some n)=some x->∃ e' b,((lE (jY AA) ⟨op,n,ks⟩ l x AA 0 []).bind fun o=>match o with
   | Sum.inr r=>some r
   | Sum.inl x2=>some ((⟨op,x,x2⟩:AT),true))=some (e',b)/\opE l ⟨op,n,ks⟩=if b=true then some e' else none:=fun x hx=>by
   obtain⟨r,g1,g2⟩:=hloop x;rw [g1,bsm,opE,hx,bsm];cases ho:opL l ks with
   | none=>rw [ho]at g2;obtain⟨e',rfl⟩:=g2;exact⟨e',false,rfl,rfl⟩
   | some a=>rw [ho]at g2;dsimp only at g2;subst g2;exact⟨_,true,rfl,rfl⟩
  rw [jY];dsimp only
  by_cases o2:op=2
  ·rw [a2d o2];by_cases c1:n<0
   ·rw [a2d c1];refine⟨_,false,rfl,?_⟩;rw [opE,a2d o2,show idx l n=none from by unfold idx;rw [a2c (by omega)]];rfl
   ·rw [a2c c1];by_cases c2:(l.length:Int)<=n
    ·rw [a2d c2];refine⟨_,false,rfl,?_⟩;have:idx l n=none:=by
      cases hi:idx l n with
      | none=>rfl
      | some y=>have:=wI hi;omega
     rw [opE,a2d o2,this];rfl
    ·rw [a2c c2];obtain⟨y,hy⟩:=gK (xs:=l) (i:=n) (by omega) (by omega)
     rw [hy,bsm,bsm];exact fin y (by rw [a2d o2,hy])
  ·rw [a2c o2,bsm];exact fin n (by rw [a2c o2])
theorem aFH {ch:List An}:∀ {js:List Int} {k:Int},gS ch js=some k->0<=k/\k<=3*js.length
 | [],k,h=>by cases h;simp
 | c :: js,k,h=>by
  rw [gS]at h;obtain⟨y,_,h⟩:=bind_some h;split at h
  ·rename_i hy;obtain⟨k',h1,h⟩:=bind_some h;cases h;have:=aFH h1;simp only [a0S];omega
  ·cases h
theorem aKl {d:AN} {a nd:Int} (AC:List Int):∀ (AB:List Int) (k:Nat) (w:Int),AC.length<k->AB.length+AC.length<=3000000->0<=w->w+3*AC.length<=1000000000 ->
 kH d ⟨a,AB++AC,nd⟩ k w AB.length=some (match gS d.AQ AC with | some m=> .inl (w+m) | none=> .inr (-1)):=by
 induction AC with
 | nil=>
  intro AB k w hk _ _ _;obtain _ | k:=k
  ·omega
  rw [kH,a2c (by simp)];simp [gS]
 | cons e AC ih=>
  intro AB k w hk hB h0 hw;obtain _ | k:=k
  ·omega
  simp only [a0S]at hk hB hw;rw [kH,a2d (aV _ _ _)];dsimp only
  rw [aX,bsm,gS];by_cases c1:e<0
  ·rw [a2d c1,show idx d.AQ e=none from by unfold idx;rw [a2c (by omega)]];rfl
  rw [a2c c1];by_cases c2:(d.AQ.length:Int)<=e
  ·have:idx d.AQ e=none:=by
    cases hi:idx d.AQ e with
    | none=>rfl
    | some y=>have:=wI hi;omega
   rw [a2d c2,this];rfl
  rw [a2c c2];obtain⟨y,hy⟩:=gK (xs:=d.AQ) (i:=e) (by omega) (by omega)
  simp only [hy,bsm];by_cases c3:y.Ap<0
  ·rw [a2d c3,a2c (by omega)]
  rw [a2c c3];by_cases c4:3<y.Ap
  ·rw [a2d c4,a2c (by omega)]
  rw [a2c c4,a2d (by omega),aM (by omega),bsm,aM (by omega),bsm,bA,aU,ih (AB++[e]) k _ (by omega) (by simp;omega) (by omega) (by omega)];cases gS d.AQ AC with
  | none=>rfl
  | some m=>rw [bsm];dsimp only;rw [Int.add_assoc]
theorem aDU {AA:Nat} {d:AN} {r:Ai} (hf:r.Ab.length<AA) (hB:r.Ab.length<=2000000):mM AA d r=some (match gS d.AQ r.Ab with | some m=>m | none=>-1):=by
 have h:=aKl (d:=d) (a:=r.At) (nd:=r.AU) r.Ab [] AA 0 hf (by simp;omega) (by omega) (by omega)
 simp only [a1n,a0W,a0q]at h
 rw [mM,h,bsm]
 cases gS d.AQ r.Ab with
 | none=>rfl
 | some m=>dsimp only;rw [Int.zero_add]
theorem bring_r {AA:Nat} {d:AN} {r:Ai} (hf:r.Ab.length<AA) (hB:r.Ab.length<=2000000):aB3 AA d r=some (if r.Ab.length<=3 then match gS d.AQ r.Ab with | some m=>m | none=>-1 else -1):=by
 have hl:∀ (k:Nat) (x i:Int),aAG d r k x i=kH d r k x i:=fun k=>by
  induction k with
  | zero=>intro x i;rfl
  | succ k ih=>
   intro x i;rw [aAG,kH];simp only [ih]
 rw [aB3]
 by_cases c:3<(r.Ab.length:Int)
 ·rw [a2d c,a2c (by omega)]
 ·rw [a2c c,a2d (by omega),<- aDU hf hB,mM,hl];rfl
theorem aKo {d:AN} (AC:List Ai):∀ (AB:List Ai) (k:Nat),d.AP=AB++AC->AC.length<k->AB.length+AC.length<=3000000->(∀ r∈AC,r.Ab.length<=2000000)->mT d k AB.length AB=some (AB++AC):=by
 induction AC with
 | nil=>
  intro AB k hd hk _ _;obtain _ | k:=k
  ·omega
  rw [mT,hd,a2c (by simp)];simp
 | cons e AC ih=>
  intro AB k hd hk hB hr;obtain _ | k:=k
  ·omega
  simp only [a0S]at hk hB;have:=hr e (.head _);rw [mT,hd,a2d (aV _ _ _),aX,bsm,fC,a1n,cX (by omega),bsm,bsm,show(⟨e.At,e.Ab,e.AU⟩:Ai)=e from rfl,cX (by simp;omega),bsm,aM (by omega),bsm,aU,ih (AB++[e]) k (by rw [hd,bA]) (by omega) (by simp;omega) (fun x hx=>hr x (.tail _ hx)),<- bA]
theorem aKW {AA:Nat} {ds:List AN} (AC:List AN):∀ (AB:List AN) (k:Nat),ds=AB++AC->AC.length<k->AB.length+AC.length<=3000000->(∀ d∈AC,smD d)->2000000<AA->nI AA ds k AB AB.length=some (AB++AC):=by
 induction AC with
 | nil=>
  intro AB k hd hk _ _ _;obtain _ | k:=k
  ·omega
  rw [nI,hd,a2c (by simp)];simp
 | cons e AC ih=>
  intro AB k hd hk hB hr hf;obtain _ | k:=k
  ·omega
  simp only [a0S]at hk hB;have hs:=hr e (.head _);obtain⟨s1,s2,s3,s4⟩:=hs;have h2:=aKo (d:=e) e.AP [] AA rfl (by omega) (by simp;omega) s4
  simp only [a1n,a0W,a0q]at h2;rw [nI,hd,a2d (aV _ _ _),aX,bsm,aAq,a1n,cX (by omega),bsm,bsm,aAl,a1n,cX (by omega),bsm,bsm,h2,bsm,show(⟨e.AQ,e.AS,e.AP⟩:AN)=e from rfl,cX (by simp;omega),bsm,bsm,aM (by omega),bsm,<- hd,aU,ih (AB++[e]) k (by rw [hd,bA]) (by omega) (by simp;omega) (fun x hx=>hr x (.tail _ hx)) hf,<- bA,hd]
theorem aEe {AA:Nat} {ds:List AN} (hf:2000000<AA) (hB:ds.length<=2000000) (hs:∀ d∈ds,smD d):tT AA ds=some ds:=by
 have h:=aKW (AA:=AA) (ds:=ds) ds [] AA rfl (by omega) (by simp;omega) hs hf
 simp only [a1n,a0W,a0q]at h
 rw [tT,h,bsm]
open Go.SX Go.SW Go.Dt
def unF (s:FS):Nat:=s.AX.countP (fun b=>!b)
structure WF (f:AE) (s:FS):Prop where
 AX:s.AX.length=f.AD.length
 Aa:s.Aa.length=f.AD.length
 AZ:s.AZ.length=f.AD.length
 nd:s.nd.length=f.AD.length
theorem WF.put {f:AE} {s:FS} {n:Int} {l t:List Int} {z:AV} (h:WF f s):WF f (s.put n l t z):=⟨by simp [FS.put,h.AX],by simp [FS.put,h.Aa],by simp [FS.put,h.AZ],by simp [FS.put,h.nd]⟩
theorem pW {x:Bool} {f:AE} {k:Nat} {s s':FS} {n:Int} {l:List Int} {z:Int} (h:cG x f k s n l z=some s') (w:WF f s):WF f s':=tJ (R:=WF f) (fun _ _ _ _ _ _ _ _ h=>h.put) k s n l z s' h w
theorem countP_set {l:List Bool}:∀ {i:Nat},l[i]? =some false->(l.set i true).countP (fun b=>!b)+1=l.countP (fun b=>!b):=by
 induction l with
 | nil=>intro i h;simp at h
 | cons b l ih=>
  intro i h;cases i with
  | zero=>simp at h;subst h;simp
  | succ i=>
   have:=ih (i:=i) (by simpa using h)
   simp only [List.set_cons_succ,List.countP_cons];omega
theorem aGu {s:FS} {n:Int} {l t:List Int} {z:AV} (h:idx s.AX n=some false):unF (s.put n l t z)+1=unF s:=by
 obtain⟨j,rfl,hj,_⟩:=oB h
 simp only [unF,FS.put,a0r]
 exact countP_set hj
theorem unF_pos {s:FS} {n:Int} (h:idx s.AX n=some false):0<unF s:=a0x.2 ⟨false,eC h,rfl⟩
theorem tB {g:FS->Int->List Int->Int->Option FS} (H:∀ s n l z s',g s n l z=some s'->unF s'<=unF s):∀ (ts:List (Option (Int × List Int × Int))) (s s':FS),dX g s ts=some s'->unF s'<=unF s
 | [],s,s',e=>by cases e;exact a1G _
 | none :: ts,s,s',e=>by cases e
 | some t :: ts,s,s',e=>by
  obtain⟨s1,e1,e2⟩:=bind_some e;exact a1H (tB H ts s1 s' e2) (H _ _ _ _ _ e1)
theorem zZ {x:Bool} {f:AE}:∀ (k:Nat) (s:FS) (n:Int) (l:List Int) (z:Int) (s':FS),cG x f k s n l z=some s'->unF s'+1<=unF s
 | 0,_,_,_,_,_,h=>by cases h
 | k+1,s,n,l,z,s',h=>by
  have ih:∀ s n l z s',cG x f k s n l z=some s'->unF s'<=unF s:=fun s n l z s' h=>by have:=zZ k s n l z s' h;omega
  rw [cG]at h;split at h
  ·rename_i hc;obtain⟨y,ey,h⟩:=bind_some h;split at h
   ·obtain⟨w,ew,h⟩:=bind_some h;have h1:=aGu (l:=l) (t:=pick l y.AM) (z:=w) hc.2.2;unfold iY at h;split at h
    ·obtain⟨d,ed,h⟩:=bind_some h;split at h
     ·obtain⟨s1,e1,h⟩:=bind_some h;obtain⟨s2,e2,h⟩:=bind_some h;have:=tB ih _ _ _ h;have:=tB ih _ _ _ e2;have:=tB ih _ _ _ e1;omega
     ·cases h
    ·have:=tB ih _ _ _ h;omega
   ·cases h
  ·cases h
def cvP (f:AE) (s:FS):Af:=⟨f,s.Aa,s.AZ,s.AX,⟨f.AH,s.nd,f.AF,f.AG⟩⟩
abbrev TupP:=List ByteArray × List Int × List Ah × List AN × Int × List (List Int) × List (List Int) × List Bool × List ByteArray × List AV × List AN × Int
def tupP (f:AE) (s:FS):TupP:=(f.AH,f.AM,f.AD,f.AF,f.AG,s.Aa,s.AZ,s.AX,f.AH,s.nd,f.AF,f.AG)
def OutP (f:AE) (o:Option FS) (r:TupP ⊕ (Af × Bool)):Prop:=match o with
 | some s'=>r= .inl (tupP f s')
 | none=>∃ s',r= .inr (cvP f s',false)
def ResP (f:AE) (o:Option FS) (r:Af × Bool):Prop:=match o with
 | some s'=>r=(cvP f s',true)
 | none=>∃ s',r=(cvP f s',false)
structure PV (f:AE) (k:Nat) (rec:Af->Int->List Int->Int->Option (Af × Bool)):Prop where
 run:∀ (s:FS) (n:Int) (l:List Int) (z:Int),WF f s->unF s<=k->(l.length:Int)<=z->z+6000100*k<=400000000->∃ r,rec (cvP f s) n l z=some r/\ResP f (cG false f k s n l z) r
section
variable {f:AE} {k:Nat} {rec:Af->Int->List Int->Int->Option (Af × Bool)}
theorem kidsP (hv:PV f k rec) {l:List Int} {z:Int} (hl:(l.length:Int)<=z) (hz:z+6000100*k<=400000000) (AC:List Int):∀ (AB:List Int) (K:Nat) (s:FS),AC.length<K->AB.length+AC.length<=3000000->WF f s->unF s<=k ->
 ∃ r,mH rec (AB++AC) l z K AB.length f.AH f.AM f.AD f.AF f.AG s.Aa s.AZ s.AX f.AH s.nd f.AF f.AG=some r/\OutP f (dX (cG false f k) s (AC.map fun c=>some (c,l,z))) r:=by
 induction AC with
 | nil=>
  intro AB K s hk _ hs hu;obtain _ | K:=K
  ·omega
  exact⟨.inl (tupP f s),by rw [mH,a2c (by simp)];rfl,rfl⟩
 | cons e AC ih=>
  intro AB K s hk hB hs hu;obtain _ | K:=K
  ·omega
  simp only [a0S]at hk hB;obtain⟨r,h1,h2⟩:=hv.run s e l z hs hu hl hz;rw [mH,a2d (aV _ _ _),aX,bsm,show rec (⟨(⟨f.AH,f.AM,f.AD,f.AF,f.AG⟩:AE),s.Aa,s.AZ,s.AX,(⟨f.AH,s.nd,f.AF,f.AG⟩:AI)⟩:Af) e l z=_ from h1,bsm,a1a,dX];dsimp only
  cases hq:cG false f k s e l z with
  | none=>rw [hq]at h2;obtain⟨s',rfl⟩:=h2;exact⟨_,rfl,s',rfl⟩
  | some s1=>
   rw [hq]at h2;have h2:r=(cvP f s1,true):=h2;subst h2;have:=zZ k _ _ _ _ _ hq;obtain⟨r,g1,g2⟩:=ih (AB++[e]) K s1 (by omega) (by simp;omega) (pW hq hs) (by omega)
   refine⟨r,?_,by rw [bsm];exact g2⟩
   rw [a1Y,aM (by omega),bsm,bA,aU];exact g1
theorem spotsP (hv:PV f k rec) {d:AN} {l:List Int} {z:Int} (hl:(l.length:Int)<=z) (hz:z+6000100*k<=400000000) (AC:List Am):∀ (AB:List Am) (K:Nat) (s:FS),d.AS=AB++AC->AC.length<K->AB.length+AC.length<=3000000->WF f s->unF s<=k ->
 ∃ r,lY rec d z l K AB.length f.AH f.AM f.AD f.AF f.AG s.Aa s.AZ s.AX f.AH s.nd f.AF f.AG=some r/\OutP f (dX (cG false f k) s (AC.map fun c=>some (c.AU,l,z))) r:=by
 induction AC with
 | nil=>
  intro AB K s hd hk _ hs hu;obtain _ | K:=K
  ·omega
  exact⟨.inl (tupP f s),by rw [lY,hd,a2c (by simp)];rfl,rfl⟩
 | cons e AC ih=>
  intro AB K s hd hk hB hs hu;obtain _ | K:=K
  ·omega
  simp only [a0S]at hk hB;obtain⟨r,h1,h2⟩:=hv.run s e.AU l z hs hu hl hz;rw [lY,hd,a2d (aV _ _ _),aX,bsm,show rec (⟨(⟨f.AH,f.AM,f.AD,f.AF,f.AG⟩:AE),s.Aa,s.AZ,s.AX,(⟨f.AH,s.nd,f.AF,f.AG⟩:AI)⟩:Af) e.AU l z=_ from h1,bsm,a1a,dX];dsimp only
  cases hq:cG false f k s e.AU l z with
  | none=>rw [hq]at h2;obtain⟨s',rfl⟩:=h2;exact⟨_,rfl,s',rfl⟩
  | some s1=>
   rw [hq]at h2;have h2:r=(cvP f s1,true):=h2;subst h2;have:=zZ k _ _ _ _ _ hq;obtain⟨r,g1,g2⟩:=ih (AB++[e]) K s1 (by rw [hd,bA]) (by omega) (by simp;omega) (pW hq hs) (by omega)
   refine⟨r,?_,by rw [bsm];exact g2⟩
   rw [a1Y,aM (by omega),bsm,aU];exact g1
theorem aDg (d:AN) (ins:List Int) (z:Int) (r:Ai):qL false d ins z r=(gS d.AQ r.Ab).bind fun k=>some (r.AU,ins++upto z k.toNat,z+k):=by
 unfold qL;rw [a2d (by intro h;cases h)]
theorem rulesP (hv:PV f k rec) {AA:Nat} (hf:10000000<AA) {d:AN} {l:List Int} {z:Int} (hl:(l.length:Int)<=z) (hz:z+6000000+6000100*k<=400000000) (AC:List Ai):∀ (AB:List Ai) (K:Nat) (s:FS),d.AP=AB++AC->AC.length<K->AB.length+AC.length<=3000000->(∀ r∈AC,r.Ab.length<=2000000)->WF f s->unF s<=k ->
 ∃ r,mC AA rec d z l K AB.length f.AH f.AM f.AD f.AF f.AG s.Aa s.AZ s.AX f.AH s.nd f.AF f.AG=some r/\OutP f (dX (cG false f k) s (AC.map (qL false d l z))) r:=by
 induction AC with
 | nil=>
  intro AB K s hd hk _ _ hs hu;obtain _ | K:=K
  ·omega
  exact⟨.inl (tupP f s),by rw [mC,hd,a2c (by simp)];rfl,rfl⟩
 | cons e AC ih=>
  intro AB K s hd hk hB hj hs hu;obtain _ | K:=K
  ·omega
  simp only [a0S]at hk hB;have hje:=hj e (.head _);rw [mC,a2d (by rw [hd];exact aV _ _ _),show idx d.AP (AB.length:Int)=some e from by rw [hd];exact aX _ _ _,bsm,show mM AA (⟨d.AQ,d.AS,d.AP⟩:AN) (⟨e.At,e.Ab,e.AU⟩:Ai)=_ from aDU (d:=d) (r:=e) (by omega) hje,bsm,a1a];cases hm:gS d.AQ e.Ab with
  | none=>
   rw [show qL false d l z e=none from by rw [aDg,hm];rfl];exact⟨_,rfl,s,rfl⟩
  | some m=>
   have hml:=aFH hm;rw [show qL false d l z e=some (e.AU,l++upto z m.toNat,z+m)from by rw [aDg,hm,bsm]];obtain⟨r,h1,h2⟩:=hv.run s e.AU (l++upto z m.toNat) (z+m) hs hu (by rw [a0R,gE];omega) (by omega)
   dsimp only
   rw [a2c (by omega),aBj (by omega) hml.1 (by omega) (by omega),bsm,tN (by rw [gE];omega),bsm,aM (by omega),bsm,show rec (⟨(⟨f.AH,f.AM,f.AD,f.AF,f.AG⟩:AE),s.Aa,s.AZ,s.AX,(⟨f.AH,s.nd,f.AF,f.AG⟩:AI)⟩:Af) e.AU (l++upto z m.toNat) (z+m)=_ from h1,bsm,dX];dsimp only
   cases hq:cG false f k s e.AU (l++upto z m.toNat) (z+m)with
   | none=>rw [hq]at h2;obtain⟨s',rfl⟩:=h2;exact⟨_,rfl,s',rfl⟩
   | some s1=>
    rw [hq]at h2;have h2:r=(cvP f s1,true):=h2;subst h2;have:=zZ k _ _ _ _ _ hq;obtain⟨r,g1,g2⟩:=ih (AB++[e]) K s1 (by rw [hd,bA]) (by omega) (by simp;omega) (fun r hr=>hj r (.tail _ hr)) (pW hq hs) (by omega)
    refine⟨r,?_,by rw [bsm];exact g2⟩
    rw [a1Y,aM (by omega),bsm,aU];exact g1
end
theorem aGD {f:AE} {k AA:Nat} (hv:PV f k (dQ AA)) (hf:10000000<AA) {l:List Int} {z:Int} (hl:(l.length:Int)<=z) (hz:z+6000100*k<=400000000) {ks:List Int} (hk:ks.length<=2000000) {s:FS} (hs:WF f s) (hu:unF s<=k):
 ∃ r,kX (AA+1) (cvP f s) ks l z=some r/\ResP f (dX (cG false f k) s (ks.map fun c=>some (c,l,z))) r:=by
 obtain⟨r,g1,g2⟩:=kidsP hv hl hz ks [] AA s (by omega) (by simp;omega) hs hu
 rw [kX,show mH (dQ AA) ks l z AA 0 (cvP f s).AE.AH (cvP f s).AE.AM (cvP f s).AE.AD (cvP f s).AE.AF (cvP f s).AE.AG (cvP f s).Aa (cvP f s).AZ (cvP f s).AX (cvP f s).AK.AH (cvP f s).AK.AD (cvP f s).AK.AF (cvP f s).AK.AG=_ from g1,bsm]
 cases hq:dX (cG false f k) s (ks.map fun c=>some (c,l,z))with
 | none=>rw [hq]at g2;obtain⟨s',rfl⟩:=g2;exact⟨_,rfl,s',rfl⟩
 | some s'=>rw [hq]at g2;have g2:r= .inl (tupP f s'):=g2;subst g2;exact⟨_,rfl,rfl⟩
open Go.SX Go.SW Go.Dt
theorem visF_k {x:Bool} {f:AE} {k:Nat} {ts:List (Option (Int × List Int × Int))} {s s':FS} (h:dX (cG x f k) s ts=some s') (w:WF f s) (u:unF s<=k):WF f s'/\unF s'<=k:=
 ⟨uR (R:=WF f) (fun _ _ _ _ _ h w=>pW h w) ts s s' h w,a1H (tB (fun s n l z s' h=>by have:=zZ k s n l z s' h;omega) ts s s' h) u⟩
theorem defP_S {f:AE} {k AA:Nat} (hm:SmF f) (hD:∀ d∈f.AF,d.AQ.length<=30/\d.AS.length<=30) (hv1:PV f k (dQ (AA+1))) (hv0:PV f k (dQ AA)) (hf:10000000<AA) {s:FS} {n:Int} {l tk:List Int} {z:Int} {y:Ah}
 (hl:(l.length:Int)<=z) (ht:(tk.length:Int)<=z) (hz:z+6000100*(k+1)<=400000000) (hy:idx f.AD n=some y) (h4:y.Op=4) (htk:idx s.AZ n=some tk) (hs:WF f s) (hu:unF s<=k):
 ∃ r,qJ (AA+2) (cvP f s) n l z=some r/\ResP f (iY false f (cG false f k) s y l tk z) r:=by
 rw [qJ,show idx (cvP f s).AE.AD n=some y from hy,bsm]
 unfold iY
 rw [a2d h4]
 by_cases c1:y.N<0
 ·rw [a2d c1,show idx f.AF y.N=none from by unfold idx;rw [a2c (by omega)]];exact⟨_,rfl,s,rfl⟩
 rw [a2c c1]
 by_cases c2:(f.AF.length:Int)<=y.N
 ·have:idx f.AF y.N=none:=by
   cases hi:idx f.AF y.N with
   | none=>rfl
   | some y=>have:=wI hi;omega
  rw [a2d (show((cvP f s).AE.AF.length:Int)<=y.N from c2),this];exact⟨_,rfl,s,rfl⟩
 obtain⟨d,hd⟩:=gK (xs:=f.AF) (i:=y.N) (by omega) (by omega)
 obtain⟨d1,d2⟩:=hD d (eC hd)
 obtain⟨m1,m2,m3,m4⟩:=hm.AY d (eC hd)
 have ho:dI d<=60:=by unfold dI;omega
 have hy2:=(hm.args y (eC hy)).2.1
 rw [a2c (show ¬ ((cvP f s).AE.AF.length:Int)<=y.N from c2),show idx (cvP f s).AE.AF y.N=some d from hd,bsm,show chk ((d.AQ.length:Int)+(d.AS.length:Int))=some (dI d:Int)from by rw [aM (by omega)];simp [dI],bsm,
  aBj (by omega) (by omega) (by omega) (by omega),bsm,a0r,gE,aM (by omega),bsm,show idx (cvP f s).AZ n=some tk from htk,bsm,tN (by rw [gE];omega),bsm,hd,bsm,a2d (by intro h;cases h)]
 obtain⟨r1,g1,g2⟩:=rulesP hv1 (AA:=AA+1) (by omega) (d:=d) (l:=tk++upto z (dI d)) (z:=z+dI d) (by rw [a0R,gE];omega) (by omega) d.AP [] (AA+1) s rfl (by omega) (by simp;omega) m4 hs hu
 rw [show mC (AA+1) (dQ (AA+1)) d (z+dI d) (tk++upto z (dI d)) (AA+1) 0 (cvP f s).AE.AH (cvP f s).AE.AM (cvP f s).AE.AD (cvP f s).AE.AF (cvP f s).AE.AG (cvP f s).Aa (cvP f s).AZ (cvP f s).AX (cvP f s).AK.AH (cvP f s).AK.AD (cvP f s).AK.AF (cvP f s).AK.AG=_ from g1,bsm]
 cases hq:dX (cG false f k) s (d.AP.map (qL false d (tk++upto z (dI d)) (z+dI d)))with
 | none=>rw [hq]at g2;obtain⟨s',rfl⟩:=g2;exact⟨_,rfl,s',rfl⟩
 | some s1=>
  rw [hq]at g2;have g2:r1= .inl (tupP f s1):=g2;subst g2;obtain⟨w1,u1⟩:=visF_k hq hs hu;rw [bsm];dsimp only [tupP];obtain⟨r2,q1,q2⟩:=spotsP hv1 (d:=d) (l:=tk++upto z (dI d)) (z:=z+dI d) (by rw [a0R,gE];omega) (by omega) d.AS [] (AA+1) s1 rfl (by omega) (by simp;omega) w1 u1
  rw [show lY (dQ (AA+1)) d (z+dI d) (tk++upto z (dI d)) (AA+1) 0 f.AH f.AM f.AD f.AF f.AG s1.Aa s1.AZ s1.AX f.AH s1.nd f.AF f.AG=_ from q1,bsm];cases hq2:dX (cG false f k) s1 (d.AS.map fun p=>some (p.AU,tk++upto z (dI d),z+dI d))with
  | none=>rw [hq2]at q2;obtain⟨s',rfl⟩:=q2;exact⟨_,rfl,s',rfl⟩
  | some s2=>
   rw [hq2]at q2;have q2:r2= .inl (tupP f s2):=q2;subst q2;obtain⟨w2,u2⟩:=visF_k hq2 w1 u1;rw [bsm];dsimp only [tupP];obtain⟨r3,p1,p2⟩:=aGD hv0 hf (l:=l++upto z (dI d)) (z:=z+dI d) (by rw [a0R,gE];omega) (by omega) hy2 w2 u2
   rw [tN (by rw [gE];omega),bsm,show kX (AA+1) (⟨(⟨f.AH,f.AM,f.AD,f.AF,f.AG⟩:AE),s2.Aa,s2.AZ,s2.AX,(⟨f.AH,s2.nd,f.AF,f.AG⟩:AI)⟩:Af) y.AO (l++upto z (dI d)) (z+dI d)=_ from p1,bsm];exact⟨_,rfl,p2⟩
theorem argsP {f:AE} {AA:Nat} (hf:10000000<AA) {s:FS} {n:Int} {l tk:List Int} {y:Ah} (AC:List AT):∀ (AB acc:List AT) (K:Nat),y.AW=AB++AC->AC.length<K->AB.length+AC.length<=3000000->acc.length+AC.length<=3000000->(∀ e∈AC,nE e<=2000000) ->
 ∃ r,lD AA (cvP f s) n l y tk K AB.length acc=some r/\match opL l AC with | some a=>r= .inl (acc++a) | none=>∃ s',r= .inr (cvP f s',false):=by
 induction AC with
 | nil=>
  intro AB acc K hd hk _ _ _;obtain _ | K:=K
  ·omega
  exact⟨_,by rw [lD,hd,a2c (by simp)],by simp [opL]⟩
 | cons e AC ih=>
  intro AB acc K hd hk hB hA he;obtain _ | K:=K
  ·omega
  simp only [a0S]at hk hB hA;obtain⟨e',b,h1,h2⟩:=exp_p AA e l (by have:=he e (.head _);omega) (he e (.head _))
  rw [lD,a2d (by rw [hd];exact aV _ _ _),show idx y.AW (AB.length:Int)=some e from by rw [hd];exact aX _ _ _,bsm,jU,h1,bsm];cases b with
  | false=>
   rw [a2c (by simp)]at h2;refine⟨_,rfl,?_⟩;rw [opL,h2];exact⟨⟨s.AX.set n.toNat true,s.Aa.set n.toNat l,s.AZ.set n.toNat tk,s.nd⟩,rfl⟩
  | true=>
   rw [a2d rfl]at h2;obtain⟨r,g1,g2⟩:=ih (AB++[e]) (acc++[e']) K (by rw [hd,bA]) (by omega) (by simp;omega) (by simp;omega) (fun x hx=>he x (.tail _ hx))
   refine⟨r,?_,?_⟩
   ·rw [a1Y,jU,cX (by simp;omega),bsm,aM (by omega),bsm,aU];exact g1
   ·rw [opL,h2,bsm];cases ho:opL l AC with
    | none=>rw [ho]at g2;exact g2
    | some a=>rw [ho]at g2;dsimp only at g2 ⊢;rw [g2];simp
def aCB (AA:Nat) (a0:Af) (a1:Int) (a2:List Int) (a3:Int) (y4:Ah) (y8 x1:List Int) (x3:Int) (y10:List Int):Option (Af × Bool):=
 (lD AA a0 a1 a2 y4 y8 AA 0 []).bind fun o=>match o with
 | Sum.inr r=>some r
 | Sum.inl x5=>
 (idx a0.AK.AD a1).bind fun y15=>
 if y4.Op=4 then
  ((qJ AA) (⟨(⟨a0.AE.AH,a0.AE.AM,a0.AE.AD,a0.AE.AF,a0.AE.AG⟩:AE),a0.Aa.set a1.toNat a2,a0.AZ.set a1.toNat y8,a0.AX.set a1.toNat true,(⟨a0.AK.AH,a0.AK.AD.set a1.toNat (⟨y4.Op,x3,x5,y10⟩:AV),a0.AK.AF,a0.AK.AG⟩:AI)⟩:Af) a1 a2 a3).bind fun y16=>
  some ((⟨(⟨y16.1.AE.AH,y16.1.AE.AM,y16.1.AE.AD,y16.1.AE.AF,y16.1.AE.AG⟩:AE),y16.1.Aa,y16.1.AZ,y16.1.AX,(⟨y16.1.AK.AH,y16.1.AK.AD,y16.1.AK.AF,y16.1.AK.AG⟩:AI)⟩:Af),y16.2)
 else
  ((kX AA) (⟨(⟨a0.AE.AH,a0.AE.AM,a0.AE.AD,a0.AE.AF,a0.AE.AG⟩:AE),a0.Aa.set a1.toNat a2,a0.AZ.set a1.toNat y8,a0.AX.set a1.toNat true,(⟨a0.AK.AH,a0.AK.AD.set a1.toNat (⟨y4.Op,x3,x5,y10⟩:AV),a0.AK.AF,a0.AK.AG⟩:AI)⟩:Af) y4.AO x1 a3).bind fun y17=>
  some ((⟨(⟨y17.1.AE.AH,y17.1.AE.AM,y17.1.AE.AD,y17.1.AE.AF,y17.1.AE.AG⟩:AE),y17.1.Aa,y17.1.AZ,y17.1.AX,(⟨y17.1.AK.AH,y17.1.AK.AD,y17.1.AK.AF,y17.1.AK.AG⟩:AI)⟩:Af),y17.2)
theorem aEh {α:Type} {xs:List α} {n:Int} {y v:α} (h:idx xs n=some y):idx (xs.set n.toNat v) n=some v:=by
 obtain⟨j,rfl,hj,hlt⟩:=oB h
 rw [a0r]
 exact iP (by rw [List.getElem?_set_self hlt])
theorem aGB {f:AE} {k AA:Nat} (hm:SmF f) (hD:∀ d∈f.AF,d.AQ.length<=30/\d.AS.length<=30) (hv2:PV f k (dQ (AA+1))) (hv0:PV f k (dQ AA)) (hf:10000000<AA) {s:FS} {n:Int} {l tk:List Int} {z m:Int} {y:Ah}
 (hl:(l.length:Int)<=z) (ht:(tk.length:Int)<=z) (hz:z+6000100*(k+1)<=400000000) (hy:idx f.AD n=some y) (hs:WF f s) (hsn:idx s.AX n=some false) (hu:unF s<=k+1) (hI:opI y l tk=some m):
 ∃ r,aCB (AA+2) (cvP f s) n l z y tk (gQ y l tk) m y.AO=some r/\ResP f ((opN y l tk).bind fun w=>iY false f (cG false f k) (s.put n l tk w) y l tk z) r:=by
 obtain⟨a1,a2,a3⟩:=hm.args y (eC hy)
 obtain⟨r,g1,g2⟩:=argsP (f:=f) (s:=s) (n:=n) (l:=l) (tk:=tk) (y:=y) (AA:=AA+2) (by omega) y.AW [] [] (AA+2) rfl (by omega) (by simp;omega) (by simp;omega) a3
 simp only [a0W,a0q,a1n]at g1 g2
 unfold aCB
 rw [g1,bsm,opN,hI,bsm]
 cases ho:opL l y.AW with
 | none=>rw [ho]at g2;obtain⟨s',rfl⟩:=g2;exact⟨_,rfl,s',rfl⟩
 | some a=>
  rw [ho]at g2;dsimp only at g2
  subst g2;have hin:=wI hy;obtain⟨w0,hw0⟩:=gK (xs:=s.nd) (i:=n) hin.1 (by rw [hs.nd];exact hin.2)
  obtain⟨t0,ht0⟩:=gK (xs:=s.AZ) (i:=n) hin.1 (by rw [hs.AZ];exact hin.2)
  have hp:=aGu (l:=l) (t:=tk) (z:=(⟨y.Op,m,a,y.AO⟩:AV)) hsn;rw [bsm,bsm];dsimp only
  rw [show idx (cvP f s).AK.AD n=some w0 from hw0,bsm];by_cases h4:y.Op=4
  ·obtain⟨r,q1,q2⟩:=defP_S hm hD hv2 hv0 hf (s:=s.put n l tk ⟨y.Op,m,a,y.AO⟩) (n:=n) (l:=l) (tk:=tk) hl ht hz hy h4 (aEh ht0) hs.put (by omega)
   rw [a2d h4,show qJ (AA+2) (⟨(⟨(cvP f s).AE.AH,(cvP f s).AE.AM,(cvP f s).AE.AD,(cvP f s).AE.AF,(cvP f s).AE.AG⟩:AE),(cvP f s).Aa.set n.toNat l,(cvP f s).AZ.set n.toNat tk,(cvP f s).AX.set n.toNat true,(⟨(cvP f s).AK.AH,(cvP f s).AK.AD.set n.toNat (⟨y.Op,m,a,y.AO⟩:AV),(cvP f s).AK.AF,(cvP f s).AK.AG⟩:AI)⟩:Af) n l z=_ from q1,bsm];exact⟨_,rfl,q2⟩
  ·have hw:(gQ y l tk).length<=z:=by unfold gQ;split <;> omega
   obtain⟨r,q1,q2⟩:=aGD hv2 (by omega) (l:=gQ y l tk) (z:=z) hw (by omega) a2 (s:=s.put n l tk ⟨y.Op,m,a,y.AO⟩) hs.put (by omega)
   rw [a2c h4,show kX (AA+2) (⟨(⟨(cvP f s).AE.AH,(cvP f s).AE.AM,(cvP f s).AE.AD,(cvP f s).AE.AF,(cvP f s).AE.AG⟩:AE),(cvP f s).Aa.set n.toNat l,(cvP f s).AZ.set n.toNat tk,(cvP f s).AX.set n.toNat true,(⟨(cvP f s).AK.AH,(cvP f s).AK.AD.set n.toNat (⟨y.Op,m,a,y.AO⟩:AV),(cvP f s).AK.AF,(cvP f s).AK.AG⟩:AI)⟩:Af) y.AO (gQ y l tk) z=_ from q1,bsm];refine⟨_,rfl,?_⟩;unfold iY;rw [a2c h4];exact q2
theorem pnode {f:AE} {k AA:Nat} (hm:SmF f) (hD:∀ d∈f.AF,d.AQ.length<=30/\d.AS.length<=30) (hv2:PV f k (dQ (AA+1))) (hv0:PV f k (dQ AA)) (hf:10000000<AA):PV f (k+1) (dQ (AA+3)):=by
 refine⟨fun s n l z hs hu hl hz=>?_⟩
 rw [dQ]
 by_cases c1:n<0
 ·rw [a2d c1,cG,a2c (by omega)];exact⟨_,rfl,s,rfl⟩
 rw [a2c c1]
 by_cases c2:(f.AD.length:Int)<=n
 ·rw [a2d (show((cvP f s).AE.AD.length:Int)<=n from c2),cG,a2c (by omega)];exact⟨_,rfl,s,rfl⟩
 rw [a2c (show ¬ ((cvP f s).AE.AD.length:Int)<=n from c2)]
 obtain⟨q,hq⟩:=gK (xs:=s.AX) (i:=n) (by omega) (by rw [hs.AX];omega)
 obtain⟨l0,hl0⟩:=gK (xs:=s.Aa) (i:=n) (by omega) (by rw [hs.Aa];omega)
 obtain⟨t0,ht0⟩:=gK (xs:=s.AZ) (i:=n) (by omega) (by rw [hs.AZ];omega)
 obtain⟨y,hy⟩:=gK (xs:=f.AD) (i:=n) (by omega) (by omega)
 rw [show idx (cvP f s).AX n=some q from hq,bsm]
 cases q with
 | true=>
  rw [a1Y,cG,a2c (by rw [hq];rintro⟨_,_,h⟩;cases h)];exact⟨_,rfl,s,rfl⟩
 | false=>
  have hfv:uB false y l->cG false f (k+1) s n l z=(opN y l (pick l y.AM)).bind fun w=>iY false f (cG false f k) (s.put n l (pick l y.AM) w) y l (pick l y.AM) z:=fun h=>by
   rw [cG,a2d ⟨by omega,by omega,hq⟩,hy,bsm,a2d h]
  have hfn:¬ uB false y l->cG false f (k+1) s n l z=none:=fun h=>by
   rw [cG,a2d ⟨by omega,by omega,hq⟩,hy,bsm,a2c h]
  have hT:=hm.takes y (eC hy);obtain⟨a1,a2,a3⟩:=hm.args y (eC hy);rw [a1X,bsm,show idx (cvP f s).Aa n=some l0 from hl0,bsm,show idx (cvP f s).AE.AD n=some y from hy,bsm,aCo,bsm,aHd (l:=y.AM) (b:=l.length) (by omega) (by omega)];by_cases hr:cT l.length none y.AM=true
  ·have fin:(cS y.Op=true\/y.AM=[])->∃ r,((uK (AA+2) l y.AM).bind fun y8=>
    (idx (cvP f s).AZ n).bind fun y9=>
    (fC y.AO).bind fun y10=>
    ((if y.Op=6 then
      some (decide (y.Op=6))
    else
     some (decide (y.Op=8))).bind fun x2=>
    bif x2 then
     (idx ((cvP f s).AZ.set n.toNat y8) n).bind fun y11=>
     some y11
    else
     some l).bind fun x1=>
    ((if y.Op=2 then
      some (decide (y.Op=2))
    else
     if y.Op=6 then
      some (decide (y.Op=6))
     else
      some (decide (y.Op=8))).bind fun x4=>
    bif x4 then
     if y.N<0 then
      (some ((⟨(⟨(cvP f s).AE.AH,(cvP f s).AE.AM,(cvP f s).AE.AD,(cvP f s).AE.AF,(cvP f s).AE.AG⟩:AE),(cvP f s).Aa.set n.toNat l,(cvP f s).AZ.set n.toNat y8,(cvP f s).AX.set n.toNat true,(⟨(cvP f s).AK.AH,(cvP f s).AK.AD,(cvP f s).AK.AF,(cvP f s).AK.AG⟩:AI)⟩:Af),false)).bind fun r=>some (Sum.inr r)
     else
      if (x1.length:Int)<=y.N then
       (some ((⟨(⟨(cvP f s).AE.AH,(cvP f s).AE.AM,(cvP f s).AE.AD,(cvP f s).AE.AF,(cvP f s).AE.AG⟩:AE),(cvP f s).Aa.set n.toNat l,(cvP f s).AZ.set n.toNat y8,(cvP f s).AX.set n.toNat true,(⟨(cvP f s).AK.AH,(cvP f s).AK.AD,(cvP f s).AK.AF,(cvP f s).AK.AG⟩:AI)⟩:Af),false)).bind fun r=>some (Sum.inr r)
      else
       (idx x1 y.N).bind fun y12=>
       some (Sum.inl y12)
    else
     some (Sum.inl y.N)).bind fun o=>match o with
    | Sum.inr r=>some r
    | Sum.inl x3=>aCB (AA+2) (cvP f s) n l z y y8 x1 x3 y10)=some r/\ResP f (cG false f (k+1) s n l z) r:=fun hk=>by
    rw [hfv ⟨⟨hk,hr⟩,fun h=>by cases h⟩]
    have hpl:(pick l y.AM).length<=l.length:=by
     rw [aAB];have:=aBW (b:=l.length) (by omega) hr;omega
    rw [pick_p (by omega) (by omega) (aBe hr),bsm,show idx (cvP f s).AZ n=some t0 from ht0,bsm,fC,a1n,cX (by omega),bsm,bsm,
     show(if y.Op=6 then some (decide (y.Op=6)) else some (decide (y.Op=8)):Option Bool)=some (decide (y.Op=6\/y.Op=8))from by
      by_cases h6:y.Op=6
      ·rw [a2d h6,a2a h6,a2a (.inl h6)]
      ·rw [a2c h6];congr 1;rw [decide_eq_decide];omega,bsm,
     show(bif decide (y.Op=6\/y.Op=8)then(idx ((cvP f s).AZ.set n.toNat (pick l y.AM)) n).bind fun y11=>some y11 else some l:Option (List Int))=some (gQ y l (pick l y.AM))from by
      unfold gQ;by_cases h6:y.Op=6\/y.Op=8
      ·rw [a2a h6,a1Y,a2d h6,show idx ((cvP f s).AZ.set n.toNat (pick l y.AM)) n=some (pick l y.AM)from aEh ht0,bsm]
      ·rw [a1Z h6,a1X,a2c h6],bsm,
     show(if y.Op=2 then some (decide (y.Op=2)) else some (decide (y.Op=6\/y.Op=8)):Option Bool)=some (decide (y.Op=2\/y.Op=6\/y.Op=8))from by
      by_cases h2:y.Op=2
      ·rw [a2d h2,a2a h2,a2a (.inl h2)]
      ·rw [a2c h2];congr 1;rw [decide_eq_decide];omega,bsm]
    by_cases hx:y.Op=2\/y.Op=6\/y.Op=8
    ·have hI:opI y l (pick l y.AM)=idx (gQ y l (pick l y.AM)) y.N:=by
      unfold opI gQ;by_cases h2:y.Op=2
      ·rw [a2d h2,a2c (by omega)]
      ·rw [a2c h2,a2d (by omega),a2d (by omega)]
     rw [a2a hx,a1Y];by_cases e1:y.N<0
     ·rw [a2d e1,opN,hI,show idx (gQ y l (pick l y.AM)) y.N=none from by unfold idx;rw [a2c (by omega)]];exact⟨_,rfl,⟨s.AX.set n.toNat true,s.Aa.set n.toNat l,s.AZ.set n.toNat (pick l y.AM),s.nd⟩,rfl⟩
     ·rw [a2c e1];by_cases e2:((gQ y l (pick l y.AM)).length:Int)<=y.N
      ·have:idx (gQ y l (pick l y.AM)) y.N=none:=by
        cases hi:idx (gQ y l (pick l y.AM)) y.N with
        | none=>rfl
        | some y=>have:=wI hi;omega
       rw [a2d e2,opN,hI,this];exact⟨_,rfl,⟨s.AX.set n.toNat true,s.Aa.set n.toNat l,s.AZ.set n.toNat (pick l y.AM),s.nd⟩,rfl⟩
      ·obtain⟨m,hmm⟩:=gK (xs:=gQ y l (pick l y.AM)) (i:=y.N) (by omega) (by omega)
       rw [a2c e2,hmm,bsm,bsm];exact aGB hm hD hv2 hv0 hf hl (by omega) (by omega) hy hs hq hu (by rw [hI,hmm])
    ·rw [a1Z hx,a1X,bsm];exact aGB hm hD hv2 hv0 hf hl (by omega) (by omega) hy hs hq hu (by unfold opI;rw [a2c (by omega),a2c (by omega)])
   cases ht:cS y.Op with
   | false=>
    rw [a0n,a1Y];by_cases hk:y.AM=[]
    ·rw [a2c (by rw [hk];simp),hr,bsm,a1Y,bsm];exact fin (.inr hk)
    ·have hno:¬ uB false y l:=fun h=>by
      rcases h.1.1 with h | h
      ·rw [ht]at h;cases h
      ·exact hk h
     rw [a2d (by have:=List.length_pos_iff.2 hk;omega),hfn hno];exact⟨_,rfl,⟨s.AX.set n.toNat true,s.Aa.set n.toNat l,s.AZ,s.nd⟩,rfl⟩
   | true=>
    rw [a0o,a1X,hr,bsm,a1Y,bsm];exact fin (.inl ht)
  ·have hrf:cT l.length none y.AM=false:=Bool.eq_false_iff.2 hr;rw [hfn (fun h=>hr h.1.2)];cases ht:cS y.Op with
   | false=>
    rw [a0n,a1Y];by_cases hk:y.AM=[]
    ·rw [a2c (by rw [hk];simp),hrf,bsm,a1X];exact⟨_,rfl,⟨s.AX.set n.toNat true,s.Aa.set n.toNat l,s.AZ,s.nd⟩,rfl⟩
    ·rw [a2d (by have:=List.length_pos_iff.2 hk;omega)];exact⟨_,rfl,⟨s.AX.set n.toNat true,s.Aa.set n.toNat l,s.AZ,s.nd⟩,rfl⟩
   | true=>
    rw [a0o,a1X,hrf,bsm,a1X];exact⟨_,rfl,⟨s.AX.set n.toNat true,s.Aa.set n.toNat l,s.AZ,s.nd⟩,rfl⟩
theorem pnode0 {f:AE} {AA:Nat}:PV f 0 (dQ (AA+1)):=by
 refine⟨fun s n l z hs hu hl hz=>?_⟩
 rw [dQ,cG]
 by_cases c1:n<0
 ·rw [a2d c1];exact⟨_,rfl,s,rfl⟩
 rw [a2c c1]
 by_cases c2:(f.AD.length:Int)<=n
 ·rw [a2d (show((cvP f s).AE.AD.length:Int)<=n from c2)];exact⟨_,rfl,s,rfl⟩
 rw [a2c (show ¬ ((cvP f s).AE.AD.length:Int)<=n from c2)]
 obtain⟨q,hq⟩:=gK (xs:=s.AX) (i:=n) (by omega) (by rw [hs.AX];omega)
 rw [show idx (cvP f s).AX n=some q from hq,bsm]
 cases q with
 | true=>exact⟨_,rfl,s,rfl⟩
 | false=>have:=unF_pos hq;omega
theorem pvisF {f:AE} (hm:SmF f) (hD:∀ d∈f.AF,d.AQ.length<=30/\d.AS.length<=30):∀ (k AA:Nat),10000000+3*k<AA->PV f k (dQ AA)
 | 0,AA+1,_=>pnode0
 | k+1,AA+3,h=>pnode hm hD (pvisF hm hD k (AA+1) (by omega)) (pvisF hm hD k AA (by omega)) (by omega)
open Go.SX Go.SW Go.Dt
theorem aGe {p:AI} {sz:List Int} {AR AY:List Bool} (hl:sz.length=p.AD.length) (hB:sz.length<=1000):∀ (d i k:Nat),i+d=sz.length->d<k->lH ⟨p,sz,AR,AY⟩ p (fun x=>rD x.1 x.2) k (sz.take i) i=some sz
 | 0,i,k,h,hk=>by
  obtain _ | k:=k
  ·omega
  rw [lH,a2c (by omega),a1x (by omega)]
 | d+1,i,k,h,hk=>by
  obtain _ | k:=k
  ·omega
  have hi:i<sz.length:=by omega
  rw [lH,a2d (by omega)];dsimp only
  rw [rD,show idx sz (i:Int)=some sz[i]from iP (a0I hi),bsm,bsm];have hr:cQ (sz.take i++[sz[i]])=some (sz.take (i+1)):=by
   have:sz.take i++[sz[i]]=sz.take (i+1):=by rw [List.take_add_one,a0I hi];rfl
   rw [this];unfold cQ;rw [a2d (by simp;omega)]
  rw [hr,bsm,aM (by omega),bsm];exact aGe hl hB d (i+1) k (by omega) (by omega)
theorem aGm {p:AI} (hp:SmP p) {s:VS} (h:dZ p=some s) (hl:s.sz.length=p.AD.length) (hB:p.AD.length<=60):uX F p=some (s.sz,0):=by
 have e:=aGe (p:=p) (sz:=s.sz) (AR:=s.AR) (AY:=s.AY) hl (by omega) s.sz.length 0 F (by omega) (by rw [hl];show _<1000000000;omega)
 rw [List.take_zero]at e
 rw [uX,aBz,aA0,show(⟨p.AH,p.AD,p.AF,p.AG⟩:AI)=p from rfl,aDO hp,bsm,h]
 simp only [iW]
 rw [xT]
 have e':lH ⟨p,s.sz,s.AR,s.AY⟩ p (fun x=>rD x.1 x.2) F [] 0=some s.sz:=e
 rw [e',bsm,bsm,bsm,bsm]
abbrev E:=List (Option (Int × Int))
def chs (m:Int) (d:AN):E:=(List.range d.AQ.length).map fun c:Nat=>some (m,(c:Int))
def inE (e:E) (m:Int) (d:AN):E:=e++chs m d++List.replicate d.AS.length none
def ruE (e:E) (m:Int) (d:AN) (r:Ai):E:=inE e m d++List.replicate (brs d.AQ r.Ab).toNat none
def subs (p:AI) (x:AV) (e:E):List (Int × E):=
 if x.Op=4 then match idx p.AF x.N with
  | some d=>d.AP.map (fun r=>(r.AU,ruE e x.N d r))++(d.AS.map (fun y=>(y.AU,inE e x.N d))++x.AO.map (fun k=>(k,inE e x.N d)))
  | none=>[]
 else x.AO.map (fun k=>(k,e))
def okT (p:AI) (x:AV) (size:Int):Prop:=
 ((x.Op=1\/x.Op=7)/\x.AO.length=0)\/((x.Op=3\/x.Op=5)/\x.AO.length=2)\/(x.Op=2/\x.AW.length<=3/\x.AO.length=0/\0<=x.N/\x.N<size)\/((x.Op=6\/x.Op=8)/\x.AO.length=1)\/(x.Op=4/\x.AO.length=1/\0<=x.N/\∃ d,idx p.AF x.N=some d/\okD d=true)
def Tr (p:AI):Nat->Int × E->Prop
 | 0,_=>False
 | h+1,q=>∃ x,idx p.AD q.1=some x/\0<=q.1/\okT p x q.2.length/\∀ k∈subs p x q.2,Tr p h k
structure Chg (s s':VS) (N:List (Int × E)) (D:List (Int × Int)):Prop where
 nn:(N.map (·.1)).Nodup
 dn:(D.map (·.1)).Nodup
 new:∀ q∈N,idx s.AR q.1=some false/\idx s'.AR q.1=some true/\idx s'.sz q.1=some (q.2.length:Int)
 newd:∀ q∈D,idx s.AY q.1=some false/\idx s'.AY q.1=some true
 old:∀ i,i ∉ N.map (·.1)->idx s'.AR i=idx s.AR i/\idx s'.sz i=idx s.sz i
 oldd:∀ i,i ∉ D.map (·.1)->idx s'.AY i=idx s.AY i
 ls:s'.sz.length=s.sz.length
 lm:s'.AR.length=s.AR.length
theorem Chg.nil {s:VS}:Chg s s [] []:=⟨List.nodup_nil,List.nodup_nil,fun i h=>(by cases h),fun i h=>(by cases h),fun i _=>⟨rfl,rfl⟩,fun i _=>rfl,rfl,rfl⟩
theorem Chg.trans {s s1 s2:VS} {N N':List (Int × E)} {D D':List (Int × Int)} (h:Chg s s1 N D) (k:Chg s1 s2 N' D'):Chg s s2 (N++N') (D++D'):=by
 have hd:∀ i∈N.map (·.1),i ∉ N'.map (·.1):=fun i hi hi'=>by
  obtain⟨q,hq,rfl⟩:=a1i.1 hi;obtain⟨q',hq',e⟩:=a1i.1 hi';have a:=(h.new q hq).2.1;have b:=(k.new q' hq').1;rw [e,a]at b;cases b
 have hdd:∀ i∈D.map (·.1),i ∉ D'.map (·.1):=fun i hi hi'=>by
  obtain⟨q,hq,rfl⟩:=a1i.1 hi;obtain⟨q',hq',e⟩:=a1i.1 hi';have a:=(h.newd q hq).2;have b:=(k.newd q' hq').1;rw [e,a]at b;cases b
 refine⟨?_,?_,fun q hq=>?_,fun q hq=>?_,fun i hi=>?_,fun i hi=>?_,by rw [k.ls,h.ls],by rw [k.lm,h.lm]⟩
 ·rw [a0Y];exact a1o.2 ⟨h.nn,k.nn,fun a ha b hb e=>hd a ha (e ▸ hb)⟩
 ·rw [a0Y];exact a1o.2 ⟨h.dn,k.dn,fun a ha b hb e=>hdd a ha (e ▸ hb)⟩
 ·rcases a1c.1 hq with hq | hq
  ·have o:=k.old q.1 (hd _ (a1i.2 ⟨q,hq,rfl⟩));obtain⟨a,b,c⟩:=h.new q hq;exact⟨a,by rw [o.1,b],by rw [o.2,c]⟩
  ·have o:=h.old q.1 (fun z=>hd _ z (a1i.2 ⟨q,hq,rfl⟩))
   obtain⟨a,b,c⟩:=k.new q hq;exact⟨by rw [<- o.1,a],b,c⟩
 ·rcases a1c.1 hq with hq | hq
  ·have o:=k.oldd q.1 (hdd _ (a1i.2 ⟨q,hq,rfl⟩));obtain⟨a,b⟩:=h.newd q hq;exact⟨a,by rw [o,b]⟩
  ·have o:=h.oldd q.1 (fun z=>hdd _ z (a1i.2 ⟨q,hq,rfl⟩))
   obtain⟨a,b⟩:=k.newd q hq;exact⟨by rw [<- o,a],b⟩
 ·rw [a0Y,a1c,not_or]at hi;have a:=h.old i hi.1;have b:=k.old i hi.2;exact⟨by rw [b.1,a.1],by rw [b.2,a.2]⟩
 ·rw [a0Y,a1c,not_or]at hi;rw [k.oldd i hi.2,h.oldd i hi.1]
def mark (s:VS) (n z:Int) (x:AV):VS:=⟨s.sz.set n.toNat z,s.AR.set n.toNat true,if x.Op=4 then s.AY.set x.N.toNat true else s.AY⟩
theorem aDw {g:VS->Int->Int->Option VS}:∀ (l m:List (Int × Int)) (s:VS),bY g s (l++m)=(bY g s l).bind fun s=>bY g s m
 | [],m,s=>rfl
 | x :: l,m,s=>by
  simp only [a0w,bY];cases g s x.1 x.2 with
  | none=>rfl
  | some s1=>exact aDw l m s1
theorem jW {α:Type} {l:List α} {n:Int} {b:α} (h0:0<=n) (h:n<l.length):idx (l.set n.toNat b) n=some b:=by
 have:idx (l.set n.toNat b) (n.toNat:Int)=some b:=iP (by rw [a0M,a2d rfl,a2d (by omega)])
 rwa [a0s h0]at this
theorem jV {α:Type} {l:List α} {n i:Int} {b:α} (h0:0<=n) (h:i≠n):idx (l.set n.toNat b) i=idx l i:=by
 unfold idx
 split
 ·rename_i hi;exact a0N (by omega)
 ·rfl
theorem dF {α:Type} {l:List α} {n:Int} {a:α} (h:idx l n=some a):0<=n/\n<l.length:=by
 by_cases c:0<=n/\n<l.length
 ·exact c
 ·rw [aCb c]at h;cases h
open Go.SX Go.SW Go.Dt
def chD (d:AN) (z:Int):List (Int × Int):=d.AP.map (fun r=>(r.AU,z+own d+brs d.AQ r.Ab))++d.AS.map (fun y=>(y.AU,z+own d))
def eH (p:AI) (x:AV) (z:Int):List (Int × Int):=
 if x.Op=4 then match idx p.AF x.N with
  | some d=>chD d z++x.AO.map (fun k=>(k,z+own d))
  | none=>[]
 else x.AO.map (fun k=>(k,z))
structure Ok1 (p:AI) (x:AV) (z:Int):Prop where
 def_:x.Op=4->∃ d,idx p.AF x.N=some d/\okD d=true
 name:x.Op=2\/x.Op=6\/x.Op=8->0<=x.N/\x.N<z
 args:x.AW.all (okE z)=true
 la:x.AW.length<=3
 lk:x.AO.length<=2
 stop:x.Op=7->x.AO=[]
structure gF (p:AI) (sz:List Int) (rk:Int->Nat) (i:Int) (x:AV) (z:Int):Prop where
 node:idx p.AD i=some x
 size:idx sz i=some z
 ok:Ok1 p x z
 pos:0<=z
 below:∀ c∈eH p x z,idx sz c.1=some c.2/\rk c.1<rk i/\∃ y,idx p.AD c.1=some y
def Nw (s s':VS) (i:Int):Prop:=idx s.AR i=some false/\idx s'.AR i=some true
structure Kp (s s':VS):Prop where
 old:∀ i,idx s.AR i=some true->idx s'.AR i=some true/\idx s'.sz i=idx s.sz i
 lm:s'.AR.length=s.AR.length
theorem Kp.refl {s:VS}:Kp s s:=⟨fun _ h=>⟨h,rfl⟩,rfl⟩
theorem Kp.trans {a b c:VS} (h:Kp a b) (k:Kp b c):Kp a c:=⟨fun i hi=>⟨(k.old i (h.old i hi).1).1,((k.old i (h.old i hi).1).2).trans (h.old i hi).2⟩,k.lm.trans h.lm⟩
theorem aDj {l m:List Bool} (h:m.length=l.length) {i:Int} (hi:idx m i=some true):idx l i=some true\/idx l i=some false:=by
 have h1:=dF hi
 obtain⟨b,hb⟩:=eS (xs:=l) h1.1 (by omega)
 cases b
 ·exact .inr hb
 ·exact .inl hb
structure Vo (p:AI) (f:Nat) (Z:Int) (s s':VS) (rk:Int->Nat):Prop where
 kp:Kp s s'
 good:∀ i,Nw s s' i->rk i<f/\∃ x z,gF p s'.sz rk i x z/\z+100*(rk i:Int)<=Z/\∀ c∈eH p x z,Nw s s' c.1
theorem aGF {p:AI} {f:Nat} {zm:Int} (ih:∀ s s' n z,s.sz.length=s.AR.length->0<=z->vis p f s n z=some s'->s'.sz.length=s'.AR.length/\∃ rk,Vo p f (z+100*f) s s' rk/\Nw s s' n/\idx s'.sz n=some z):
 ∀ (l:List (Int × Int)) (s s':VS),s.sz.length=s.AR.length->(∀ c∈l,0<=c.2/\c.2<=zm)->bY (vis p f) s l=some s'->s'.sz.length=s'.AR.length/\∃ rk,Vo p f (zm+100*f) s s' rk/\∀ c∈l,Nw s s' c.1/\idx s'.sz c.1=some c.2
 | [],s,s',hs,_,h=>by
  cases h;exact⟨hs,fun _=>0,⟨.refl,fun i hi=>by have:=hi.1.symm.trans hi.2;cases this⟩,fun c hc=>by cases hc⟩
 | c :: l,s,s',hs,hz,h=>by
  obtain⟨s1,e1,e2⟩:=bind_some h;obtain⟨l1,rk1,v1,n1,z1⟩:=ih s s1 c.1 c.2 hs (hz c (.head _)).1 e1;have hzc:=(hz c (.head _)).2;obtain⟨l2,rk2,v2,n2⟩:=aGF ih l s1 s' l1 (fun c hc=>hz c (.tail _ hc)) e2
  refine⟨l2,fun i=>if idx s1.AR i=some true then rk1 i else rk2 i,⟨v1.kp.trans v2.kp,fun i hi=>?_⟩,fun c' hc'=>?_⟩
  ·by_cases hm:idx s1.AR i=some true
   ·obtain⟨h1,x,z,g,hZ,hb⟩:=v1.good i ⟨hi.1,hm⟩;rw [a2d hm];refine⟨h1,x,z,⟨g.node,(v2.kp.old i hm).2.trans g.size,g.ok,g.pos,fun c hc=>?_⟩,by omega,fun c hc=>?_⟩
    ·have hc1:=(hb c hc).2;obtain⟨q1,q2,q3⟩:=g.below c hc;refine⟨(v2.kp.old c.1 hc1).2.trans q1,?_,q3⟩;simp only [a2d hm,a2d hc1];exact q2
    ·exact⟨(hb c hc).1,(v2.kp.old c.1 (hb c hc).2).1⟩
   ·have hm2:idx s1.AR i=some false:=by
     rcases aDj v2.kp.lm hi.2 with h | h
     ·exact absurd h hm
     ·exact h
    obtain⟨h1,x,z,g,hZ,hb⟩:=v2.good i ⟨hm2,hi.2⟩;rw [a2c hm];refine⟨h1,x,z,⟨g.node,g.size,g.ok,g.pos,fun c hc=>?_⟩,hZ,fun c hc=>?_⟩
    ·have hc1:=(hb c hc).1;obtain⟨q1,q2,q3⟩:=g.below c hc;refine⟨q1,?_,q3⟩;simp only [a2c hm,hc1,a1U,Bool.false_eq_true,if_false];exact q2
    ·refine⟨?_,(hb c hc).2⟩;rcases aDj (l:=s.AR) (m:=s'.AR) (v2.kp.lm.trans v1.kp.lm) (hb c hc).2 with h | h
     ·have:=(v1.kp.old _ h).1.symm.trans (hb c hc).1;cases this
     ·exact h
  ·rcases a1f.1 hc' with rfl | hc'
   ·exact⟨⟨n1.1,(v2.kp.old _ n1.2).1⟩,(v2.kp.old _ n1.2).2.trans z1⟩
   ·obtain⟨h1,h2⟩:=n2 c' hc';refine⟨⟨?_,h1.2⟩,h2⟩;rcases aDj (l:=s.AR) (m:=s'.AR) (v2.kp.lm.trans v1.kp.lm) h1.2 with h | h
    ·have:=(v1.kp.old _ h).1.symm.trans h1.1;cases this
    ·exact h
theorem aCi (d:AN):0<=own d:=by unfold own;omega
theorem chs2_pos {p:AI} {x:AV} {z:Int} (hz:0<=z) (hd:x.Op=4->∃ d,idx p.AF x.N=some d/\okD d=true):∀ c∈eH p x z,0<=c.2/\c.2<=z+69:=by
 intro c hc
 unfold eH at hc
 split at hc
 ·rename_i h4;obtain⟨d,e,ok⟩:=hd h4;rw [e]at hc;simp only [chD,a1c,a1i]at hc;have:=aCi d;have hl:=eX ok;have ho:own d<=60:=by unfold own;omega
  rcases hc with(⟨r,hr,rfl⟩ | ⟨y,hy,rfl⟩) | ⟨k,hk,rfl⟩
  ·have b:=oN (ch:=d.AQ) (js:=r.Ab) (hl.2.2.2.2 r hr).2;have:=(hl.2.2.2.2 r hr).1;simp only;omega
  ·simp only;omega
  ·simp only;omega
 ·simp only [a1i]at hc;obtain⟨k,_,rfl⟩:=hc;simp only;omega
theorem okN_ok1 {p:AI} {s:VS} {x:AV} {z:Int} (h:okN p s x z) (hd:x.Op=4->∃ d,idx p.AF x.N=some d/\okD d=true):Ok1 p x z:=by
 have ⟨la,lk,aa,_⟩:=okN_args h
 refine⟨hd,fun ho=>?_,aa,la,lk,fun o7=>?_⟩
 rotate_left
 ·obtain⟨⟨k,c,hs,hk,_⟩,_⟩:=h;rw [o7]at hs;simp [shp]at hs;obtain⟨rfl,rfl⟩:=hs;exact a0z hk
 obtain⟨⟨k,c,hs,_,hm⟩,_⟩:=h
 rcases ho with ho | ho | ho <;> rw [ho]at hs <;> simp [shp]at hs <;> obtain⟨rfl,rfl⟩:=hs <;> exact hm.1
theorem rN {p:AI} {f:Nat} {s s':VS} {n z:Int} (h:vis p (f+1) s n z=some s'):
 ∃ x,idx p.AD n=some x/\idx s.AR n=some false/\okN p s x z/\(x.Op=4->∃ d,idx p.AF x.N=some d/\okD d=true)/\bY (vis p f) (mark s n z x) (eH p x z)=some s':=by
 simp only [vis]at h
 split at h
 ·rename_i h1;obtain⟨x,ex,h⟩:=bind_some h;split at h
  ·rename_i h2;refine⟨x,ex,h1.2.2,h2,?_⟩;split at h
   ·rename_i h4;obtain⟨d,ed,h⟩:=bind_some h;split at h
    ·rename_i h5;refine⟨fun _=>⟨d,ed,h5⟩,?_⟩
     simp only [mark,eH,a2d h4,ed,chD];rw [a0u,aDw];obtain⟨s1,e1,h⟩:=bind_some h;rw [e1,bsm,aDw];exact h
    ·cases h
   ·rename_i h4;refine⟨fun q=>absurd q h4,?_⟩
    simp only [mark,eH,a2c h4];exact h
  ·cases h
 ·cases h
theorem vis_vo {p:AI}:∀ (f:Nat) (s s':VS) (n z:Int),s.sz.length=s.AR.length->0<=z->vis p f s n z=some s'->s'.sz.length=s'.AR.length/\∃ rk,Vo p f (z+100*f) s s' rk/\Nw s s' n/\idx s'.sz n=some z
 | 0,s,s',n,z,_,_,h=>by simp [vis]at h
 | f+1,s,s',n,z,hs,hz,h=>by
  obtain⟨x,ex,hm,ok,hd,hl⟩:=rN h;have h0:=dF hm;have hml:(mark s n z x).AR.length=s.AR.length:=by simp [mark]
  obtain⟨l2,rk,v,hc⟩:=aGF (p:=p) (f:=f) (zm:=z+69) (fun s s' n z=>vis_vo f s s' n z) (eH p x z) (mark s n z x) s' (by simp [mark,hs]) (chs2_pos hz hd) hl
  have e1:idx (mark s n z x).AR n=some true:=jW h0.1 h0.2;have e2:idx (mark s n z x).sz n=some z:=jW h0.1 (by omega)
  have e3:∀ i,i≠n->idx (mark s n z x).AR i=idx s.AR i/\idx (mark s n z x).sz i=idx s.sz i:=fun i hi=>⟨jV h0.1 hi,jV h0.1 hi⟩
  have hn:=v.kp.old n e1;have hw:∀ i,Nw (mark s n z x) s' i->Nw s s' i/\i≠n:=fun i hi=>by
   have hne:i≠n:=fun q=>by subst q;have:=e1.symm.trans hi.1;cases this
   exact⟨⟨(e3 i hne).1.symm.trans hi.1,hi.2⟩,hne⟩
  refine⟨l2,fun i=>if i=n then f else rk i,⟨⟨fun i hi=>?_,v.kp.lm.trans hml⟩,fun i hi=>?_⟩,⟨hm,hn.1⟩,hn.2.trans e2⟩
  ·have hne:i≠n:=fun q=>by subst q;have:=hm.symm.trans hi;cases this
   have:=v.kp.old i ((e3 i hne).1.trans hi);exact⟨this.1,this.2.trans (e3 i hne).2⟩
  ·by_cases hne:i=n
   ·subst hne;rw [a2d rfl];refine⟨a1K f,x,z,⟨ex,hn.2.trans e2,okN_ok1 ok hd,hz,fun c hcm=>?_⟩,by omega,fun c hcm=>(hw _ (hc c hcm).1).1⟩
    obtain⟨q1,q2⟩:=hc c hcm;obtain⟨q3,y,_,g,_,_⟩:=v.good _ q1;refine⟨q2,?_,y,g.node⟩;rw [a2d rfl,a2c (hw _ q1).2];exact q3
   ·have hi':Nw (mark s n z x) s' i:=⟨(e3 i hne).1.trans hi.1,hi.2⟩;obtain⟨q1,y,w,g,hZ,hb⟩:=v.good i hi';rw [a2c hne];refine⟨Nat.lt_succ_of_lt q1,y,w,⟨g.node,g.size,g.ok,g.pos,fun c hcm=>?_⟩,by omega,fun c hcm=>(hw _ (hb c hcm)).1⟩
    obtain⟨r1,r2,r3⟩:=g.below c hcm;refine⟨r1,?_,r3⟩;rw [a2c hne,a2c (hw _ (hb c hcm)).2];exact r2
structure Fm (p:AI) (sz:List Int) (rk:Int->Nat):Prop where
 len:sz.length=p.AD.length
 n60:p.AD.length<=60
 f12:p.AH.length<=12
 d12:p.AF.length<=12
 good:∀ i,0<=i->i<(p.AD.length:Int)->rk i<60/\∃ x z,gF p sz rk i x z/\z<=6012
 main:idx sz p.AG=some (p.AH.length:Int)
 oks:∀ d∈p.AF,okD d=true
theorem fm_of {p:AI} {s:VS} (h:dZ p=some s):∃ rk,Fm p s.sz rk:=by
 have hd:=aB8 h
 unfold dZ at h
 split at h
 ·rename_i h1;obtain⟨s1,e1,h⟩:=bind_some h;split at h
  ·rename_i h2;cases h;obtain⟨l,rk,v,hn,hz⟩:=vis_vo _ _ _ _ _ (by simp [start]) (by omega) e1
   have hlm:s.AR.length=p.AD.length:=by rw [v.kp.lm];simp [start]
   refine⟨rk,by rw [l,hlm],h1.2.1,h1.1,h1.2.2.1,fun i h0 hi=>?_,hz,hd⟩
   have hs:idx (start p).AR i=some false:=by
    rw [start];simp only
    obtain⟨b,hb⟩:=eS (xs:=List.replicate p.AD.length false) h0 (by simpa using hi)
    rw [hb];have:=eC hb;rw [List.eq_of_mem_replicate this]
   have ht:idx s.AR i=some true:=by
    obtain⟨b,hb⟩:=eS (xs:=s.AR) h0 (by omega)
    have:=a0t.1 h2.1 b (eC hb);cases b
    ·cases this
    ·exact hb
   obtain⟨q,x,z,g,hZ,_⟩:=v.good i ⟨hs,ht⟩;exact⟨by omega,x,z,g,by omega⟩
  ·cases h
 ·cases h
open Go.SX Go.SW Go.Dt
abbrev Srt (l:List Int):Prop:=l.Pairwise (·<·)
theorem aBR:∀ {l m:List Int},Srt l->Srt m->(∀ i,i∈l ↔ i∈m)->l=m
 | [],[],_,_,_=>rfl
 | [],b :: m,_,_,h=>by have:=(h b).2 (.head _);cases this
 | a :: l,[],_,_,h=>by have:=(h a).1 (.head _);cases this
 | a :: l,b :: m,h1,h2,h=>by
  obtain⟨h1a,h1'⟩:=a1r.1 h1;obtain⟨h2a,h2'⟩:=a1r.1 h2;have e:a=b:=by
   have q1:a=b\/b<a:=by
    rcases a1f.1 ((h a).1 (.head _))with q | q
    ·exact .inl q
    ·exact .inr (h2a a q)
   have q2:b=a\/a<b:=by
    rcases a1f.1 ((h b).2 (.head _))with q | q
    ·exact .inl q
    ·exact .inr (h1a b q)
   omega
  subst e;refine congrArg (a :: ·) (aBR h1' h2' fun i=>?_)
  constructor
  ·intro hi;rcases a1f.1 ((h i).1 (.tail _ hi))with q | q
   ·have:=h1a i hi;omega
   ·exact q
  ·intro hi;rcases a1f.1 ((h i).2 (.tail _ hi))with q | q
   ·have:=h2a i hi;omega
   ·exact q
theorem pL:∀ {l:List Int} {a b:Int},Srt l->(∀ i∈l,a<=i/\i<b)->(l.length:Int)<=max 0 (b - a)
 | [],a,b,_,_=>by simp;omega
 | x :: l,a,b,h,hb=>by
  obtain⟨h1,h2⟩:=a1r.1 h;have:=pL (a:=x+1) (b:=b) h2 fun i hi=>⟨by have:=h1 i hi;omega,(hb i (.tail _ hi)).2⟩
  have:=hb x (.head _);simp only [a0S];omega
mutual
def nmE:AT->List Int
 | ⟨op,n,ks⟩=>(if op=2 then [n] else [])++nmL ks
def nmL:List AT->List Int
 | []=>[]
 | k :: ks=>nmE k++nmL ks
end
def nmO (x:AV):List Int:=if x.Op=2\/x.Op=6\/x.Op=8 then [x.N] else []
def nmN (x:AV):List Int:=nmO x++nmL x.AW
def kd (p:AI) (x:AV):List Int:=
 if x.Op=4 then match idx p.AF x.N with
  | some d=>(d.AP.map (·.AU)++d.AS.map (·.AU))++x.AO
  | none=>[]
 else x.AO
theorem rF {p:AI} {x:AV} {z m:Int} (h:m∈kd p x):∃ w,(m,w)∈eH p x z:=by
 unfold kd at h;unfold eH
 split at h
 ·rename_i h4;rw [a2d h4];cases e:idx p.AF x.N with
  | none=>rw [e]at h;cases h
  | some d=>
   rw [e]at h;simp only [a1c,a1i]at h;simp only [chD,a1c,a1i];rcases h with(⟨r,hr,rfl⟩ | ⟨y,hy,rfl⟩) | h
   ·exact⟨_, .inl (.inl ⟨r,hr,rfl⟩)⟩
   ·exact⟨_, .inl (.inr ⟨y,hy,rfl⟩)⟩
   ·exact⟨_, .inr ⟨m,h,rfl⟩⟩
 ·rename_i h4;rw [a2c h4];exact⟨z,a1i.2 ⟨m,h,rfl⟩⟩
inductive Rch (p:AI):Int->Int->Prop
 | refl (n:Int):Rch p n n
 | step {n m k:Int} {x:AV} (h:idx p.AD n=some x) (hm:m∈kd p x) (r:Rch p m k):Rch p n k
def Occ (p:AI) (n i:Int):Prop:=∃ k x,Rch p n k/\idx p.AD k=some x/\i∈nmN x
theorem aEb {p:AI} {n k:Int} {x:AV} (h:idx p.AD n=some x):Rch p n k ↔ k=n\/∃ m∈kd p x,Rch p m k:=by
 constructor
 ·intro r;cases r with
  | refl=>exact .inl rfl
  | step h1 hm r=>rw [h]at h1;cases h1;exact .inr ⟨_,hm,r⟩
 ·rintro(rfl | ⟨m,hm,r⟩)
  ·exact .refl _
  ·exact .step h hm r
theorem zR {p:AI} {n i:Int} {x:AV} (h:idx p.AD n=some x):Occ p n i ↔ i∈nmN x\/∃ m∈kd p x,Occ p m i:=by
 constructor
 ·rintro⟨k,y,r,hy,hi⟩
  rcases(aEb h).1 r with rfl | ⟨m,hm,r⟩
  ·rw [h]at hy;cases hy;exact .inl hi
  ·exact .inr ⟨m,hm,k,y,r,hy,hi⟩
 ·rintro(hi | ⟨m,hm,k,y,r,hy,hi⟩)
  ·exact⟨n,x, .refl _,h,hi⟩
  ·exact⟨k,y, .step h hm r,hy,hi⟩
def Has (g:aG Int Bool) (S:Int->Prop):Prop:=∀ i,(S i->g.get i=some true)/\(¬ S i->g.get i=none)
theorem Has.congr {g:aG Int Bool} {S U:Int->Prop} (h:Has g S) (e:∀ i,S i ↔ U i):Has g U:=fun i=>⟨fun hi=>(h i).1 ((e i).2 hi),fun hi=>(h i).2 fun q=>hi ((e i).1 q)⟩
theorem aCr {g:aG Int Bool} {S:Int->Prop} (h:Has g S) (n:Int):Has (aG.upd g n true) (fun i=>S i\/i=n):=fun i=>by
 have e:(aG.upd g n true).get i=if i=n then some true else g.get i:=rfl
 rw [e]
 constructor
 ·rintro(hi | rfl)
  ·split
   ·rfl
   ·exact(h i).1 hi
  ·rw [a2d rfl]
 ·intro hi;rw [a2c (fun q=>hi (.inr q))];exact(h i).2 fun q=>hi (.inl q)
theorem has_none:Has (aG.none:aG Int Bool) (fun _=>False):=fun i=>⟨fun h=>h.elim,fun _=>rfl⟩
theorem aIt {rec:aG Int Bool->AT->Option (aG Int Bool)} {op n:Int} (AC:List AT):∀ (AB:List AT) (k:Nat) (g:aG Int Bool) (S:Int->Prop),AC.length<k->AB.length+AC.length<=3000000 ->
 (∀ e∈AC,∀ g S,Has g S->∃ g',rec g e=some g'/\Has g' (fun i=>S i\/i∈nmE e))->Has g S->∃ g',lC rec ⟨op,n,AB++AC⟩ k AB.length g=some g'/\Has g' (fun i=>S i\/i∈nmL AC):=by
 induction AC with
 | nil=>
  intro AB k g S hk _ _ h;obtain _ | k:=k
  ·omega
  rw [lC,a2c (by simp)];exact⟨g,rfl,h.congr fun i=>by simp [nmL]⟩
 | cons e AC ih=>
  intro AB k g S hk hB hr h;obtain _ | k:=k
  ·omega
  simp only [a0S]at hk hB;obtain⟨g1,e1,h1⟩:=hr e (.head _) g S h;obtain⟨g2,e2,h2⟩:=ih (AB++[e]) k g1 _ (by omega) (by simp;omega) (fun x hx=>hr x (.tail _ hx)) h1
  refine⟨g2,?_,h2.congr fun i=>by simp only [nmL,a1c];exact or_assoc⟩
  rw [lC,a2d (aV _ _ _),aX,bsm,jU,e1,bsm,aM (by omega),bsm,bA,aU,e2]
theorem asks_p (AA:Nat):∀ (e:AT) (g:aG Int Bool) (S:Int->Prop),nE e<AA->nE e<=2000000->Has g S->∃ g',kF AA g e=some g'/\Has g' (fun i=>S i\/i∈nmE e):=by
 induction AA with
 | zero=>intro e g S h;omega
 | succ AA ih=>
  intro ⟨op,n,ks⟩ g S hf hB h
  simp only [nE]at hf hB;have hlen:=qF ks;have step:∀ g1 S1,Has g1 S1->∃ g',lC (kF AA) ⟨op,n,ks⟩ AA 0 g1=some g'/\Has g' (fun i=>S1 i\/i∈nmL ks):=fun g1 S1 h1=>by
   have:=aIt (rec:=kF AA) (op:=op) (n:=n) ks [] AA g1 S1 (by omega) (by simp;omega) (fun e he g S hg=>ih e g S (by have:=gV he;omega) (by have:=gV he;omega) hg) h1
   simpa using this
  rw [kF];dsimp only
  by_cases o2:op=2
  ·obtain⟨g',e1,h1⟩:=step _ _ (aCr h n);rw [a2d o2,bsm,e1];exact⟨g',rfl,h1.congr fun i=>by simp only [nmE,a2d o2,a1c,a1m];exact or_assoc⟩
  ·obtain⟨g',e1,h1⟩:=step _ _ h;rw [a2c o2,bsm,e1];exact⟨g',rfl,h1.congr fun i=>by simp only [nmE,a2c o2,a1n]⟩
theorem asksL_p {AA:Nat} {op nn:Int} {ks:List Int} (hf:2000000<AA) (AC:List AT):∀ (AB:List AT) (k:Nat) (g:aG Int Bool) (S:Int->Prop),AC.length<k->AB.length+AC.length<=3000000->(∀ e∈AC,nE e<=2000000)->Has g S ->
 ∃ g',lU AA ⟨op,nn,AB++AC,ks⟩ k AB.length g=some g'/\Has g' (fun i=>S i\/i∈nmL AC):=by
 induction AC with
 | nil=>
  intro AB k g S hk _ _ h;obtain _ | k:=k
  ·omega
  rw [lU,a2c (by simp)];exact⟨g,rfl,h.congr fun i=>by simp [nmL]⟩
 | cons e AC ih=>
  intro AB k g S hk hB hr h;obtain _ | k:=k
  ·omega
  simp only [a0S]at hk hB;have he:=hr e (.head _);obtain⟨g1,e1,h1⟩:=asks_p AA e g S (by omega) he h
  obtain⟨g2,e2,h2⟩:=ih (AB++[e]) k g1 _ (by omega) (by simp;omega) (fun x hx=>hr x (.tail _ hx)) h1
  refine⟨g2,?_,h2.congr fun i=>by simp only [nmL,a1c];exact or_assoc⟩
  rw [lU,a2d (aV _ _ _),aX,bsm,jU,e1,bsm,aM (by omega),bsm,bA,aU,e2]
theorem kind_p (op:Int):∃ v u1 u2,hP op=some v/\dO 207 (.agg #[]) v=some (u1,decide (op=2))/\dO 208 (.agg #[]) v=some (u2,decide (op=6\/op=8)):=by
 by_cases h:shp op=none
 ·refine⟨.nilIface, .agg #[], .agg #[],aGk h,?_,?_⟩
  ·have h2:op≠2:=fun q=>by subst q;simp [shp]at h
   rw [a1Z h2];rfl
  ·have h2:¬ (op=6\/op=8):=fun q=>by rcases q with rfl | rfl <;> simp [shp]at h
   rw [a1Z h2];rfl
 ·have:op=1\/op=7\/op=3\/op=2\/op=5\/op=6\/op=8\/op=4:=by
   unfold shp at h;by_cases a1:op=1\/op=7
   ·omega
   ·rw [a2c a1]at h;by_cases a2:op=3
    ·omega
    ·rw [a2c a2]at h;by_cases a3:op=2
     ·omega
     ·rw [a2c a3]at h;by_cases a4:op=5
      ·omega
      ·rw [a2c a4]at h;by_cases a5:op=6\/op=8
       ·omega
       ·rw [a2c a5]at h;by_cases a6:op=4
        ·omega
        ·rw [a2c a6]at h;exact absurd rfl h
  rcases this with rfl | rfl | rfl | rfl | rfl | rfl | rfl | rfl <;> exact⟨_,_,_,rfl,rfl,rfl⟩
theorem b1_p {L:Ae} {AA:Nat} {n:Int} {x:AV} (hx:idx L.p.AD n=some x) (hf:3000000<AA) (hl:x.AW.length<=2000000) (ha:∀ e∈x.AW,nE e<=2000000) {g:aG Int Bool} {S:Int->Prop} (h:Has g S):
 ∃ g',qP AA L n g=some g'/\Has g' (fun i=>S i\/i∈nmN x):=by
 obtain⟨v,u1,u2,e1,e2,e3⟩:=kind_p x.Op
 have step:∀ g1 S1,Has g1 S1->∃ g',lU AA x AA 0 g1=some g'/\Has g' (fun i=>S1 i\/i∈nmL x.AW):=fun g1 S1 h1=>by
  have:=asksL_p (AA:=AA) (op:=x.Op) (nn:=x.N) (ks:=x.AO) (by omega) x.AW [] AA g1 S1 (by omega) (by simp;omega) ha h1
  simpa using this
 unfold qP
 rw [hx,bsm,e1,bsm,e2,bsm]
 dsimp only
 rw [e3,bsm]
 dsimp only
 by_cases o2:x.Op=2
 ·obtain⟨g',q1,q2⟩:=step _ _ (aCr h x.N);rw [a2a o2,a1Y,bsm,q1];exact⟨g',rfl,q2.congr fun i=>by simp only [nmN,nmO,a2d (show x.Op=2\/x.Op=6\/x.Op=8 from .inl o2),a1c,a1m];exact or_assoc⟩
 ·rw [a1Z o2,a1X];by_cases o6:x.Op=6\/x.Op=8
  ·obtain⟨g',q1,q2⟩:=step _ _ (aCr h x.N);rw [a2a o6,a1Y,bsm,q1];exact⟨g',rfl,q2.congr fun i=>by simp only [nmN,nmO,a2d (show x.Op=2\/x.Op=6\/x.Op=8 from .inr o6),a1c,a1m];exact or_assoc⟩
  ·obtain⟨g',q1,q2⟩:=step _ _ h;rw [a1Z o6,a1X,bsm,q1];exact⟨g',rfl,q2.congr fun i=>by simp only [nmN,nmO,a2c (show ¬ (x.Op=2\/x.Op=6\/x.Op=8)from fun q=>q.elim o2 o6),a1n]⟩
abbrev YN (L:Ae) (AA:Nat):Int->aG Int Bool->Option (aG Int Bool):=fun (x:Int) (t:aG Int Bool)=>qP AA L x t
abbrev RecB:=Int->(Int->aG Int Bool->Option (aG Int Bool))->aG Int Bool->Ae->Option (aG Int Bool × Bool)
def Vis1 (p:AI) (rec:RecB) (Y:Int->aG Int Bool->Option (aG Int Bool)) (L:Ae) (m:Int):Prop:=∀ g S,Has g S->∃ g',rec m Y g L=some (g',true)/\Has g' (fun i=>S i\/Occ p m i)
variable {p:AI} {rec:RecB} {Y:Int->aG Int Bool->Option (aG Int Bool)} {L:Ae}
theorem bl1 {ch:List An} {sp:List Am} (AC:List Ai):∀ (AB:List Ai) (k:Nat) (g:aG Int Bool) (S:Int->Prop),AC.length<k->AB.length+AC.length<=3000000->(∀ r∈AC,Vis1 p rec Y L r.AU)->Has g S ->
 ∃ g',oT rec Y L ⟨ch,sp,AB++AC⟩ k AB.length g=some (.inl g')/\Has g' (fun i=>S i\/∃ m∈AC.map (·.AU),Occ p m i):=by
 induction AC with
 | nil=>
  intro AB k g S hk _ _ h;obtain _ | k:=k
  ·omega
  rw [oT,a2c (by simp)];exact⟨g,rfl,h.congr fun i=>by simp⟩
 | cons e AC ih=>
  intro AB k g S hk hB hr h;obtain _ | k:=k
  ·omega
  simp only [a0S]at hk hB;obtain⟨g1,e1,h1⟩:=hr e (.head _) g S h;obtain⟨g2,e2,h2⟩:=ih (AB++[e]) k g1 _ (by omega) (by simp;omega) (fun x hx=>hr x (.tail _ hx)) h1
  refine⟨g2,?_,h2.congr fun i=>by simp only [a1a,a1f,exists_eq_or_imp];exact or_assoc⟩
  rw [oT,a2d (aV _ _ _),aX,bsm,e1,bsm];dsimp only
  rw [a1Y,aM (by omega),bsm,bA,aU,e2]
theorem bl2 {ch:List An} {ru:List Ai} (AC:List Am):∀ (AB:List Am) (k:Nat) (g:aG Int Bool) (S:Int->Prop),AC.length<k->AB.length+AC.length<=3000000->(∀ r∈AC,Vis1 p rec Y L r.AU)->Has g S ->
 ∃ g',oE rec Y L ⟨ch,AB++AC,ru⟩ k AB.length g=some (.inl g')/\Has g' (fun i=>S i\/∃ m∈AC.map (·.AU),Occ p m i):=by
 induction AC with
 | nil=>
  intro AB k g S hk _ _ h;obtain _ | k:=k
  ·omega
  rw [oE,a2c (by simp)];exact⟨g,rfl,h.congr fun i=>by simp⟩
 | cons e AC ih=>
  intro AB k g S hk hB hr h;obtain _ | k:=k
  ·omega
  simp only [a0S]at hk hB;obtain⟨g1,e1,h1⟩:=hr e (.head _) g S h;obtain⟨g2,e2,h2⟩:=ih (AB++[e]) k g1 _ (by omega) (by simp;omega) (fun x hx=>hr x (.tail _ hx)) h1
  refine⟨g2,?_,h2.congr fun i=>by simp only [a1a,a1f,exists_eq_or_imp];exact or_assoc⟩
  rw [oE,a2d (aV _ _ _),aX,bsm,e1,bsm];dsimp only
  rw [a1Y,aM (by omega),bsm,bA,aU,e2]
theorem bl3 {op nn:Int} {ar:List AT} (AC:List Int):∀ (AB:List Int) (k:Nat) (g:aG Int Bool) (S:Int->Prop),AC.length<k->AB.length+AC.length<=3000000->(∀ r∈AC,Vis1 p rec Y L r)->Has g S ->
 ∃ g',oL rec Y L ⟨op,nn,ar,AB++AC⟩ k AB.length g=some (.inl g')/\Has g' (fun i=>S i\/∃ m∈AC,Occ p m i):=by
 induction AC with
 | nil=>
  intro AB k g S hk _ _ h;obtain _ | k:=k
  ·omega
  rw [oL,a2c (by simp)];exact⟨g,rfl,h.congr fun i=>by simp⟩
 | cons e AC ih=>
  intro AB k g S hk hB hr h;obtain _ | k:=k
  ·omega
  simp only [a0S]at hk hB;obtain⟨g1,e1,h1⟩:=hr e (.head _) g S h;obtain⟨g2,e2,h2⟩:=ih (AB++[e]) k g1 _ (by omega) (by simp;omega) (fun x hx=>hr x (.tail _ hx)) h1
  refine⟨g2,?_,h2.congr fun i=>by simp only [a1f,exists_eq_or_imp];exact or_assoc⟩
  rw [oL,a2d (aV _ _ _),aX,bsm,e1,bsm];dsimp only
  rw [a1Y,aM (by omega),bsm,bA,aU,e2]
theorem okE_le {z:Int} {e:AT} (h:okE z e=true):nE e<=60:=by
 simp only [okE,a0k,a2b]at h
 exact h.2
theorem Ok1.exps {x:AV} {z:Int} (h:Ok1 p x z):∀ e∈x.AW,nE e<=60:=fun e he=>okE_le (a0t.1 h.args e he)
theorem below_p {sz:List Int} {rk:Int->Nat} (hp:Fm p sz rk) (hL:L.p=p) {f2:Nat} (hf2:3000000<f2):∀ (r AA:Nat) (n:Int) (x:AV) (z:Int),gF p sz rk n x z->rk n<r->3000000+r<=AA->Vis1 p (gP AA) (YN L f2) L n:=by
 intro r
 induction r with
 | zero=>intro AA n x z _ h;omega
 | succ r ih=>
  intro AA n x z G hr hf g S h;obtain _ | AA:=AA
  ·omega
  have hx:idx L.p.AD n=some x:=by rw [hL];exact G.node
  obtain⟨g1,e1,h1⟩:=b1_p (L:=L) (AA:=f2) hx hf2 (by have:=G.ok.la;omega) (fun e he=>by have:=G.ok.exps e he;omega) h
  have sub:∀ m∈kd p x,Vis1 p (gP AA) (YN L f2) L m:=fun m hm=>by
   obtain⟨w,hw⟩:=rF (z:=z) hm;obtain⟨q1,q2,y,q3⟩:=G.below _ hw;have hm0:=dF q1;obtain⟨_,x',z',G',_⟩:=hp.good m hm0.1 (by have:=hp.len;omega)
   exact ih AA m x' z' G' (by simp only at q2;omega) (by omega)
  have e1':YN L f2 n g=some g1:=e1;rw [gP,e1',bsm,hx,bsm];by_cases o4:x.Op=4
  ·rw [a2d o4];obtain⟨d,ed,okd⟩:=G.ok.def_ o4;have hlim:=eX okd;have ed':idx L.p.AF x.N=some d:=by rw [hL];exact ed
   have sub':=sub;simp only [kd,a2d o4,ed]at sub;obtain⟨g2,e2,h2⟩:=bl1 (ch:=d.AQ) (sp:=d.AS) d.AP [] AA g1 _ (by omega) (by simp;omega) (fun q hq=>sub q.AU (a1d _ (a1d _ (a1i.2 ⟨q,hq,rfl⟩)))) h1
   obtain⟨g3,e3,h3⟩:=bl2 (ch:=d.AQ) (ru:=d.AP) d.AS [] AA g2 _ (by omega) (by simp;omega) (fun q hq=>sub q.AU (a1d _ (a1e _ (a1i.2 ⟨q,hq,rfl⟩)))) h2
   obtain⟨g4,e4,h4⟩:=bl3 (op:=x.Op) (nn:=x.N) (ar:=x.AW) x.AO [] AA g3 _ (by have:=G.ok.lk;omega) (by have:=G.ok.lk;simp;omega) (fun q hq=>sub q (a1e _ hq)) h3
   simp only [a1n,a0W,a0q]at e2 e3 e4;rw [ed',bsm,e2,bsm];dsimp only
   rw [bsm,e3,bsm];dsimp only
   rw [show(⟨x.Op,x.N,x.AW,x.AO⟩:AV)=x from rfl]at e4;rw [e4,bsm];dsimp only
   refine⟨g4,rfl,h4.congr fun i=>?_⟩
   rw [zR G.node];simp only [kd,a2d o4,ed,a1c];constructor
   ·rintro((((h | h) | ⟨m,hm,h⟩) | ⟨m,hm,h⟩) | ⟨m,hm,h⟩)
    ·exact .inl h
    ·exact .inr (.inl h)
    ·exact .inr (.inr ⟨m, .inl (.inl hm),h⟩)
    ·exact .inr (.inr ⟨m, .inl (.inr hm),h⟩)
    ·exact .inr (.inr ⟨m, .inr hm,h⟩)
   ·rintro(h | h | ⟨m,(hm | hm) | hm,h⟩)
    ·exact .inl (.inl (.inl (.inl h)))
    ·exact .inl (.inl (.inl (.inr h)))
    ·exact .inl (.inl (.inr ⟨m,hm,h⟩))
    ·exact .inl (.inr ⟨m,hm,h⟩)
    ·exact .inr ⟨m,hm,h⟩
  ·rw [a2c o4,bsm];dsimp only
   simp only [kd,a2c o4]at sub;obtain⟨g4,e4,h4⟩:=bl3 (op:=x.Op) (nn:=x.N) (ar:=x.AW) x.AO [] AA g1 _ (by have:=G.ok.lk;omega) (by have:=G.ok.lk;simp;omega) (fun q hq=>sub q hq) h1
   simp only [a1n,a0W,a0q]at e4;rw [show(⟨x.Op,x.N,x.AW,x.AO⟩:AV)=x from rfl]at e4;rw [e4,bsm];dsimp only
   refine⟨g4,rfl,h4.congr fun i=>?_⟩
   rw [zR G.node];simp only [kd,a2c o4];exact or_assoc
theorem aCj {g:aG Int Bool} {S:Int->Prop} (h:Has g S) {z:Nat} (hz:z<=1000000):∀ (d i k:Nat) (acc:List Int),i+d=z->d<k->Srt acc->(∀ a∈acc,a<(i:Int))->acc.length<=i ->
 ∃ l,nJ g z k acc i=some l/\Srt l/\∀ a,a∈l ↔ a∈acc\/((i:Int)<=a/\a<(z:Int)/\S a)
 | 0,i,k,acc,hi,hk,hs,ha,hl=>by
  obtain _ | k:=k
  ·omega
  rw [nJ,a2c (by omega)];exact⟨acc,rfl,hs,fun a=>⟨.inl,fun q=>q.elim id fun q=>by omega⟩⟩
 | d+1,i,k,acc,hi,hk,hs,ha,hl=>by
  obtain _ | k:=k
  ·omega
  rw [nJ,a2d (by omega)];by_cases hS:S (i:Int)
  ·rw [(h _).1 hS,a1Q,a1Y,cX (by simp;omega),bsm,bsm,aM (by omega),bsm];obtain⟨l,e,q1,q2⟩:=aCj h hz d (i+1) k (acc++[(i:Int)]) (by omega) (by omega)
    (a1q.2 ⟨hs,a1t _ _,fun a ha' b hb=>by rw [a1m.1 hb];exact ha a ha'⟩)
    (fun a ha'=>by rcases a1c.1 ha' with q | q
                   ·have:=ha a q;omega
                   ·rw [a1m.1 q];omega) (by simp;omega)
   refine⟨l,e,q1,fun a=>?_⟩
   rw [q2,a1c,a1m];constructor
   ·rintro((q | rfl) | ⟨h1,h2,h3⟩)
    ·exact .inl q
    ·exact .inr ⟨by omega,by omega,hS⟩
    ·exact .inr ⟨by omega,h2,h3⟩
   ·rintro(q | ⟨h1,h2,h3⟩)
    ·exact .inl (.inl q)
    ·by_cases e0:a=(i:Int)
     ·exact .inl (.inr e0)
     ·exact .inr ⟨by omega,h2,h3⟩
  ·rw [(h _).2 hS,Option.getD_none,a1X,bsm,aM (by omega),bsm];obtain⟨l,e,q1,q2⟩:=aCj h hz d (i+1) k acc (by omega) (by omega) hs (fun a ha'=>by have:=ha a ha';omega) (by omega)
   refine⟨l,e,q1,fun a=>?_⟩
   rw [q2];constructor
   ·rintro(q | ⟨h1,h2,h3⟩)
    ·exact .inl q
    ·exact .inr ⟨by omega,h2,h3⟩
   ·rintro(q | ⟨h1,h2,h3⟩)
    ·exact .inl q
    ·by_cases e0:a=(i:Int)
     ·subst e0;exact absurd h3 hS
     ·exact .inr ⟨by omega,h2,h3⟩
def rS (p:AI) (n z:Int) (l:List Int):Prop:=Srt l/\∀ i,i∈l ↔ 0<=i/\i<z/\Occ p n i
theorem rS.uniq {n z:Int} {l m:List Int} (h:rS p n z l) (k:rS p n z m):l=m:=aBR h.1 k.1 fun i=>(h.2 i).trans (k.2 i).symm
theorem needs_p {sz:List Int} {rk:Int->Nat} (hp:Fm p sz rk) {AR AY:List Bool} {n:Int} {x:AV} {z:Int} (G:gF p sz rk n x z) (hz:z<=1000000):∃ l,tS F ⟨p,sz,AR,AY⟩ n=some l/\rS p n z l:=by
 have hn:=dF G.node
 obtain⟨hr,_⟩:=hp.good n hn.1 hn.2
 obtain⟨g,e1,h1⟩:=below_p (L:=⟨p,sz,AR,AY⟩) hp rfl (f2:=F) (by decide) 60 F n x z G hr (by decide) aG.none _ has_none
 have h0:=G.pos
 obtain⟨l,e2,q1,q2⟩:=aCj h1 (z:=z.toNat) (by omega) z.toNat 0 F [] (by omega) (by unfold F;omega) .nil (fun a h=>by cases h) (a1P _)
 refine⟨l,?_,q1,fun i=>?_⟩
 ·unfold tS aBl aA5;rw [bsm];dsimp only
  rw [e1,bsm,bsm,G.size,bsm];rw [a0s h0,a0q]at e2;rw [e2,bsm]
 ·rw [q2,a0s h0];simp only [List.not_mem_nil,false_or,a0q]
open Go.SX Go.SW Go.Dt
theorem add_scan {n:Int} (AC:List Int):∀ (AB:List Int) (k:Nat),AC.length<k->AB.length+AC.length<=900000000->(∀ a∈AB,a<n)->Srt (AB++AC) ->
 ∃ A B,AB++AC=A++B/\(∀ a∈A,a<n)/\(∀ b∈B,n<=b)/\zS (AB++AC) n k AB.length=some (A.length:Int):=by
 induction AC with
 | nil=>
  intro AB k hk _ hp _;obtain _ | k:=k
  ·omega
  rw [zS,a2c (by simp)];exact⟨AB,[],rfl,hp,fun b h=>(by cases h),rfl⟩
 | cons e AC ih=>
  intro AB k hk hB hp hs;obtain _ | k:=k
  ·omega
  simp only [a0S]at hk hB;rw [zS,a2d (aV _ _ _),aX,bsm];by_cases he:e<n
  ·rw [a2d he,aM (by omega),bsm,bA,aU];exact ih (AB++[e]) k (by omega) (by simp;omega) (fun a ha=>by
    rcases a1c.1 ha with q | q
    ·exact hp a q
    ·rw [a1m.1 q];exact he) (by rw [a0u];exact hs)
  ·rw [a2c he];refine⟨AB,e :: AC,rfl,hp,fun b hb=>?_,rfl⟩
   rcases a1f.1 hb with rfl | hb
   ·omega
   ·have:=(a1r.1 (a1q.1 hs).2.1).1 b hb;omega
theorem add_r {AA:Nat} {l:List Int} {n:Int} (hf:l.length<AA) (hB:l.length<=900000000) (hs:Srt l):∃ m,jL AA l n=some m/\Srt m/\∀ i,i∈m ↔ i∈l\/i=n:=by
 obtain⟨A,B,e,hA,hB2,h⟩:=add_scan (n:=n) l [] AA (by omega) (by simp;omega) (fun a h=>by cases h) hs
 simp only [a1n,a0W,a0q]at e h
 have hs':=hs
 rw [e]at hs'
 obtain⟨sA,sB,sAB⟩:=a1q.1 hs'
 have hl:l.length=A.length+B.length:=by rw [e,a0R]
 have go:Srt (A++(n :: B))->(n ∉ B)->∃ m,((slc l (A.length:Int) (l.length:Int)).bind fun y3=>(cQ ([n]++y3)).bind fun z2=>(slc l 0 (A.length:Int)).bind fun y4=>(cQ (([]:List Int)++y4)).bind fun z3=>(cQ (z3++z2)).bind fun z4=>some z4)=some m/\Srt m/\∀ i,i∈m ↔ i∈l\/i=n:=by
  intro hsm hn;have e1:slc l (A.length:Int) (l.length:Int)=some B:=by
   unfold slc;rw [a2d (by omega),a0r,a0r,a1w,e,List.drop_left]
  have e2:slc l 0 (A.length:Int)=some A:=by
   unfold slc;rw [a2d (by omega)];simp [e]
  rw [e1,bsm,cX (by simp;omega),bsm,e2,bsm,cX (by simp;omega),bsm,cX (by simp;omega),bsm];refine⟨_,rfl,hsm,fun i=>?_⟩
  rw [e];simp only [a1n,a0w,a1c,a1f];constructor
  ·rintro(q | q | q)
   ·exact .inl (.inl q)
   ·exact .inr q
   ·exact .inl (.inr q)
  ·rintro((q | q) | q)
   ·exact .inl q
   ·exact .inr (.inr q)
   ·exact .inr (.inl q)
 unfold jL
 rw [h,bsm]
 cases B with
 | nil=>
  rw [a2c (by simp at hl;omega),bsm];dsimp only
  exact go (a1q.2 ⟨sA,a1t _ _,fun a ha b hb=>by rw [a1m.1 hb];exact hA a ha⟩) (by simp)
 | cons b B=>
  have hb:=hB2 b (.head _);have ib:idx l (A.length:Int)=some b:=by rw [e];exact aX A B b
  rw [a2d (by simp at hl;omega),ib,bsm];by_cases hbn:b=n
  ·rw [a2d hbn,bsm,bsm];dsimp only
   refine⟨l,rfl,hs,fun i=>⟨.inl,fun q=>q.elim id fun q=>?_⟩⟩
   rw [q,<- hbn,e];exact a1e _ (.head _)
  ·rw [a2c hbn,bsm];dsimp only
   have hlt:∀ c∈b :: B,n<c:=fun c hc=>by
    rcases a1f.1 hc with rfl | hc
    ·omega
    ·have:=(a1r.1 sB).1 c hc;omega
   exact go (a1q.2 ⟨sA,a1r.2 ⟨hlt,sB⟩,fun a ha c hc=>by
    rcases a1f.1 hc with rfl | hc
    ·exact hA a ha
    ·exact sAB a ha c hc⟩) (fun q=>by have:=hlt n q;omega)
theorem kidsR1 {ch:List An} {sp:List Am} (AC:List Ai):∀ (AB:List Ai) (acc:List Int) (k:Nat),AC.length<k->AB.length+AC.length<=3000000->acc.length+AC.length<=900000000 ->
 xJ ⟨ch,sp,AB++AC⟩ k acc AB.length=some (acc++AC.map (·.AU)):=by
 induction AC with
 | nil=>
  intro AB acc k hk _ _;obtain _ | k:=k
  ·omega
  rw [xJ,a2c (by simp)];simp
 | cons e AC ih=>
  intro AB acc k hk hB hA;obtain _ | k:=k
  ·omega
  simp only [a0S]at hk hB hA;rw [xJ,a2d (aV _ _ _),aX,bsm,cX (by simp;omega),bsm,aM (by omega),bsm,bA,aU,ih (AB++[e]) (acc++[e.AU]) k (by omega) (by simp;omega) (by simp;omega)];simp
theorem kidsR2 {ch:List An} {ru:List Ai} (AC:List Am):∀ (AB:List Am) (acc:List Int) (k:Nat),AC.length<k->AB.length+AC.length<=3000000->acc.length+AC.length<=900000000 ->
 zL ⟨ch,AB++AC,ru⟩ k acc AB.length=some (acc++AC.map (·.AU)):=by
 induction AC with
 | nil=>
  intro AB acc k hk _ _;obtain _ | k:=k
  ·omega
  rw [zL,a2c (by simp)];simp
 | cons e AC ih=>
  intro AB acc k hk hB hA;obtain _ | k:=k
  ·omega
  simp only [a0S]at hk hB hA;rw [zL,a2d (aV _ _ _),aX,bsm,cX (by simp;omega),bsm,aM (by omega),bsm,bA,aU,ih (AB++[e]) (acc++[e.AU]) k (by omega) (by simp;omega) (by simp;omega)];simp
theorem kids_r {p:AI} {n:Int} {x:AV} {z:Int} {AA:Nat} (hx:idx p.AD n=some x) (ok:Ok1 p x z) (hf:3000<AA):aB1 AA p n=some (kd p x)/\(kd p x).length<=62:=by
 have:=ok.lk
 unfold aB1 kd
 rw [hx,bsm]
 by_cases o4:x.Op=4
 ·obtain⟨d,ed,okd⟩:=ok.def_ o4;have hl:=eX okd;rw [a2d o4,a2d o4,ed];dsimp only
  rw [bsm];have e1:=kidsR1 (ch:=d.AQ) (sp:=d.AS) d.AP [] [] AA (by omega) (by simp;omega) (by simp;omega)
  have e2:=kidsR2 (ch:=d.AQ) (ru:=d.AP) d.AS [] (d.AP.map (·.AU)) AA (by omega) (by simp;omega) (by simp;omega)
  simp only [a1n,a0W,a0q]at e1 e2;rw [e1,bsm,e2,bsm,cX (by simp;omega),bsm];exact⟨rfl,by simp;omega⟩
 ·rw [a2c o4,a2c o4,bsm,cX (by simp;omega),bsm];exact⟨rfl,by omega⟩
theorem aFv {p:AI} {sz:List Int} {rk:Int->Nat} (hp:Fm p sz rk) {n k:Int} (r:Rch p n k):(0<=n/\n<(p.AD.length:Int))->0<=k/\k<(p.AD.length:Int):=by
 induction r with
 | refl n=>exact id
 | step h hm _ ih=>
  intro hn;apply ih
  obtain⟨_,x,z,G,_⟩:=hp.good _ hn.1 hn.2;have hx:=G.node;rw [h]at hx;cases hx
  obtain⟨w,hw⟩:=rF (z:=z) hm;obtain⟨q1,_⟩:=G.below _ hw;have:=dF q1;have:=hp.len;simp only at *;omega
def Bel (p:AI) (rec:AI->List Int->Int->Option (List Int)) (m:Int):Prop:=∀ out,Srt out->(∀ i∈out,0<=i/\i<(p.AD.length:Int))->∃ l,rec p out m=some l/\Srt l/\∀ i,i∈l ↔ i∈out\/Rch p m i
theorem belR {p:AI} {rec:AI->List Int->Int->Option (List Int)} (hg:∀ m k,m∈(List.range p.AD.length).map (fun i:Nat=>(i:Int))->Rch p m k->0<=k/\k<(p.AD.length:Int)) (AC:List Int):∀ (AB out:List Int) (k:Nat),AC.length<k->AB.length+AC.length<=3000000 ->
 (∀ m∈AC,Bel p rec m/\m∈(List.range p.AD.length).map (fun i:Nat=>(i:Int)))->Srt out->(∀ i∈out,0<=i/\i<(p.AD.length:Int))->∃ l,vZ rec p (AB++AC) k out AB.length=some l/\Srt l/\∀ i,i∈l ↔ i∈out\/∃ m∈AC,Rch p m i:=by
 induction AC with
 | nil=>
  intro AB out k hk _ _ hs _;obtain _ | k:=k
  ·omega
  rw [vZ,a2c (by simp)];exact⟨out,rfl,hs,fun i=>by simp⟩
 | cons e AC ih=>
  intro AB out k hk hB hr hs ho;obtain _ | k:=k
  ·omega
  simp only [a0S]at hk hB;obtain⟨h1,h2⟩:=hr e (.head _);obtain⟨l1,e1,s1,m1⟩:=h1 out hs ho;obtain⟨l2,e2,s2,m2⟩:=ih (AB++[e]) l1 k (by omega) (by simp;omega) (fun m hm=>hr m (.tail _ hm)) s1 (fun i hi=>by
   rcases(m1 i).1 hi with q | q
   ·exact ho i q
   ·exact hg e i h2 q)
  refine⟨l2,?_,s2,fun i=>?_⟩
  ·rw [vZ,a2d (aV _ _ _),aX,bsm];rw [show(⟨p.AH,p.AD,p.AF,p.AG⟩:AI)=p from rfl,e1,bsm,aM (by omega),bsm,bA,aU,e2]
  ·rw [m2,m1];simp only [a1f,exists_eq_or_imp];exact or_assoc
theorem below_r {p:AI} {sz:List Int} {rk:Int->Nat} (hp:Fm p sz rk):∀ (r AA:Nat) (n:Int) (x:AV) (z:Int),gF p sz rk n x z->rk n<r->3000000+r<=AA->Bel p (vT AA) n:=by
 intro r
 induction r with
 | zero=>intro AA n x z _ h;omega
 | succ r ih=>
  intro AA n x z G hr hf out hs ho;obtain _ | AA:=AA
  ·omega
  have hn:=dF G.node;have h60:=hp.n60;have hl:=pL hs ho;obtain⟨l1,e1,s1,m1⟩:=add_r (AA:=AA) (n:=n) (by omega) (by omega) hs
  obtain⟨e2,hk⟩:=kids_r (AA:=AA) G.node G.ok (by omega)
  have sub:∀ m∈kd p x,Bel p (vT AA) m/\m∈(List.range p.AD.length).map (fun i:Nat=>(i:Int)):=fun m hm=>by
   obtain⟨w,hw⟩:=rF (z:=z) hm;obtain⟨q1,q2,y,q3⟩:=G.below _ hw;have hm0:=dF q1;have:=hp.len;obtain⟨_,x',z',G',_⟩:=hp.good m hm0.1 (by simp only at *;omega)
   refine⟨ih AA m x' z' G' (by simp only at q2;omega) (by omega),a1i.2 ⟨m.toNat,a1l.2 (by simp only at *;omega),by simp only at *;omega⟩⟩
  obtain⟨l2,e3,s2,m2⟩:=belR (fun m k hm hr=>by
   obtain⟨j,hj,rfl⟩:=a1i.1 hm;have:=a1l.1 hj;exact aFv hp hr ⟨by omega,by omega⟩) (kd p x) [] l1 AA (by omega) (by simp;omega) sub s1 (fun i hi=>by
    rcases(m1 i).1 hi with q | q
    ·exact ho i q
    ·rw [q];exact hn)
  simp only [a1n,a0W,a0q]at e3;refine⟨l2,?_,s2,fun i=>?_⟩
  ·rw [vT,e1,bsm,show(⟨p.AH,p.AD,p.AF,p.AG⟩:AI)=p from rfl,e2,bsm,e3,bsm]
  ·rw [m2,m1,aEb G.node];exact or_assoc
theorem nm_in {s:Int}:(∀ (e:AT),fE s e=true->∀ i∈nmE e,0<=i/\i<s)/\∀ (ks:List AT),fL s ks=true->∀ i∈nmL ks,0<=i/\i<s:=⟨go,goL⟩
where
 go:∀ (e:AT),fE s e=true->∀ i∈nmE e,0<=i/\i<s
  | ⟨op,n,ks⟩,h,i,hi=>by
   simp only [fE,a0k]at h;simp only [nmE,a1c]at hi;rcases hi with hi | hi
   ·split at hi
    ·rename_i o2;rw [a1m.1 hi];have h1:=h.1;simp [loc,o2]at h1;omega
    ·cases hi
   ·exact goL ks h.2 i hi
 goL:∀ (ks:List AT),fL s ks=true->∀ i∈nmL ks,0<=i/\i<s
  | [],_,i,hi=>by cases hi
  | k :: ks,h,i,hi=>by
   simp only [fL,a0k]at h;simp only [nmL,a1c]at hi;rcases hi with hi | hi
   ·exact go k h.1 i hi
   ·exact goL ks h.2 i hi
theorem aHe {s:Int}:∀ {ks:List AT},ks.all (okE s)=true->∀ i∈nmL ks,0<=i/\i<s
 | [],_,i,hi=>by cases hi
 | k :: ks,h,i,hi=>by
  simp only [List.all_cons,a0k]at h;simp only [nmL,a1c]at hi;rcases hi with hi | hi
  ·have h1:=h.1;simp only [okE,a0k]at h1;exact nm_in.1 k h1.1.1 i hi
  ·exact aHe h.2 i hi
theorem Ok1.names {p:AI} {x:AV} {z:Int} (h:Ok1 p x z):∀ i∈nmN x,0<=i/\i<z:=by
 intro i hi
 simp only [nmN,a1c]at hi
 rcases hi with hi | hi
 ·unfold nmO at hi;split at hi
  ·rename_i o;rw [a1m.1 hi];exact h.name o
  ·cases hi
 ·exact aHe h.args i hi
def AddR (z:Int) (o:Option (List Int)) (out ns:List Int):Prop:=∃ l,o=some l/\Srt l/\(∀ i,i∈l ↔ i∈out\/(i∈ns/\i<z))/\∀ i∈l,0<=i/\i<z
theorem aH2 {rec:List Int->AT->Int->Option (List Int)} {op n z:Int} (AC:List AT):∀ (AB:List AT) (out:List Int) (k:Nat),AC.length<k->AB.length+AC.length<=3000000 ->
 (∀ e∈AC,∀ out,Srt out->(∀ i∈out,0<=i/\i<z)->AddR z (rec out e z) out (nmE e))->Srt out->(∀ i∈out,0<=i/\i<z)->AddR z (sX rec ⟨op,n,AB++AC⟩ z k out AB.length) out (nmL AC):=by
 induction AC with
 | nil=>
  intro AB out k hk _ _ hs ho;obtain _ | k:=k
  ·omega
  rw [sX,a2c (by simp)];exact⟨out,rfl,hs,fun i=>by simp [nmL],ho⟩
 | cons e AC ih=>
  intro AB out k hk hB hr hs ho;obtain _ | k:=k
  ·omega
  simp only [a0S]at hk hB;obtain⟨l1,e1,s1,m1,b1⟩:=hr e (.head _) out hs ho;obtain⟨l2,e2,s2,m2,b2⟩:=ih (AB++[e]) l1 k (by omega) (by simp;omega) (fun x hx=>hr x (.tail _ hx)) s1 b1
  refine⟨l2,?_,s2,fun i=>?_,b2⟩
  ·rw [sX,a2d (aV _ _ _),aX,bsm,e1,bsm,aM (by omega),bsm,bA,aU,e2]
  ·rw [m2,m1];simp only [nmL,a1c];constructor
   ·rintro((q | ⟨q,r⟩) | ⟨q,r⟩)
    ·exact .inl q
    ·exact .inr ⟨.inl q,r⟩
    ·exact .inr ⟨.inr q,r⟩
   ·rintro(q | ⟨q | q,r⟩)
    ·exact .inl (.inl q)
    ·exact .inl (.inr ⟨q,r⟩)
    ·exact .inr ⟨q,r⟩
theorem aHW {AA:Nat} {z n:Int} {out:List Int} (hz:z<=1000000) (hf:1000001<AA) (hs:Srt out) (ho:∀ i∈out,0<=i/\i<z) (h0:0<=n) (hn:n<z):AddR z (jL AA out n) out [n]:=by
 have hl:=pL hs ho
 obtain⟨l,e,s1,m⟩:=add_r (AA:=AA) (l:=out) (n:=n) (by omega) (by omega) hs
 refine⟨l,e,s1,fun i=>?_,fun i hi=>?_⟩
 ·rw [m,a1m];constructor
  ·rintro(q | rfl)
   ·exact .inl q
   ·exact .inr ⟨rfl,hn⟩
  ·rintro(q | ⟨q,_⟩)
   ·exact .inl q
   ·exact .inr q
 ·rcases(m i).1 hi with q | rfl
  ·exact ho i q
  ·exact⟨h0,hn⟩
theorem need_r {z w:Int} (hz:z<=1000000) (AA:Nat):∀ (e:AT) (out:List Int),1000001+nE e<AA->nE e<=2000000->fE w e=true->Srt out->(∀ i∈out,0<=i/\i<z)->AddR z (sY AA out e z) out (nmE e):=by
 induction AA with
 | zero=>intro e out h;omega
 | succ AA ih=>
  intro ⟨op,n,ks⟩ out hf hB hok hs ho
  simp only [nE]at hf hB;simp only [fE,a0k]at hok;have hlen:=qF ks;have hfl:∀ e∈ks,fE w e=true:=fun e he=>by
   have:=hok.2;clear ih hf hB hlen hok;induction ks with
   | nil=>cases he
   | cons k ks ih=>
    simp only [fL,a0k]at this;rcases a1f.1 he with rfl | he
    ·exact this.1
    ·exact ih he this.2
  have step:∀ o1,Srt o1->(∀ i∈o1,0<=i/\i<z)->AddR z (sX (sY AA) ⟨op,n,ks⟩ z AA o1 0) o1 (nmL ks):=fun o1 h1 h2=>by
   have:=aH2 (rec:=sY AA) (op:=op) (n:=n) (z:=z) ks [] o1 AA (by omega) (by simp;omega) (fun e he out hs ho=>ih e out (by have:=gV he;omega) (by have:=gV he;omega) (hfl e he) hs ho) h1 h2
   simpa using this
  rw [sY];dsimp only
  by_cases o2:op=2
  ·rw [a2d o2];have h1:=hok.1;simp [loc,o2]at h1;by_cases hn:n<z
   ·obtain⟨l1,e1,s1,m1,b1⟩:=aHW (AA:=AA) hz (by omega) hs ho h1.1 hn
    obtain⟨l2,e2,s2,m2,b2⟩:=step l1 s1 b1;rw [a2d hn,e1,bsm,bsm,e2,bsm];refine⟨l2,rfl,s2,fun i=>?_,b2⟩
    rw [m2,m1];simp only [nmE,a2d o2,a1c];constructor
    ·rintro((q | ⟨q,r⟩) | ⟨q,r⟩)
     ·exact .inl q
     ·exact .inr ⟨.inl q,r⟩
     ·exact .inr ⟨.inr q,r⟩
    ·rintro(q | ⟨q | q,r⟩)
     ·exact .inl (.inl q)
     ·exact .inl (.inr ⟨q,r⟩)
     ·exact .inr ⟨q,r⟩
   ·obtain⟨l2,e2,s2,m2,b2⟩:=step out hs ho;rw [a2c hn,bsm,e2,bsm];refine⟨l2,rfl,s2,fun i=>?_,b2⟩
    rw [m2];simp only [nmE,a2d o2,a1c,a1m];constructor
    ·rintro(q | ⟨q,r⟩)
     ·exact .inl q
     ·exact .inr ⟨.inr q,r⟩
    ·rintro(q | ⟨q | q,r⟩)
     ·exact .inl q
     ·subst q;exact absurd r hn
     ·exact .inr ⟨q,r⟩
  ·obtain⟨l2,e2,s2,m2,b2⟩:=step out hs ho;rw [a2c o2,bsm,e2,bsm];exact⟨l2,rfl,s2,fun i=>by rw [m2];simp only [nmE,a2c o2,a1n],b2⟩
theorem needs2 {z w:Int} (hz:z<=1000000) {AA:Nat} (hf:4000000<AA) {op nn:Int} {ks:List Int} (AC:List AT):∀ (AB:List AT) (out:List Int) (k:Nat),AC.length<k->AB.length+AC.length<=3000000->AC.all (okE w)=true->Srt out->(∀ i∈out,0<=i/\i<z) ->
 AddR z (pJ AA z ⟨op,nn,AB++AC,ks⟩ k out AB.length) out (nmL AC):=by
 induction AC with
 | nil=>
  intro AB out k hk _ _ hs ho;obtain _ | k:=k
  ·omega
  rw [pJ,a2c (by simp)];exact⟨out,rfl,hs,fun i=>by simp [nmL],ho⟩
 | cons e AC ih=>
  intro AB out k hk hB hr hs ho;obtain _ | k:=k
  ·omega
  simp only [a0S]at hk hB;simp only [List.all_cons,a0k]at hr;have h1:=hr.1;simp only [okE,a0k,a2b]at h1;obtain⟨l1,e1,s1,m1,b1⟩:=need_r hz AA e out (by omega) (by omega) h1.1.1 hs ho
  obtain⟨l2,e2,s2,m2,b2⟩:=ih (AB++[e]) l1 k (by omega) (by simp;omega) hr.2 s1 b1
  refine⟨l2,?_,s2,fun i=>?_,b2⟩
  ·rw [pJ,a2d (aV _ _ _),aX,bsm,e1,bsm,aM (by omega),bsm,bA,aU,e2]
  ·rw [m2,m1];simp only [nmL,a1c];constructor
   ·rintro((q | ⟨q,r⟩) | ⟨q,r⟩)
    ·exact .inl q
    ·exact .inr ⟨.inl q,r⟩
    ·exact .inr ⟨.inr q,r⟩
   ·rintro(q | ⟨q | q,r⟩)
    ·exact .inl (.inl q)
    ·exact .inl (.inr ⟨q,r⟩)
    ·exact .inr ⟨q,r⟩
theorem node_r {p:AI} {x:AV} {z w:Int} (ok:Ok1 p x w) (hz:z<=1000000) {AA:Nat} (hf:4000000<AA) {out:List Int} (hs:Srt out) (ho:∀ i∈out,0<=i/\i<z):
 AddR z ((if x.Op=2 then
  if x.N<z then
   (jL AA out x.N).bind fun y6=>
   some y6
  else
   some out
 else
  if x.Op=6 then
   if x.N<z then
    (jL AA out x.N).bind fun y7=>
    some y7
   else
    some out
  else
   if x.Op=8 then
    if x.N<z then
     (jL AA out x.N).bind fun y8=>
     some y8
    else
     some out
   else
    some out).bind fun x7=>
 pJ AA z x AA x7 0) out (nmN x):=by
 have step:∀ o1,Srt o1->(∀ i∈o1,0<=i/\i<z)->AddR z (pJ AA z x AA o1 0) o1 (nmL x.AW):=fun o1 h1 h2=>by
  have:=needs2 (w:=w) hz hf (op:=x.Op) (nn:=x.N) (ks:=x.AO) x.AW [] o1 AA (by have:=ok.la;omega) (by have:=ok.la;simp;omega) ok.args h1 h2
  simpa using this
 have yes:x.Op=2\/x.Op=6\/x.Op=8->AddR z ((if x.N<z then(jL AA out x.N).bind fun y6=>some y6 else some out).bind fun x7=>pJ AA z x AA x7 0) out (nmN x):=fun o=>by
  have hn0:=(ok.name o).1;by_cases hn:x.N<z
  ·obtain⟨l1,e1,s1,m1,b1⟩:=aHW (AA:=AA) hz (by omega) hs ho hn0 hn
   obtain⟨l2,e2,s2,m2,b2⟩:=step l1 s1 b1;rw [a2d hn,e1,bsm,bsm,e2];refine⟨l2,rfl,s2,fun i=>?_,b2⟩
   rw [m2,m1];simp only [nmN,nmO,a2d o,a1c];constructor
   ·rintro((q | ⟨q,r⟩) | ⟨q,r⟩)
    ·exact .inl q
    ·exact .inr ⟨.inl q,r⟩
    ·exact .inr ⟨.inr q,r⟩
   ·rintro(q | ⟨q | q,r⟩)
    ·exact .inl (.inl q)
    ·exact .inl (.inr ⟨q,r⟩)
    ·exact .inr ⟨q,r⟩
  ·obtain⟨l2,e2,s2,m2,b2⟩:=step out hs ho;rw [a2c hn,bsm,e2];refine⟨l2,rfl,s2,fun i=>?_,b2⟩
   rw [m2];simp only [nmN,nmO,a2d o,a1c,a1m];constructor
   ·rintro(q | ⟨q,r⟩)
    ·exact .inl q
    ·exact .inr ⟨.inr q,r⟩
   ·rintro(q | ⟨q | q,r⟩)
    ·exact .inl q
    ·subst q;exact absurd r hn
    ·exact .inr ⟨q,r⟩
 by_cases o2:x.Op=2
 ·rw [a2d o2];exact yes (.inl o2)
 ·rw [a2c o2];by_cases o6:x.Op=6
  ·rw [a2d o6];exact yes (.inr (.inl o6))
  ·rw [a2c o6];by_cases o8:x.Op=8
   ·rw [a2d o8];exact yes (.inr (.inr o8))
   ·rw [a2c o8,bsm];obtain⟨l2,e2,s2,m2,b2⟩:=step out hs ho;refine⟨l2,e2,s2,fun i=>?_,b2⟩
    rw [m2];simp only [nmN,nmO,a2c (show ¬ (x.Op=2\/x.Op=6\/x.Op=8)from fun q=>q.elim o2 fun q=>q.elim o6 o8),a1n]
theorem nodes_r {p:AI} {z:Int} (hz:z<=1000000) {AA:Nat} (hf:4000000<AA) (AC:List Int):∀ (AB out:List Int) (k:Nat),AC.length<k->AB.length+AC.length<=3000000->(∀ m∈AC,∃ x w,idx p.AD m=some x/\Ok1 p x w)->Srt out->(∀ i∈out,0<=i/\i<z) ->
 ∃ l,xQ AA p z (AB++AC) k out AB.length=some l/\Srt l/\(∀ i,i∈l ↔ i∈out\/((∃ m∈AC,∃ x,idx p.AD m=some x/\i∈nmN x)/\i<z))/\∀ i∈l,0<=i/\i<z:=by
 induction AC with
 | nil=>
  intro AB out k hk _ _ hs ho;obtain _ | k:=k
  ·omega
  rw [xQ,a2c (by simp)];exact⟨out,rfl,hs,fun i=>by simp,ho⟩
 | cons e AC ih=>
  intro AB out k hk hB hr hs ho;obtain _ | k:=k
  ·omega
  simp only [a0S]at hk hB;obtain⟨x,w,hx,ok⟩:=hr e (.head _);obtain⟨l1,e1,s1,m1,b1⟩:=node_r ok hz hf hs ho;obtain⟨l2,e2,s2,m2,b2⟩:=ih (AB++[e]) l1 k (by omega) (by simp;omega) (fun m hm=>hr m (.tail _ hm)) s1 b1
  refine⟨l2,?_,s2,fun i=>?_,b2⟩
  ·rw [xQ,a2d (aV _ _ _),aX,bsm,hx,bsm,e1,bsm,aM (by omega),bsm,bA,aU,e2]
  ·rw [m2,m1];simp only [a1f,exists_eq_or_imp];constructor
   ·rintro((q | ⟨q,r⟩) | ⟨q,r⟩)
    ·exact .inl q
    ·exact .inr ⟨.inl ⟨x,hx,q⟩,r⟩
    ·exact .inr ⟨.inr q,r⟩
   ·rintro(q | ⟨⟨y,hy,q⟩ | q,r⟩)
    ·exact .inl (.inl q)
    ·rw [hx]at hy;cases hy;exact .inl (.inr ⟨q,r⟩)
    ·exact .inr ⟨q,r⟩
theorem aGq {f:Nat} (hf:4000100<f) {p:AI} (hp:SmP p) {s:VS} (hc:dZ p=some s) {rk:Int->Nat} (hm:Fm p s.sz rk) {n:Int} {x:AV} {z:Int} (G:gF p s.sz rk n x z) (hz:z<=1000000):∃ l,kW f p n=some l/\rS p n z l:=by
 have hn:=dF G.node
 obtain⟨hr,_⟩:=hm.good n hn.1 hn.2
 have h60:=hm.n60
 obtain⟨l1,e1,s1,m1⟩:=below_r hm 60 f n x z G hr (by omega) [] .nil (fun i h=>by cases h)
 have hb:∀ i∈l1,0<=i/\i<(p.AD.length:Int):=fun i hi=>by
  rcases(m1 i).1 hi with q | q
  ·cases q
  ·exact aFv hm q hn
 have hl:=pL s1 hb
 obtain⟨l2,e2,s2,m2,b2⟩:=nodes_r (p:=p) hz (AA:=f) (by omega) l1 [] [] f (by omega) (by simp;omega) (fun m hmm=>by
  obtain⟨_,y,w,G',_⟩:=hm.good m (hb m hmm).1 (hb m hmm).2;exact⟨y,w,G'.node,G'.ok⟩) .nil (fun i h=>by cases h)
 simp only [a1n,a0W,a0q]at e2
 refine⟨l2,?_,s2,fun i=>?_⟩
 ·unfold kW aFr;rw [show(⟨p.AH,p.AD,p.AF,p.AG⟩:AI)=p from rfl,aFe hp hc (by omega),bsm,G.size,bsm,e1,bsm,bsm,e2,bsm]
 ·constructor
  ·intro hi;refine⟨(b2 i hi).1,(b2 i hi).2,?_⟩;rcases(m2 i).1 hi with q | ⟨⟨m,hmm,y,hy,q⟩,_⟩
   ·cases q
   ·rcases(m1 m).1 hmm with r | r
    ·cases r
    ·exact⟨m,y,r,hy,q⟩
  ·rintro⟨h0,h1,k,y,r,hy,q⟩
   exact(m2 i).2 (.inr ⟨⟨k,(m1 k).2 (.inr r),y,hy,q⟩,h1⟩)
open Go.SX Go.SW Go.Dt
theorem aEZ {d:Array Int} (hd:∀ i j,i<=j->j<d.size->d[i]! <=d[j]!):∀ m,m<=d.size->Srt (Go.Lib.compactUpTo d m)/\(∀ a∈Go.Lib.compactUpTo d m,∃ j,j<m/\d[j]! =a)/\(∀ j,j<m->d[j]! ∈Go.Lib.compactUpTo d m)
 | 0,_=>⟨by simp [Go.Lib.compactUpTo],fun a h=>by simp [Go.Lib.compactUpTo]at h,fun j h=>by omega⟩
 | m+1,hm=>by
  obtain⟨h1,h2,h3⟩:=aEZ hd m (by omega)
  rw [Go.Lib.compactUpTo_succ];by_cases hk:m=0\/d[m]! ≠d[m - 1]!
  ·rw [a2d (by simpa [Go.Lib.keeps] using hk)];refine⟨a1q.2 ⟨h1,a1t _ _,fun a ha b hb=>?_⟩,fun a ha=>?_,fun j hj=>?_⟩
   ·rw [a1m.1 hb];obtain⟨j,hj,rfl⟩:=h2 a ha;have q1:=hd j (m - 1) (by omega) (by omega)
    have q2:=hd (m - 1) m (by omega) (by omega)
    rcases hk with hk | hk
    ·omega
    ·omega
   ·rcases a1c.1 ha with q | q
    ·obtain⟨j,hj,e⟩:=h2 a q;exact⟨j,by omega,e⟩
    ·exact⟨m,by omega,(a1m.1 q).symm⟩
   ·by_cases e:j=m
    ·subst e;exact a1e _ (.head _)
    ·exact a1d _ (h3 j (by omega))
  ·rw [a2c (by simpa [Go.Lib.keeps] using hk),a0v];have hk':m≠0/\d[m]! =d[m - 1]! :=⟨fun q=>hk (.inl q),Classical.byContradiction fun q=>hk (.inr q)⟩
   refine⟨h1,fun a ha=>?_,fun j hj=>?_⟩
   ·obtain⟨j,hj,e⟩:=h2 a ha;exact⟨j,by omega,e⟩
   ·by_cases e:j=m
    ·subst e;rw [hk'.2];exact h3 _ (by omega)
    ·exact h3 j (by omega)
theorem aKh (l:List Int):Srt (Go.Lib.compact (eU l))/\∀ i,i∈Go.Lib.compact (eU l) ↔ i∈l:=by
 have hs:(eU l).Pairwise (fun a b=>a<=b):=by
  have:=List.pairwise_mergeSort (le:=fun x y:Int=>decide (x<=y)) (fun a b c h1 h2=>by simp at *;omega) (fun a b=>by simp;omega) l
  exact this.imp fun h=>by simpa using h
 have hd:∀ i j,i<=j->j<(eU l).toArray.size->(eU l).toArray[i]! <=(eU l).toArray[j]! :=fun i j hij hj=>by
  have hj':j<(eU l).length:=by simpa using hj
  have hi':i<(eU l).length:=by omega
  rcases a1J i j with h | h
  ·have:=(a1s.1 hs) i j hi' hj' h;simpa [hi',hj'] using this
  ·have:i=j:=by omega
   subst this;exact Int.le_refl _
 obtain⟨h1,h2,h3⟩:=aEZ hd (eU l).length (by simp)
 refine⟨h1,fun i=>?_⟩
 have hm:i∈eU l ↔ i∈l:=List.mem_mergeSort
 rw [<- hm]
 constructor
 ·intro h;obtain⟨j,hj,rfl⟩:=h2 i h;simp [hj]
 ·intro h;obtain⟨j,hj,rfl⟩:=List.mem_iff_getElem.1 h;have:=h3 j hj;show(eU l)[j]∈Go.Lib.compactUpTo (eU l).toArray (eU l).length
  simpa [hj] using this
structure Cx (p:AI) (s:VS) (rk:Int->Nat):Prop where
 sm:SmP p
 chk_:dZ p=some s
 fm:Fm p s.sz rk
def bB (p:AI) (n:Int):List Int:=(kW F p n).getD []
structure NeedB (p:AI) (s:VS) (n z:Int):Prop where
 r:∀ f,4000100<f->kW f p n=some (bB p n)
 p_:tS F ⟨p,s.sz,s.AR,s.AY⟩ n=some (bB p n)
 is:rS p n z (bB p n)
 len:((bB p n).length:Int)<=z
variable {p:AI} {s:VS} {rk:Int->Nat}
theorem Cx.need (C:Cx p s rk) {n:Int} (h0:0<=n) (h1:n<(p.AD.length:Int)):∃ x z,gF p s.sz rk n x z/\z<=6012/\NeedB p s n z:=by
 obtain⟨_,x,z,G,hz⟩:=C.fm.good n h0 h1
 obtain⟨l,e1,i1⟩:=aGq (f:=F) (by decide) C.sm C.chk_ C.fm G (by omega)
 have hall:∀ f,4000100<f->kW f p n=some l:=fun f hf=>by
  obtain⟨l',e1',i1'⟩:=aGq hf C.sm C.chk_ C.fm G (by omega)
  rw [i1.uniq i1'];exact e1'
 obtain⟨m,e2,i2⟩:=needs_p C.fm (AR:=s.AR) (AY:=s.AY) G (by omega)
 have hl:bB p n=l:=by simp [bB,e1]
 have hm:m=l:=i2.uniq i1
 have:=pL i1.1 (a:=0) (b:=z) fun i hi=>⟨((i1.2 i).1 hi).1,((i1.2 i).1 hi).2.1⟩
 have:=G.pos
 exact⟨x,z,G,hz,⟨by rw [hl];exact hall,by rw [hl,<- hm];exact e2,by rw [hl];exact i1,by rw [hl];omega⟩⟩
def gX (p:AI):List (List Int):=(List.range p.AD.length).map fun (i:Nat)=>bB p i
theorem aCg {n:Int} (h0:0<=n) (h1:n<(p.AD.length:Int)):idx (gX p) n=some (bB p n):=by
 have:idx (gX p) (n.toNat:Int)=some (bB p n):=iP (by
  unfold gX;rw [a0L,List.getElem?_range (by omega),a1S,a0s h0])
 rwa [a0s h0]at this
theorem aFi (C:Cx p s rk):∀ (d i k:Nat),i+d=p.AD.length->d<k->mN ⟨p,s.sz,s.AR,s.AY⟩ p (fun x=>tA F x.1 x.2) k ((gX p).take i) i=some (gX p)
 | 0,i,k,h,hk=>by
  obtain _ | k:=k
  ·omega
  rw [mN,a2c (by omega),a1x (by simp [gX];omega)]
 | d+1,i,k,h,hk=>by
  obtain _ | k:=k
  ·omega
  have hi:i<p.AD.length:=by omega
  obtain⟨x,z,G,_,N⟩:=C.need (n:=(i:Int)) (by omega) (by omega)
  have h60:=C.fm.n60;rw [mN,a2d (by omega)];simp only [tA];rw [N.p_,bsm,bsm];have e:(gX p).take i++[bB p i]=(gX p).take (i+1):=by
   rw [List.take_add_one];simp [gX,hi]
  rw [e,cX (by simp [gX];omega),bsm,aM (by omega),bsm];exact aFi C d (i+1) k (by omega) (by omega)
theorem needs_S (C:Cx p s rk):aAa F p=some (gX p,0):=by
 have e:=aFi C p.AD.length 0 F (by omega) (by have:=C.fm.n60;unfold F;omega)
 rw [List.take_zero,a0q]at e
 rw [aAa,aBn,aBB,show(⟨p.AH,p.AD,p.AF,p.AG⟩:AI)=p from rfl,aDO C.sm,bsm,C.chk_]
 simp only [iW]
 rw [yR,e,bsm,bsm,bsm,bsm]
def aZ (p:AI) (n:Int):List Int:=(nG F p n).getD []
def dks (d:AN):List Int:=d.AP.map (·.AU)++d.AS.map (·.AU)
def rO (p:AI) (d:AN) (z:Int) (l:List Int):Prop:=Srt l/\∀ i,i∈l ↔ 0<=i/\i<z/\∃ m∈dks d,i∈bB p m
theorem rO.uniq {d:AN} {z:Int} {l m:List Int} (h:rO p d z l) (k:rO p d z m):l=m:=aBR h.1 k.1 fun i=>(h.2 i).trans (k.2 i).symm
theorem want1 {f:Nat} {ch:List An} {sp:List Am} (AC:List Ai):∀ (AB:List Ai) (acc:List Int) (k:Nat),AC.length<k->AB.length+AC.length<=3000000->acc.length+6012*AC.length<=900000000->(∀ r∈AC,kW f p r.AU=some (bB p r.AU)/\(bB p r.AU).length<=6012) ->
 zC f p ⟨ch,sp,AB++AC⟩ k acc AB.length=some (acc++(AC.map (·.AU)).flatMap (bB p)):=by
 induction AC with
 | nil=>
  intro AB acc k hk _ _ _;obtain _ | k:=k
  ·omega
  rw [zC,a2c (by simp)];simp
 | cons e AC ih=>
  intro AB acc k hk hB hA hr;obtain _ | k:=k
  ·omega
  simp only [a0S]at hk hB hA;obtain⟨h1,h2⟩:=hr e (.head _);rw [zC,a2d (aV _ _ _),aX,bsm,show(⟨p.AH,p.AD,p.AF,p.AG⟩:AI)=p from rfl,h1,bsm,cX (by simp;omega),bsm,aM (by omega),bsm,bA,aU,
   ih (AB++[e]) (acc++bB p e.AU) k (by omega) (by simp;omega) (by simp;omega) (fun r hr'=>hr r (.tail _ hr'))]
  simp
theorem want2 {f:Nat} {ch:List An} {ru:List Ai} (AC:List Am):∀ (AB:List Am) (acc:List Int) (k:Nat),AC.length<k->AB.length+AC.length<=3000000->acc.length+6012*AC.length<=900000000->(∀ r∈AC,kW f p r.AU=some (bB p r.AU)/\(bB p r.AU).length<=6012) ->
 zW f p ⟨ch,AB++AC,ru⟩ k acc AB.length=some (acc++(AC.map (·.AU)).flatMap (bB p)):=by
 induction AC with
 | nil=>
  intro AB acc k hk _ _ _;obtain _ | k:=k
  ·omega
  rw [zW,a2c (by simp)];simp
 | cons e AC ih=>
  intro AB acc k hk hB hA hr;obtain _ | k:=k
  ·omega
  simp only [a0S]at hk hB hA;obtain⟨h1,h2⟩:=hr e (.head _);rw [zW,a2d (aV _ _ _),aX,bsm,show(⟨p.AH,p.AD,p.AF,p.AG⟩:AI)=p from rfl,h1,bsm,cX (by simp;omega),bsm,aM (by omega),bsm,bA,aU,
   ih (AB++[e]) (acc++bB p e.AU) k (by omega) (by simp;omega) (by simp;omega) (fun r hr'=>hr r (.tail _ hr'))]
  simp
def kS (u:List Bool) (S:Int->Prop) (z:Nat):Prop:=u.length=z/\∀ i:Int,0<=i->i<z->(S i->idx u i=some true)/\(¬ S i->idx u i=some false)
theorem want3 {z:Nat} (AC:List Int):∀ (AB:List Int) (u:List Bool) (S:Int->Prop) (k:Nat),AC.length<k->AB.length+AC.length<=900000000->(∀ i∈AC,0<=i)->kS u S z ->
 ∃ u',vF z (AB++AC) k u AB.length=some u'/\kS u' (fun i=>S i\/i∈AC) z:=by
 induction AC with
 | nil=>
  intro AB u S k hk _ _ h;obtain _ | k:=k
  ·omega
  rw [vF,a2c (by simp)];exact⟨u,rfl,h.1,fun i h0 h1=>⟨fun q=>(h.2 i h0 h1).1 (q.elim id fun q=>by cases q),fun q=>(h.2 i h0 h1).2 fun r=>q (.inl r)⟩⟩
 | cons e AC ih=>
  intro AB u S k hk hB hr h;obtain _ | k:=k
  ·omega
  simp only [a0S]at hk hB;have h0:=hr e (.head _);have next:∀ u1,kS u1 (fun i=>S i\/i=e) z->∃ u',vF z (AB++e :: AC) k u1 ((AB.length:Int)+1)=some u'/\kS u' (fun i=>S i\/i∈e :: AC) z:=fun u1 h1=>by
   obtain⟨u2,e2,h2⟩:=ih (AB++[e]) u1 _ k (by omega) (by simp;omega) (fun i hi=>hr i (.tail _ hi)) h1
   refine⟨u2,by rw [bA,aU];exact e2,h2.1,fun i q0 q1=>⟨fun q=>(h2.2 i q0 q1).1 ?_,fun q=>(h2.2 i q0 q1).2 fun r=>q ?_⟩⟩
   ·rcases q with q | q
    ·exact .inl (.inl q)
    ·rcases a1f.1 q with q | q
     ·exact .inl (.inr q)
     ·exact .inr q
   ·rcases r with(r | r) | r
    ·exact .inl r
    ·exact .inr (r ▸ .head _)
    ·exact .inr (.tail _ r)
  rw [vF,a2d (aV _ _ _),aX,bsm];by_cases hz:e<(z:Int)
  ·obtain⟨b,hb⟩:=eS (xs:=u) h0 (by rw [h.1];exact hz)
   rw [a2d hz,bsm,hb,bsm,bsm,aM (by omega),bsm];refine next _ ⟨by simp [h.1],fun i q0 q1=>⟨fun q=>?_,fun q=>?_⟩⟩
   ·by_cases ei:i=e
    ·subst ei;exact jW h0 (by rw [h.1];exact hz)
    ·rw [jV h0 ei];exact(h.2 i q0 q1).1 (q.elim id fun r=>absurd r ei)
   ·have ei:i≠e:=fun r=>q (.inr r)
    rw [jV h0 ei];exact(h.2 i q0 q1).2 fun r=>q (.inl r)
  ·rw [a2c hz,bsm,aM (by omega),bsm];refine next u ⟨h.1,fun i q0 q1=>⟨fun q=>(h.2 i q0 q1).1 (q.elim id fun r=>by omega),fun q=>(h.2 i q0 q1).2 fun r=>q (.inl r)⟩⟩
theorem want4 {u:List Bool} {S:Int->Prop} {z:Nat} (h:kS u S z) (hz:z<=1000000):∀ (d i k:Nat) (acc:List Int),i+d=z->d<k->Srt acc->(∀ a∈acc,a<(i:Int))->acc.length<=i ->
 ∃ l,zP z u k acc i=some l/\Srt l/\∀ a,a∈l ↔ a∈acc\/((i:Int)<=a/\a<(z:Int)/\S a)
 | 0,i,k,acc,hi,hk,hs,ha,hl=>by
  obtain _ | k:=k
  ·omega
  rw [zP,a2c (by omega)];exact⟨acc,rfl,hs,fun a=>⟨.inl,fun q=>q.elim id fun q=>by omega⟩⟩
 | d+1,i,k,acc,hi,hk,hs,ha,hl=>by
  obtain _ | k:=k
  ·omega
  rw [zP,a2d (by omega)];by_cases hS:S (i:Int)
  ·rw [(h.2 _ (by omega) (by omega)).1 hS,bsm,a1Y,cX (by simp;omega),bsm,bsm,aM (by omega),bsm];obtain⟨l,e,q1,q2⟩:=want4 h hz d (i+1) k (acc++[(i:Int)]) (by omega) (by omega)
    (a1q.2 ⟨hs,a1t _ _,fun a ha' b hb=>by rw [a1m.1 hb];exact ha a ha'⟩)
    (fun a ha'=>by rcases a1c.1 ha' with q | q
                   ·have:=ha a q;omega
                   ·rw [a1m.1 q];omega) (by simp;omega)
   refine⟨l,e,q1,fun a=>?_⟩
   rw [q2,a1c,a1m];constructor
   ·rintro((q | rfl) | ⟨h1,h2,h3⟩)
    ·exact .inl q
    ·exact .inr ⟨by omega,by omega,hS⟩
    ·exact .inr ⟨by omega,h2,h3⟩
   ·rintro(q | ⟨h1,h2,h3⟩)
    ·exact .inl (.inl q)
    ·by_cases e0:a=(i:Int)
     ·exact .inl (.inr e0)
     ·exact .inr ⟨by omega,h2,h3⟩
  ·rw [(h.2 _ (by omega) (by omega)).2 hS,bsm,a1X,bsm,aM (by omega),bsm];obtain⟨l,e,q1,q2⟩:=want4 h hz d (i+1) k acc (by omega) (by omega) hs (fun a ha'=>by have:=ha a ha';omega) (by omega)
   refine⟨l,e,q1,fun a=>?_⟩
   rw [q2];constructor
   ·rintro(q | ⟨h1,h2,h3⟩)
    ·exact .inl q
    ·exact .inr ⟨by omega,h2,h3⟩
   ·rintro(q | ⟨h1,h2,h3⟩)
    ·exact .inl q
    ·by_cases e0:a=(i:Int)
     ·subst e0;exact absurd h3 hS
     ·exact .inr ⟨by omega,h2,h3⟩
theorem Cx.dks (C:Cx p s rk) {n:Int} {x:AV} {z:Int} (G:gF p s.sz rk n x z) (o4:x.Op=4):∃ d,idx p.AF x.N=some d/\okD d=true/\∀ m∈dks d,∃ w,NeedB p s m w/\w<=6012:=by
 obtain⟨d,ed,okd⟩:=G.ok.def_ o4
 refine⟨d,ed,okd,fun m hm=>?_⟩
 obtain⟨w,hw⟩:=rF (p:=p) (x:=x) (z:=z) (m:=m) (by unfold kd;rw [a2d o4,ed];exact a1d _ hm)
 obtain⟨q1,_⟩:=G.below _ hw
 have h1:=dF q1
 have:=C.fm.len
 obtain⟨_,w',_,hw',N⟩:=C.need (n:=m) h1.1 (by simp only at *;omega)
 exact⟨w',N,hw'⟩
theorem xB (C:Cx p s rk) {n:Int} {x:AV} {z:Int} (G:gF p s.sz rk n x z) (hz:z<=6012) (o4:x.Op=4):∃ d,idx p.AF x.N=some d/\okD d=true/\(∀ f,4000100<f->nG f p n=some (aZ p n))/\rO p d z (aZ p n):=by
 obtain⟨d,ed,okd,hd⟩:=C.dks G o4
 refine⟨d,ed,okd,?_⟩
 have hl:=eX okd
 have h0:=G.pos
 have fin:∃ l,(∀ f,4000100<f->nG f p n=some l)/\rO p d z l:=by
  have main:∀ f,4000100<f->∃ l,nG f p n=some l/\rO p d z l:=fun f hf=>by
   have e1:=want1 (f:=f) (p:=p) (ch:=d.AQ) (sp:=d.AS) d.AP [] [] f (by omega) (by simp;omega) (by simp;omega) (fun r hr=>by
    obtain⟨w,N,hw⟩:=hd r.AU (a1d _ (a1i.2 ⟨r,hr,rfl⟩));exact⟨N.r f hf,by have:=N.len;omega⟩)
   have hb:∀ m∈dks d,(bB p m).length<=6012:=fun m hm=>by obtain⟨w,N,hw⟩:=hd m hm;have:=N.len;omega
   have hfl:∀ ms:List Int,(∀ m∈ms,(bB p m).length<=6012)->(ms.flatMap (bB p)).length<=6012*ms.length:=fun ms=>by
    induction ms with
    | nil=>simp
    | cons m ms ih=>
     intro h;have q1:=h m (.head _);have q2:=ih fun m hm=>h m (.tail _ hm)
     simp only [a0D,a0R,a0S];omega
   have hr:=hfl (d.AP.map (·.AU)) fun m hm=>hb m (a1d _ hm)
   rw [a0V]at hr;have hs:=hfl (d.AS.map (·.AU)) fun m hm=>hb m (a1e _ hm)
   rw [a0V]at hs;have e2:=want2 (f:=f) (p:=p) (ch:=d.AQ) (ru:=d.AP) d.AS [] ((d.AP.map (·.AU)).flatMap (bB p)) f (by omega) (by simp;omega) (by omega) (fun r hr=>by
    obtain⟨w,N,hw⟩:=hd r.AU (a1e _ (a1i.2 ⟨r,hr,rfl⟩));exact⟨N.r f hf,by have:=N.len;omega⟩)
   rw [<- a0C]at e2;simp only [a1n,a0W,a0q]at e1 e2;have h3:kS (List.replicate z.toNat false) (fun _=>False) z.toNat:=⟨by simp,fun i q0 q1=>⟨fun q=>q.elim,fun _=>by
    obtain⟨b,hb⟩:=eS (xs:=List.replicate z.toNat false) q0 (by simpa using q1)
    rw [hb,List.eq_of_mem_replicate (eC hb)]⟩⟩
   have hmem:∀ i∈(dks d).flatMap (bB p),∃ m∈dks d,i∈bB p m:=fun i hi=>List.mem_flatMap.1 hi
   have hnn:∀ i∈(dks d).flatMap (bB p),0<=i:=fun i hi=>by
    obtain⟨m,hm,hi⟩:=hmem i hi;obtain⟨w,N,_⟩:=hd m hm;exact((N.is.2 i).1 hi).1
   have hlen:((dks d).flatMap (bB p)).length<=500000:=by
    rw [Go.Proofs.YtgidgoahhepmlaaGreat.dks,a0C,a0R];omega
   obtain⟨u,e3,h4⟩:=want3 (z:=z.toNat) ((dks d).flatMap (bB p)) [] _ _ f (by omega) (by rw [a0W];omega) hnn h3
   obtain⟨l,e4,s4,m4⟩:=want4 h4 (by omega) z.toNat 0 f [] (by omega) (by omega) .nil (fun a h=>by cases h) (a1P _)
   simp only [a1n,a0W,a0q]at e3 e4;rw [a0s h0]at e3 e4;have e:nG f p n=some l:=by
    unfold nG;rw [G.node,bsm,a2c (by simp [o4]),show(⟨p.AH,p.AD,p.AF,p.AG⟩:AI)=p from rfl,aFe C.sm C.chk_ (by omega),bsm,G.size,bsm,show mk false z=mk false (z.toNat:Int)from by rw [a0s h0],yY (by omega),bsm,ed,bsm,e1,bsm,e2,bsm];rw [show(d.AP.map (·.AU)++d.AS.map (·.AU))=Go.Proofs.YtgidgoahhepmlaaGreat.dks d from rfl,e3,bsm,e4,bsm]
   refine⟨l,e,s4,fun i=>?_⟩
   rw [m4];simp only [List.not_mem_nil,false_or,a0s h0,a0q,List.mem_flatMap]
  obtain⟨l,_,i0⟩:=main F (by decide)
  exact⟨l,fun f hf=>by
   obtain⟨l',e',i'⟩:=main f hf;rw [i0.uniq i'];exact e',i0⟩
 obtain⟨l,e,i0⟩:=fin
 have hw:aZ p n=l:=by simp [aZ,e F (by decide)]
 rw [hw]
 exact⟨e,i0⟩
theorem tV (C:Cx p s rk) {n:Int} {x:AV} {z:Int} (G:gF p s.sz rk n x z) (o4:x.Op≠4):(∀ f,4000100<f->nG f p n=some (aZ p n))/\aZ p n=bB p n:=by
 have hn:=dF G.node
 obtain⟨_,_,_,_,N⟩:=C.need hn.1 hn.2
 have e:∀ f,4000100<f->nG f p n=some (bB p n):=fun f hf=>by
  unfold nG;rw [G.node,bsm,a2d o4,show(⟨p.AH,p.AD,p.AF,p.AG⟩:AI)=p from rfl,N.r f hf,bsm]
 have hw:aZ p n=bB p n:=by simp [aZ,e F (by decide)]
 exact⟨by rw [hw];exact e,hw⟩
theorem ask1 {sz:List Int} {n z:Int} (hz:idx sz n=some z) (AC:List Int):∀ (AB acc:List Int) (k:Nat),AC.length<k->AB.length+AC.length<=900000000->acc.length+AC.length<=900000000 ->
 nZ sz n (AB++AC) k AB.length acc=some (acc++AC.filter (fun y=>decide (y<z))):=by
 induction AC with
 | nil=>
  intro AB acc k hk _ _;obtain _ | k:=k
  ·omega
  rw [nZ,a2c (by simp)];simp
 | cons e AC ih=>
  intro AB acc k hk hB hA;obtain _ | k:=k
  ·omega
  simp only [a0S]at hk hB hA;rw [nZ,a2d (aV _ _ _),aX,bsm,hz,bsm];by_cases h:e<z
  ·rw [a2d h,cX (by simp;omega),bsm,bsm,aM (by omega),bsm,bA,aU,ih (AB++[e]) (acc++[e]) k (by omega) (by simp;omega) (by simp;omega)];simp [h]
  ·rw [a2c h,bsm,aM (by omega),bsm,bA,aU,ih (AB++[e]) acc k (by omega) (by simp;omega) (by omega)];simp [h]
def iQ (p:AI) (z:Int) (m:Int):List Int:=(bB p m).filter (fun y=>decide (y<z))
theorem ask_p {sz:List Int} {n z m:Int} (hz:idx sz n=some z) (hm:0<=m/\m<(p.AD.length:Int)) (hl:(bB p m).length<=6012) {acc:List Int} (ha:acc.length<=800000000):uP F m (gX p) sz n acc=some (acc++iQ p z m):=by
 unfold uP
 rw [aCg hm.1 hm.2,bsm]
 have:=ask1 hz (bB p m) [] acc F (by unfold F;omega) (by simp;omega) (by omega)
 simpa [iQ] using this
theorem ask2 {sz:List Int} {n z:Int} {e1 e2:Int} (hz:idx sz n=some z) {ch:List An} {sp:List Am} (AC:List Ai):∀ (AB:List Ai) (acc:List Int) (k:Nat),AC.length<k->AB.length+AC.length<=3000000->acc.length+6012*AC.length<=800000000 ->
 (∀ r∈AC,(0<=r.AU/\r.AU<(p.AD.length:Int))/\(bB p r.AU).length<=6012)->oJ F (gX p,e1) (sz,e2) n ⟨ch,sp,AB++AC⟩ k AB.length acc=some (acc++(AC.map (·.AU)).flatMap (iQ p z)):=by
 induction AC with
 | nil=>
  intro AB acc k hk _ _ _;obtain _ | k:=k
  ·omega
  rw [oJ,a2c (by simp)];simp
 | cons e AC ih=>
  intro AB acc k hk hB hA hr;obtain _ | k:=k
  ·omega
  simp only [a0S]at hk hB hA;obtain⟨h1,h2⟩:=hr e (.head _);have hb:(iQ p z e.AU).length<=6012:=a1H (a0U _ _) h2;rw [oJ,a2d (aV _ _ _),aX,bsm];simp only
  rw [ask_p hz h1 h2 (by omega),bsm,aM (by omega),bsm,bA,aU,ih (AB++[e]) (acc++iQ p z e.AU) k (by omega) (by simp;omega) (by simp;omega) (fun r hr'=>hr r (.tail _ hr'))];simp
theorem ask3 {sz:List Int} {n z:Int} {e1 e2:Int} (hz:idx sz n=some z) {ch:List An} {ru:List Ai} (AC:List Am):∀ (AB:List Am) (acc:List Int) (k:Nat),AC.length<k->AB.length+AC.length<=3000000->acc.length+6012*AC.length<=800000000 ->
 (∀ r∈AC,(0<=r.AU/\r.AU<(p.AD.length:Int))/\(bB p r.AU).length<=6012)->nK F (gX p,e1) (sz,e2) n ⟨ch,AB++AC,ru⟩ k AB.length acc=some (acc++(AC.map (·.AU)).flatMap (iQ p z)):=by
 induction AC with
 | nil=>
  intro AB acc k hk _ _ _;obtain _ | k:=k
  ·omega
  rw [nK,a2c (by simp)];simp
 | cons e AC ih=>
  intro AB acc k hk hB hA hr;obtain _ | k:=k
  ·omega
  simp only [a0S]at hk hB hA;obtain⟨h1,h2⟩:=hr e (.head _);have hb:(iQ p z e.AU).length<=6012:=a1H (a0U _ _) h2;rw [nK,a2d (aV _ _ _),aX,bsm];simp only
  rw [ask_p hz h1 h2 (by omega),bsm,aM (by omega),bsm,bA,aU,ih (AB++[e]) (acc++iQ p z e.AU) k (by omega) (by simp;omega) (by simp;omega) (fun r hr'=>hr r (.tail _ hr'))];simp
def Asks (p:AI) (g:aG Int (List Int)) (k:Nat):Prop:=∀ i:Int,0<=i->i<(k:Int)->g.get i=some (aZ p i)
theorem aCW (C:Cx p s rk):∀ (d i k:Nat) (g:aG Int (List Int)),i+d=p.AD.length->d<k->Asks p g i->∃ g',oQ F p (gX p,0) (s.sz,0) k i g=some g'/\Asks p g' p.AD.length
 | 0,i,k,g,h,hk,ha=>by
  obtain _ | k:=k
  ·omega
  rw [oQ,a2c (by omega)];exact⟨g,rfl,by rw [<- h];exact ha⟩
 | d+1,i,k,g,h,hk,ha=>by
  obtain _ | k:=k
  ·omega
  have h60:=C.fm.n60;obtain⟨x,z,G,hz,N⟩:=C.need (n:=(i:Int)) (by omega) (by omega)
  rw [oQ,a2d (by omega),G.node,bsm];have next:Asks p (aG.upd g (i:Int) (aZ p i)) (i+1):=fun j h0 h1=>by
   have e:(aG.upd g (i:Int) (aZ p i)).get j=if j=(i:Int)then some (aZ p i) else g.get j:=rfl
   rw [e];by_cases ej:j=(i:Int)
   ·rw [a2d ej,ej]
   ·rw [a2c ej];exact ha j h0 (by omega)
  by_cases o4:x.Op=4
  ·obtain⟨d',ed,okd,e0,iw⟩:=xB C G hz o4;obtain⟨d2,ed2,_,hd⟩:=C.dks G o4;rw [ed]at ed2;cases ed2
   have hl:=eX okd;have hin:∀ m∈dks d',(0<=m/\m<(p.AD.length:Int))/\(bB p m).length<=6012:=fun m hm=>by
    obtain⟨w,N,hw⟩:=hd m hm;refine⟨?_,by have:=N.len;omega⟩
    obtain⟨w2,hw2⟩:=rF (p:=p) (x:=x) (z:=z) (m:=m) (by unfold kd;rw [a2d o4,ed];exact a1d _ hm)
    obtain⟨q1,_⟩:=G.below _ hw2;have h1:=dF q1;have:=C.fm.len;simp only at *;omega
   have e2:=ask2 (p:=p) (e1:=0) (e2:=0) G.size (ch:=d'.AQ) (sp:=d'.AS) d'.AP [] [] F (by unfold F;omega) (by simp;omega) (by simp;omega) (fun r hr=>hin r.AU (a1d _ (a1i.2 ⟨r,hr,rfl⟩)))
   have hfl:∀ ms:List Int,(∀ m∈ms,(bB p m).length<=6012)->(ms.flatMap (iQ p z)).length<=6012*ms.length:=fun ms=>by
    induction ms with
    | nil=>simp
    | cons m ms ih=>
     intro h;have q1:(iQ p z m).length<=6012:=a1H (a0U _ _) (h m (.head _));have q2:=ih fun m hm=>h m (.tail _ hm)
     simp only [a0D,a0R,a0S];omega
   have hr:=hfl (d'.AP.map (·.AU)) fun m hm=>(hin m (a1d _ hm)).2
   rw [a0V]at hr;have e3:=ask3 (p:=p) (e1:=0) (e2:=0) G.size (ch:=d'.AQ) (ru:=d'.AP) d'.AS [] ((d'.AP.map (·.AU)).flatMap (iQ p z)) F (by unfold F;omega) (by simp;omega) (by omega) (fun r hr=>hin r.AU (a1e _ (a1i.2 ⟨r,hr,rfl⟩)))
   rw [<- a0C]at e3;simp only [a1n,a0W,a0q]at e2 e3;have hc:=aKh ((dks d').flatMap (iQ p z));have hw:Go.Lib.compact (eU ((dks d').flatMap (iQ p z)))=aZ p i:=rO.uniq (p:=p) (d:=d') (z:=z) ⟨hc.1,fun j=>by
    rw [hc.2,List.mem_flatMap];constructor
    ·rintro⟨m,hm,hj⟩
     obtain⟨w,N,_⟩:=hd m hm;have hj':=a1g.1 hj;exact⟨((N.is.2 j).1 hj'.1).1,by simpa using hj'.2,m,hm,hj'.1⟩
    ·rintro⟨_,h1,m,hm,hj⟩
     exact⟨m,hm,a1g.2 ⟨hj,by simpa using h1⟩⟩⟩ iw
   rw [a2c (by simp [o4]),ed,bsm,e2,bsm,bsm];rw [e3,bsm];rw [show(d'.AP.map (·.AU)++d'.AS.map (·.AU))=Go.Proofs.YtgidgoahhepmlaaGreat.dks d' from rfl,aCK,bsm,aDo,bsm,bsm,hw,aM (by omega),bsm];exact aCW C d (i+1) k _ (by omega) (by omega) next
  ·obtain⟨_,e⟩:=tV C G o4;rw [a2d o4,aCg (by omega) (by omega),bsm,bsm,aM (by omega),bsm];rw [e]at next;exact aCW C d (i+1) k _ (by omega) (by omega) next
theorem aGt (C:Cx p s rk):∃ g,tK F p=some (g,0)/\Asks p g p.AD.length/\g.get (-1)=some (bB p p.AG):=by
 have h60:=C.fm.n60
 obtain⟨g,e,ha⟩:=aCW C p.AD.length 0 F aG.none (by omega) (by unfold F;omega) (fun i h0 h1=>by omega)
 have hm:=dF C.fm.main
 have:=C.fm.len
 rw [a0q]at e
 refine⟨aG.upd g (-1) (bB p p.AG),?_,fun i h0 h1=>?_,rfl⟩
 ·unfold tK;rw [show(⟨p.AH,p.AD,p.AF,p.AG⟩:AI)=p from rfl,needs_S C,bsm];simp only [ne_eq,not_true_eq_false,if_false];rw [aGm C.sm C.chk_ C.fm.len h60,bsm,e,bsm,aCg hm.1 (by omega),bsm]
 ·show(if i=-1 then some (bB p p.AG) else g.get i)=_
  rw [a2c (by omega)];exact ha i h0 h1
open Go.SX Go.SW Go.Dt
def fndA (x:Int):List Int->Int->Int
 | [],_=>-1
 | y :: l,k=>if x=y then k else fndA x l (k+1)
def fnd (l:List Int) (x:Int):Int:=fndA x l 0
theorem aJe {x:Int} (AC:List Int):∀ (AB:List Int) (k:Nat),AC.length<k->AB.length+AC.length<=900000000 ->
 ∃ r,oC (AB++AC) x k AB.length=some r/\((r= .inl ()/\fndA x AC AB.length=-1)\/r= .inr (fndA x AC AB.length)):=by
 induction AC with
 | nil=>
  intro AB k hk _;obtain _ | k:=k
  ·omega
  rw [oC,a2c (by simp)];exact⟨_,rfl, .inl ⟨rfl,rfl⟩⟩
 | cons e AC ih=>
  intro AB k hk hB;obtain _ | k:=k
  ·omega
  simp only [a0S]at hk hB;rw [oC,a2d (aV _ _ _),aX,bsm];by_cases h:x=e
  ·rw [a2d h,bsm];exact⟨_,rfl, .inr (by rw [fndA,a2d h])⟩
  ·rw [a2c h,aM (by omega),bsm,fndA,a2c h,bA,aU];exact ih (AB++[e]) k (by omega) (by simp;omega)
theorem yD {AA:Nat} {l:List Int} {x:Int} (hf:l.length<AA) (hB:l.length<=900000000):kK AA l x=some (fnd l x):=by
 obtain⟨r,e,h⟩:=aJe (x:=x) l [] AA hf (by simp;omega)
 simp only [a1n,a0W,a0q]at e h
 rw [kK,e,bsm]
 rcases h with⟨rfl,h⟩ | rfl
 ·dsimp only;rw [fnd,h]
 ·rfl
theorem aIZ {AA:Nat} {list:List Int} (hf:list.length<AA) (hB:list.length<=900000000) (AC:List Int):∀ (AB acc:List Int) (k:Nat),AC.length<k->AB.length+AC.length<=900000000->acc.length+AC.length<=900000000 ->
 nP AA list (AB++AC) k acc AB.length=some (acc++AC.map (fnd list)):=by
 induction AC with
 | nil=>
  intro AB acc k hk _ _;obtain _ | k:=k
  ·omega
  rw [nP,a2c (by simp)];simp
 | cons e AC ih=>
  intro AB acc k hk hB1 hA;obtain _ | k:=k
  ·omega
  simp only [a0S]at hk hB1 hA;rw [nP,a2d (aV _ _ _),aX,bsm,yD hf hB,bsm,cX (by simp;omega),bsm,aM (by omega),bsm,bA,aU,ih (AB++[e]) (acc++[fnd list e]) k (by omega) (by simp;omega) (by simp;omega)];simp
theorem inds_p {AA:Nat} {list l:List Int} (hf:list.length<AA) (hB:list.length<=900000000) (hf2:l.length<AA) (hB2:l.length<=900000000):vK AA list l=some (l.map (fnd list)):=by
 have:=aIZ hf hB l [] [] AA hf2 (by simp;omega) (by simp;omega)
 simp only [a1n,a0W,a0q]at this
 rw [vK,this,bsm]
mutual
def flE (l:List Int):AT->AT
 | ⟨op,n,ks⟩=>⟨op,if op=2 then fnd l n else n,flL l ks⟩
def flL (l:List Int):List AT->List AT
 | []=>[]
 | k :: ks=>flE l k :: flL l ks
end
theorem aJH {rec:AT->List Int->Option AT} {op n:Int} {l:List Int} (AC:List AT):∀ (AB acc:List AT) (k:Nat),AC.length<k->AB.length+AC.length<=3000000->acc.length+AC.length<=900000000 ->
 (∀ e∈AC,rec e l=some (flE l e))->oK rec ⟨op,n,AB++AC⟩ l k AB.length acc=some (acc++flL l AC):=by
 induction AC with
 | nil=>
  intro AB acc k hk _ _ _;obtain _ | k:=k
  ·omega
  rw [oK,a2c (by simp)];simp [flL]
 | cons e AC ih=>
  intro AB acc k hk hB hA hr;obtain _ | k:=k
  ·omega
  simp only [a0S]at hk hB hA;rw [oK,a2d (aV _ _ _),aX,bsm,jU,hr e (.head _),bsm,cX (by simp;omega),bsm,aM (by omega),bsm,bA,aU,ih (AB++[e]) (acc++[flE l e]) k (by omega) (by simp;omega) (by simp;omega) (fun x hx=>hr x (.tail _ hx))];simp [flL]
theorem flexp_p {l:List Int} (hl:l.length<=1000000) (AA:Nat):∀ (e:AT),1000001+nE e<AA->nE e<=2000000->mB AA e l=some (flE l e):=by
 induction AA with
 | zero=>intro e h;omega
 | succ AA ih=>
  intro ⟨op,n,ks⟩ hf hB
  simp only [nE]at hf hB;have hlen:=qF ks;have hloop:=aJH (rec:=mB AA) (op:=op) (n:=n) (l:=l) ks [] [] AA (by omega) (by simp;omega) (by simp;omega) (fun e he=>ih e (by have:=gV he;omega) (by have:=gV he;omega))
  simp only [a1n,a0W,a0q]at hloop;rw [mB];dsimp only
  by_cases o2:op=2
  ·rw [a2d o2,yD (by omega) (by omega),bsm,bsm,hloop,bsm,flE,a2d o2]
  ·rw [a2c o2,bsm,hloop,bsm,flE,a2c o2]
theorem args_p {AA:Nat} {l:List Int} (hl:l.length<=1000000) (hf:2000000<AA) {op n:Int} {ks:List Int} (AC:List AT):∀ (AB acc:List AT) (k:Nat),AC.length<k->AB.length+AC.length<=3000000->acc.length+AC.length<=900000000->(∀ e∈AC,nE e<=60) ->
 nB AA l ⟨op,n,AB++AC,ks⟩ k AB.length acc=some (acc++flL l AC):=by
 induction AC with
 | nil=>
  intro AB acc k hk _ _ _;obtain _ | k:=k
  ·omega
  rw [nB,a2c (by simp)];simp [flL]
 | cons e AC ih=>
  intro AB acc k hk hB hA hr;obtain _ | k:=k
  ·omega
  simp only [a0S]at hk hB hA;have:=hr e (.head _);rw [nB,a2d (aV _ _ _),aX,bsm,jU,flexp_p hl AA e (by omega) (by omega),bsm,cX (by simp;omega),bsm,aM (by omega),bsm,bA,aU,ih (AB++[e]) (acc++[flE l e]) k (by omega) (by simp;omega) (by simp;omega) (fun x hx=>hr x (.tail _ hx))];simp [flL]
theorem aCy {ch:List An}:∀ {js:List Int},(∀ c∈js,∃ y,idx ch c=some y/\0<=y.Ap/\y.Ap<=3)->gS ch js=some (brs ch js)
 | [],_=>rfl
 | c :: js,h=>by
  obtain⟨y,hy,hm⟩:=h c (.head _);rw [gS,hy,bsm,a2d hm,aCy fun c hc=>h c (.tail _ hc),bsm,brs,hy]
theorem aHt {AA:Nat} {d:AN} {r:Ai} (hf:3000<AA) (okd:okD d=true) (hr:r∈d.AP):mM AA d r=some (brs d.AQ r.Ab)/\aB3 AA d r=some (brs d.AQ r.Ab)/\0<=brs d.AQ r.Ab/\brs d.AQ r.Ab<=9:=by
 have h:=(eX okd).2.2.2.2 r hr
 have hb:=oN h.2
 have hm:=aCy h.2
 refine⟨?_,?_,hb.1,by omega⟩
 ·rw [aDU (by omega) (by omega),hm]
 ·rw [bring_r (by omega) (by omega),a2d h.1,hm]
def yN (x:AV) (list w:List Int):Int:=if x.Op=6\/x.Op=8 then fnd w x.N else if x.Op=2 then fnd list x.N else x.N
def yT (x:AV) (list w:List Int):List Int:=if cS x.Op=true then w.map (fnd list) else []
def yOf (x:AV) (list w:List Int):Ah:=⟨x.Op,yN x list w,flL list x.AW,x.AO,yT x list w⟩
abbrev C3:=Int × List Int × Int
def fR (d:AN) (z:Int) (ins:List Int):List C3:=d.AP.map fun r=>(r.AU,ins++upto (z+own d) (brs d.AQ r.Ab).toNat,z+own d+brs d.AQ r.Ab)
def fS (d:AN) (z:Int) (ins:List Int):List C3:=d.AS.map fun y=>(y.AU,ins,z+own d)
def iO (w:List Int) (z:Int) (d:AN):List Int:=w++upto z (own d).toNat
def fD (p:AI) (x:AV) (z:Int) (w:List Int):List C3:=
 if x.Op=4 then match idx p.AF x.N with
  | some d=>fR d z (iO w z d)++fS d z (iO w z d)
  | none=>[]
 else []
def fK (p:AI) (x:AV) (list:List Int) (z:Int) (w:List Int):List C3:=
 if x.Op=4 then match idx p.AF x.N with
  | some d=>x.AO.map fun k=>(k,list++upto z (own d).toNat,z+own d)
  | none=>[]
 else x.AO.map fun k=>(k,if x.Op=6\/x.Op=8 then w else list,z)
def fG (g:Int->List Int->Int->List Ah->List Ah):List C3->List Ah->List Ah
 | [],nd=>nd
 | c :: l,nd=>fG g l (g c.1 c.2.1 c.2.2 nd)
theorem aC5 {g:Int->List Int->Int->List Ah->List Ah}:∀ (l m:List C3) (nd:List Ah),fG g (l++m) nd=fG g m (fG g l nd)
 | [],_,_=>rfl
 | c :: l,m,nd=>aC5 l m _
def put (p:AI):Nat->Int->List Int->Int->List Ah->List Ah
 | 0,_,_,_,nd=>nd
 | h+1,n,list,z,nd=>match idx p.AD n with
  | none=>nd
  | some x=>fG (put p h) (fK p x list z (aZ p n)) (fG (put p h) (fD p x z (aZ p n)) (nd.set n.toNat (yOf x list (aZ p n))))
theorem aDW {g:Int->List Int->Int->List Ah->List Ah} (hg:∀ n l z nd,(g n l z nd).length=nd.length):∀ (l:List C3) (nd:List Ah),(fG g l nd).length=nd.length
 | [],_=>rfl
 | c :: l,nd=>(aDW hg l _).trans (hg _ _ _ _)
theorem uV {p:AI}:∀ (h:Nat) (n:Int) (l:List Int) (z:Int) (nd:List Ah),(put p h n l z nd).length=nd.length
 | 0,_,_,_,_=>rfl
 | h+1,n,l,z,nd=>by
  rw [put];split
  ·rfl
  ·rw [aDW (uV h),aDW (uV h),a0X]
theorem fD_kd {p:AI} {x:AV} {z:Int} {w:List Int} {c:C3} (h:c∈fD p x z w):(c.1,c.2.2)∈eH p x z:=by
 unfold fD at h;unfold eH
 split at h
 ·rename_i o4;rw [a2d o4];cases e:idx p.AF x.N with
  | none=>rw [e]at h;cases h
  | some d=>
   rw [e]at h;simp only [fR,fS,a1c,a1i]at h;simp only [chD,a1c,a1i];rcases h with⟨r,hr,rfl⟩ | ⟨y,hy,rfl⟩
   ·exact .inl (.inl ⟨r,hr,rfl⟩)
   ·exact .inl (.inr ⟨y,hy,rfl⟩)
 ·cases h
theorem fK_kd {p:AI} {x:AV} {list:List Int} {z:Int} {w:List Int} {c:C3} (h:c∈fK p x list z w):(c.1,c.2.2)∈eH p x z:=by
 unfold fK at h;unfold eH
 split at h
 ·rename_i o4;rw [a2d o4];cases e:idx p.AF x.N with
  | none=>rw [e]at h;cases h
  | some d=>
   rw [e]at h;obtain⟨k,hk,rfl⟩:=a1i.1 h;simp only [a1c,a1i];exact .inr ⟨k,hk,rfl⟩
 ·rename_i o4;rw [a2c o4];obtain⟨k,hk,rfl⟩:=a1i.1 h;exact a1i.2 ⟨k,hk,rfl⟩
theorem Fm.child {p:AI} {sz:List Int} {rk:Int->Nat} (hm:Fm p sz rk) {n:Int} {x:AV} {z:Int} (G:gF p sz rk n x z) {c:Int × Int} (h:c∈eH p x z):rk c.1<rk n/\∃ y,gF p sz rk c.1 y c.2:=by
 obtain⟨q1,q2,_⟩:=G.below c h
 have h1:=dF q1
 have:=hm.len
 obtain⟨_,y,w,G',_⟩:=hm.good c.1 h1.1 (by omega)
 have e:=G'.size
 rw [q1]at e;cases e
 exact⟨q2,y,G'⟩
open Go.SX Go.SW Go.Dt
abbrev RecF:=Int->List Int->AI->aG Int (List Int)->AE->List Int->Option AE
section
variable {p:AI} {rec:RecF} {G:aG Int (List Int)} {sz:List Int} {g:Int->List Int->Int->List Ah->List Ah} {Fr:List ByteArray} {Tk:List Int} {Df:List AN} {Mn:Int} {N:Nat}
def RunF (p:AI) (rec:RecF) (G:aG Int (List Int)) (sz:List Int) (g:Int->List Int->Int->List Ah->List Ah) (Fr:List ByteArray) (Tk:List Int) (Df:List AN) (Mn:Int) (N:Nat) (c:C3):Prop:=
 ∀ nd:List Ah,nd.length=N->rec c.1 c.2.1 p G ⟨Fr,Tk,nd,Df,Mn⟩ sz=some ⟨Fr,Tk,g c.1 c.2.1 c.2.2 nd,Df,Mn⟩/\(g c.1 c.2.1 c.2.2 nd).length=N
theorem fl2 {d:AN} {n z:Int} (hz:idx sz n=some z) (h0:0<=z/\z<=6012) (okd:okD d=true) {ol ins:List Int} (hol:(ol.length:Int)=own d) (hins:ins.length<=100000) {AA:Nat} (hf:10000<AA) (AC:List Ai):
 ∀ (AB:List Ai) (k:Nat) (nd:List Ah),d.AP=AB++AC->AC.length<k->AB.length+AC.length<=3000000->nd.length=N ->
 (∀ r∈AC,RunF p rec G sz g Fr Tk Df Mn N (r.AU,ins++upto (z+own d) (brs d.AQ r.Ab).toNat,z+own d+brs d.AQ r.Ab)) ->
 nR AA rec n p G sz d ol ins k AB.length Fr Tk nd Df Mn=some (Fr,Tk,fG g (AC.map fun r=>(r.AU,ins++upto (z+own d) (brs d.AQ r.Ab).toNat,z+own d+brs d.AQ r.Ab)) nd,Df,Mn)/\(fG g (AC.map fun r=>(r.AU,ins++upto (z+own d) (brs d.AQ r.Ab).toNat,z+own d+brs d.AQ r.Ab)) nd).length=N:=by
 have hl:=eX okd
 have ho:0<=own d/\own d<=60:=⟨aCi d,by unfold own;omega⟩
 induction AC with
 | nil=>
  intro AB k nd he hk _ hN _;obtain _ | k:=k
  ·omega
  rw [nR,he,a2c (by simp)];exact⟨rfl,hN⟩
 | cons e AC ih=>
  intro AB k nd he hk hB hN hr;obtain _ | k:=k
  ·omega
  simp only [a0S]at hk hB;have hmem:e∈d.AP:=by rw [he];simp
  obtain⟨m1,_,m2,m3⟩:=aHt (AA:=AA) (by omega) okd hmem
  obtain⟨r1,r2⟩:=hr e (.head _) nd hN;obtain⟨i1,i2⟩:=ih (AB++[e]) k (g e.AU (ins++upto (z+own d) (brs d.AQ e.Ab).toNat) (z+own d+brs d.AQ e.Ab) nd) (by rw [he];simp) (by omega) (by simp;omega) r2 (fun r h=>hr r (.tail _ h))
  refine⟨?_,i2⟩;rw [nR,a2d (by rw [he];exact aV _ _ _),show idx d.AP (AB.length:Int)=some e from by rw [he];exact aX _ _ _,bsm,hz,bsm,hol,aM (by omega),bsm,
   show(⟨d.AQ,d.AS,d.AP⟩:AN)=d from rfl,show(⟨e.At,e.Ab,e.AU⟩:Ai)=e from rfl,m1,bsm,aBj (by omega) m2 (by omega) (by omega),bsm,tN (by rw [gE];omega),bsm,r1,bsm,aM (by omega),bsm,aU AB e,i1]
  rfl
theorem fl3 {d:AN} {ins:List Int} {w:Int} (AC:List Am):
 ∀ (AB:List Am) (k:Nat) (nd:List Ah),d.AS=AB++AC->AC.length<k->AB.length+AC.length<=3000000->nd.length=N->(∀ r∈AC,RunF p rec G sz g Fr Tk Df Mn N (r.AU,ins,w)) ->
 oV rec p G sz d ins k AB.length Fr Tk nd Df Mn=some (Fr,Tk,fG g (AC.map fun r=>(r.AU,ins,w)) nd,Df,Mn)/\(fG g (AC.map fun r=>(r.AU,ins,w)) nd).length=N:=by
 induction AC with
 | nil=>
  intro AB k nd he hk _ hN _;obtain _ | k:=k
  ·omega
  rw [oV,he,a2c (by simp)];exact⟨rfl,hN⟩
 | cons e AC ih=>
  intro AB k nd he hk hB hN hr;obtain _ | k:=k
  ·omega
  simp only [a0S]at hk hB;obtain⟨r1,r2⟩:=hr e (.head _) nd hN;obtain⟨i1,i2⟩:=ih (AB++[e]) k (g e.AU ins w nd) (by rw [he];simp) (by omega) (by simp;omega) r2 (fun r h=>hr r (.tail _ h))
  refine⟨?_,i2⟩;rw [oV,a2d (by rw [he];exact aV _ _ _),show idx d.AS (AB.length:Int)=some e from by rw [he];exact aX _ _ _,bsm,r1,bsm,aM (by omega),bsm,aU AB e,i1];rfl
theorem fl4 {x:AV} {ins:List Int} {w:Int} (AC:List Int):
 ∀ (AB:List Int) (k:Nat) (nd:List Ah),x.AO=AB++AC->AC.length<k->AB.length+AC.length<=3000000->nd.length=N->(∀ r∈AC,RunF p rec G sz g Fr Tk Df Mn N (r,ins,w)) ->
 mP rec p G sz x ins k AB.length Fr Tk nd Df Mn=some ⟨Fr,Tk,fG g (AC.map fun r=>(r,ins,w)) nd,Df,Mn⟩/\(fG g (AC.map fun r=>(r,ins,w)) nd).length=N:=by
 induction AC with
 | nil=>
  intro AB k nd he hk _ hN _;obtain _ | k:=k
  ·omega
  rw [mP,he,a2c (by simp)];exact⟨rfl,hN⟩
 | cons e AC ih=>
  intro AB k nd he hk hB hN hr;obtain _ | k:=k
  ·omega
  simp only [a0S]at hk hB;obtain⟨r1,r2⟩:=hr e (.head _) nd hN;obtain⟨i1,i2⟩:=ih (AB++[e]) k (g e ins w nd) (by rw [he];simp) (by omega) (by simp;omega) r2 (fun r h=>hr r (.tail _ h))
  refine⟨?_,i2⟩;rw [mP,a2d (by rw [he];exact aV _ _ _),show idx x.AO (AB.length:Int)=some e from by rw [he];exact aX _ _ _,bsm,r1,bsm,aM (by omega),bsm,aU AB e,i1];rfl
end
structure Nd (p:AI) (s:VS) (rk:Int->Nat) (n:Int) (x:AV) (z:Int):Prop where
 g:gF p s.sz rk n x z
 z6:z<=6012
theorem Cx.child {p:AI} {s:VS} {rk:Int->Nat} (C:Cx p s rk) {n:Int} {x:AV} {z:Int} (G:gF p s.sz rk n x z) {c:Int × Int} (h:c∈eH p x z):rk c.1<rk n/\∃ y,Nd p s rk c.1 y c.2:=by
 obtain⟨q1,q2,_⟩:=G.below c h
 have h1:=dF q1
 have:=C.fm.len
 obtain⟨_,y,w,G',hw⟩:=C.fm.good c.1 h1.1 (by omega)
 have e:=G'.size
 rw [q1]at e;cases e
 exact⟨q2,y,G',hw⟩
theorem Cx.want_len {p:AI} {s:VS} {rk:Int->Nat} (C:Cx p s rk) {n:Int} {x:AV} {z:Int} (K:Nd p s rk n x z):((aZ p n).length:Int)<=z:=by
 have h0:=K.g.pos
 by_cases o4:x.Op=4
 ·obtain⟨d,_,_,_,iw⟩:=xB C K.g K.z6 o4;have:=pL iw.1 (a:=0) (b:=z) fun i hi=>⟨((iw.2 i).1 hi).1,((iw.2 i).1 hi).2.1⟩
  omega
 ·rw [(tV C K.g o4).2];have hn:=dF K.g.node;obtain⟨_,w,G',_,N⟩:=C.need hn.1 hn.2;have e:=G'.size;rw [K.g.size]at e;cases e
  exact N.len
theorem aDm {l:List Int} (h:l.length<=900000000):fC l=some l:=by
 rw [fC,a1n,cX (by omega),bsm]
theorem take_seg {AA:Nat} {x:AV} {l w:List Int} (hl:l.length<AA) (hw:w.length<AA) (hl2:l.length<=900000000) (hw2:w.length<=900000000):
 ((pF x.Op).bind fun y3=>bif y3 then(vK AA l w).bind fun y4=>some y4 else some [])=some (yT x l w):=by
 rw [aCo,bsm,inds_p hl hl2 hw hw2,bsm]
 unfold yT
 cases h:cS x.Op <;> simp
theorem name_seg {AA:Nat} {x:AV} {l w:List Int} (hl:l.length<AA) (hw:w.length<AA) (hl2:l.length<=900000000) (hw2:w.length<=900000000):
 ((if x.Op=6 then some (decide (x.Op=6)) else some (decide (x.Op=8))).bind fun x4=>
 bif x4 then(fC w).bind fun y5=>(kK AA y5 x.N).bind fun y6=>some (y5,y6)
 else if x.Op=2 then(kK AA l x.N).bind fun y7=>some (l,y7) else some (l,x.N))=some (if x.Op=6\/x.Op=8 then w else l,yN x l w):=by
 have e:(if x.Op=6 then some (decide (x.Op=6)) else some (decide (x.Op=8)))=some (decide (x.Op=6\/x.Op=8)):=by
  by_cases o6:x.Op=6
  ·rw [a2d o6,a2a o6,a2a (.inl o6)]
  ·rw [a2c o6];by_cases o8:x.Op=8
   ·rw [a2a o8,a2a (.inr o8)]
   ·rw [a1Z o8,a1Z (fun q=>q.elim o6 o8)]
 rw [e,bsm,aDm hw2,bsm,yD hw hw2,bsm,yD hl hl2,bsm]
 unfold yN
 by_cases o:x.Op=6\/x.Op=8
 ·rw [a2a o,a1Y,a2d o,a2d o]
 ·rw [a1Z o,a1X,a2c o,a2c o];by_cases o2:x.Op=2
  ·rw [a2d o2,a2d o2]
  ·rw [a2c o2,a2c o2]
theorem flat1_p {p:AI} {s:VS} {rk:Int->Nat} (C:Cx p s rk) {G:aG Int (List Int)} (hG:Asks p G p.AD.length) {Fr:List ByteArray} {Tk:List Int} {Df:List AN} {Mn:Int}:
 ∀ (h AA:Nat) (n:Int) (x:AV) (z:Int) (l:List Int),Nd p s rk n x z->rk n<h->10000000+h<=AA->(l.length:Int)<=z->RunF p (eW AA) G s.sz (put p h) Fr Tk Df Mn p.AD.length (n,l,z):=by
 intro h
 induction h with
 | zero=>intro AA n x z l _ hr;omega
 | succ h ih=>
  intro AA n x z l K hr hf hl nd hN;obtain _ | AA:=AA
  ·omega
  refine⟨?_,by rw [uV];exact hN⟩
  have hn:=dF K.g.node;have h0:=K.g.pos;have h6:=K.z6;have hw:=C.want_len K;have ok:=K.g.ok;have hla:=ok.la;have hlk:=ok.lk;have hget:(G.get n).getD []=aZ p n:=by rw [hG n hn.1 hn.2];rfl
  have hargs:=args_p (AA:=AA) (l:=l) (by omega) (by omega) (op:=x.Op) (n:=x.N) (ks:=x.AO) x.AW [] [] AA (by omega) (by simp;omega) (by simp;omega) ok.exps
  simp only [a1n,a0W,a0q]at hargs;rw [show(⟨x.Op,x.N,x.AW,x.AO⟩:AV)=x from rfl]at hargs;obtain⟨y0,hy0⟩:=eS (xs:=nd) hn.1 (by rw [hN];exact hn.2)
  have sub:∀ c:C3,(c.1,c.2.2)∈eH p x z->(c.2.1.length:Int)<=c.2.2->RunF p (eW AA) G s.sz (put p h) Fr Tk Df Mn p.AD.length c:=fun c hc hlen=>by
   obtain⟨q1,y,K'⟩:=C.child K.g hc;exact ih AA c.1 y c.2.2 c.2.1 K' (by simp only at *;omega) (by omega) hlen
  show eW (AA+1) n l p G ⟨Fr,Tk,nd,Df,Mn⟩ s.sz=some ⟨Fr,Tk,put p (h+1) n l z nd,Df,Mn⟩
  rw [eW,K.g.node,bsm,aDm (by omega),bsm,hget];rw [take_seg (by omega) (by omega) (by omega) (by omega),bsm,name_seg (by omega) (by omega) (by omega) (by omega),bsm];dsimp only
  rw [hargs,bsm,hy0,bsm];simp only [put];rw [K.g.node];dsimp only
  have hnd:(nd.set n.toNat (yOf x l (aZ p n))).length=p.AD.length:=by rw [a0X];exact hN
  by_cases o4:x.Op=4
  ·obtain⟨d,ed,okd⟩:=ok.def_ o4;have hlim:=eX okd;have ho:0<=own d/\own d<=60:=⟨aCi d,by unfold own;omega⟩
   have hol:(((upto z (own d).toNat).length:Nat):Int)=own d:=by rw [gE];omega
   rw [a2d o4,ed,bsm,K.g.size,bsm,aM (by omega),bsm,show(d.AQ.length:Int)+(d.AS.length:Int)=own d from rfl,aBj (by omega) ho.1 (by omega) (by omega),bsm,tN (by rw [gE];omega),bsm];have hins:(((aZ p n++upto z (own d).toNat).length:Nat):Int)=(aZ p n).length+own d:=by rw [a0R,gE];omega
   obtain⟨e2,n2⟩:=fl2 (p:=p) (rec:=eW AA) (G:=G) (g:=put p h) (Fr:=Fr) (Tk:=Tk) (Df:=Df) (Mn:=Mn) (N:=p.AD.length) K.g.size ⟨h0,h6⟩ okd hol (ins:=aZ p n++upto z (own d).toNat) (by omega) (AA:=AA) (by omega) d.AP [] AA
    (nd.set n.toNat (yOf x l (aZ p n))) rfl (by omega) (by simp;omega) hnd (fun r hr=>by
     have hb:=(aHt (AA:=AA) (by omega) okd hr).2.2
     refine sub _ ?_ ?_
     ·exact fD_kd (w:=aZ p n) (by unfold fD;rw [a2d o4,ed];exact a1d _ (a1i.2 ⟨r,hr,rfl⟩))
     ·simp only [a0R,gE];omega)
   obtain⟨e3,n3⟩:=fl3 (p:=p) (rec:=eW AA) (G:=G) (sz:=s.sz) (g:=put p h) (Fr:=Fr) (Tk:=Tk) (Df:=Df) (Mn:=Mn) (N:=p.AD.length) (d:=d) (ins:=aZ p n++upto z (own d).toNat) (w:=z+own d) d.AS [] AA _ rfl (by omega) (by simp;omega) n2 (fun r hr=>by
    refine sub _ ?_ ?_
    ·exact fD_kd (w:=aZ p n) (by unfold fD;rw [a2d o4,ed];exact a1e _ (a1i.2 ⟨r,hr,rfl⟩))
    ·simp only [a0R,gE];omega)
   obtain⟨e4,n4⟩:=fl4 (p:=p) (rec:=eW AA) (G:=G) (sz:=s.sz) (g:=put p h) (Fr:=Fr) (Tk:=Tk) (Df:=Df) (Mn:=Mn) (N:=p.AD.length) (x:=x) (ins:=l++upto z (own d).toNat) (w:=z+own d) x.AO [] AA _ rfl (by omega) (by simp;omega) n3 (fun r hr=>by
    refine sub _ ?_ ?_
    ·exact fK_kd (list:=l) (w:=aZ p n) (by unfold fK;rw [a2d o4,ed];exact a1i.2 ⟨r,hr,rfl⟩)
    ·simp only [a0R,gE];omega)
   simp only [a0W,a0q]at e2 e3 e4;rw [show(⟨x.Op,yN x l (aZ p n),flL l x.AW,x.AO,yT x l (aZ p n)⟩:Ah)=yOf x l (aZ p n)from rfl,e2,bsm];dsimp only
   rw [e3,bsm];dsimp only
   rw [tN (by rw [gE];omega),bsm,bsm];dsimp only
   rw [e4];simp only [fK,fD,a2d o4,ed,aC5,iO,fR,fS]
  ·have hin:(((if x.Op=6\/x.Op=8 then aZ p n else l).length:Nat):Int)<=z:=by split <;> omega
   obtain⟨e4,n4⟩:=fl4 (p:=p) (rec:=eW AA) (G:=G) (sz:=s.sz) (g:=put p h) (Fr:=Fr) (Tk:=Tk) (Df:=Df) (Mn:=Mn) (N:=p.AD.length) (x:=x) (ins:=if x.Op=6\/x.Op=8 then aZ p n else l) (w:=z) x.AO [] AA _ rfl (by omega) (by simp;omega) hnd (fun r hr=>by
    refine sub _ ?_ hin;exact fK_kd (list:=l) (w:=aZ p n) (by unfold fK;rw [a2c o4];exact a1i.2 ⟨r,hr,rfl⟩))
   simp only [a0W,a0q]at e4;rw [a2c o4,bsm];dsimp only
   rw [show(⟨x.Op,yN x l (aZ p n),flL l x.AW,x.AO,yT x l (aZ p n)⟩:Ah)=yOf x l (aZ p n)from rfl,e4];simp only [fK,fD,a2c o4,fG]
open Go.SX Go.SW Go.Dt
theorem aIx (AC:List Int):∀ (AB:List Int) (k:Nat),AC.length<k->AB.length+AC.length<=900000000->oP (AB++AC) (AB++AC) k AB.length=some (.inl ()):=by
 induction AC with
 | nil=>
  intro AB k hk _;obtain _ | k:=k
  ·omega
  rw [oP,a2c (by simp)]
 | cons e AC ih=>
  intro AB k hk hB;obtain _ | k:=k
  ·omega
  simp only [a0S]at hk hB;rw [oP,a2d (aV _ _ _),aX,bsm,bsm,a2c (by simp),aM (by omega),bsm,bA,aU];exact ih (AB++[e]) k (by omega) (by simp;omega)
theorem aK3 {AA:Nat} {l:List Int} (hf:l.length<AA) (h:l.length<=900000000):vM AA l l=some true:=by
 have g:=aIx l [] AA hf (by simp;omega)
 simp only [a1n,a0W,a0q]at g
 rw [vM,a2c (by simp),g,bsm]
theorem sdef1 {sp:List Am} {ru:List Ai} (AC:List An):∀ (AB:List An) (k:Nat),AC.length<k->AB.length+AC.length<=900000000->mS ⟨AB++AC,sp,ru⟩ ⟨AB++AC,sp,ru⟩ k AB.length=some (.inl ()):=by
 induction AC with
 | nil=>
  intro AB k hk _;obtain _ | k:=k
  ·omega
  rw [mS,a2c (by simp)]
 | cons e AC ih=>
  intro AB k hk hB;obtain _ | k:=k
  ·omega
  simp only [a0S]at hk hB;rw [mS,a2d (aV _ _ _),aX,bsm,bsm,a2a rfl,a2a rfl,Bool.and_self,a1Y,aM (by omega),bsm,bA,aU];exact ih (AB++[e]) k (by omega) (by simp;omega)
theorem sdef2 {ch:List An} {ru:List Ai} (AC:List Am):∀ (AB:List Am) (k:Nat),AC.length<k->AB.length+AC.length<=900000000->nD ⟨ch,AB++AC,ru⟩ ⟨ch,AB++AC,ru⟩ k AB.length=some (.inl ()):=by
 induction AC with
 | nil=>
  intro AB k hk _;obtain _ | k:=k
  ·omega
  rw [nD,a2c (by simp)]
 | cons e AC ih=>
  intro AB k hk hB;obtain _ | k:=k
  ·omega
  simp only [a0S]at hk hB;rw [nD,a2d (aV _ _ _),aX,bsm,bsm,a2a rfl,a2a rfl,Bool.and_self,a1Y,aM (by omega),bsm,bA,aU];exact ih (AB++[e]) k (by omega) (by simp;omega)
theorem sdef3 {AA:Nat} {ch:List An} {sp:List Am} (AC:List Ai):∀ (AB:List Ai) (k:Nat),AC.length<k->AB.length+AC.length<=900000000->(∀ r∈AC,r.Ab.length<AA/\r.Ab.length<=900000000)->nQ AA ⟨ch,sp,AB++AC⟩ ⟨ch,sp,AB++AC⟩ k AB.length=some (.inl ()):=by
 induction AC with
 | nil=>
  intro AB k hk _ _;obtain _ | k:=k
  ·omega
  rw [nQ,a2c (by simp)]
 | cons e AC ih=>
  intro AB k hk hB hr;obtain _ | k:=k
  ·omega
  simp only [a0S]at hk hB;have h:=hr e (.head _);rw [nQ,a2d (aV _ _ _),aX,bsm,bsm,a2c (by simp),bsm,bsm,a2c (by simp),bsm,bsm,aK3 h.1 h.2,bsm,a1Y,aM (by omega),bsm,bA,aU];exact ih (AB++[e]) k (by omega) (by simp;omega) (fun r hr'=>hr r (.tail _ hr'))
theorem sdef {AA:Nat} {d:AN} (hf:3000<AA) (okd:okD d=true):zF AA d d=some true:=by
 obtain⟨ch,sp,ru⟩:=d
 have hl:=eX okd
 dsimp only at hl
 have e1:=sdef1 (sp:=sp) (ru:=ru) ch [] AA (by omega) (by simp;omega)
 have e2:=sdef2 (ch:=ch) (ru:=ru) sp [] AA (by omega) (by simp;omega)
 have e3:=sdef3 (AA:=AA) (ch:=ch) (sp:=sp) ru [] AA (by omega) (by simp;omega) (fun r hr=>by have:=(hl.2.2.2.2 r hr).1;omega)
 simp only [a1n,a0W,a0q]at e1 e2 e3
 rw [zF,a2c (by simp),a2c (by simp),a2c (by simp),e1,bsm]
 dsimp only
 rw [e2,bsm]
 dsimp only
 rw [e3,bsm]
structure SmN (y:Ah):Prop where
 la:y.AW.length<=3
 ex:∀ e∈y.AW,nE e<=60
 lk:y.AO.length<=2
 lt:y.AM.length<=6012
theorem aGv {l:List Int}:(∀ e,nE (flE l e)=nE e)/\∀ ks,nL (flL l ks)=nL ks/\(flL l ks).length=ks.length:=⟨go,goL⟩
where
 go:∀ e,nE (flE l e)=nE e
  | ⟨op,n,ks⟩=>by simp only [flE,nE];rw [(goL ks).1]
 goL:∀ ks,nL (flL l ks)=nL ks/\(flL l ks).length=ks.length
  | []=>⟨rfl,rfl⟩
  | k :: ks=>by simp only [flL,nL,a0S];rw [go k,(goL ks).1,(goL ks).2];exact⟨rfl,rfl⟩
theorem fl_mem {l:List Int} {R:Nat->Prop}:∀ {ks:List AT},(∀ e∈ks,R (nE e))->∀ e∈flL l ks,R (nE e)
 | [],_,e,he=>by cases he
 | k :: ks,h,e,he=>by
  rcases a1f.1 he with rfl | he
  ·rw [aGv.1];exact h k (.head _)
  ·exact fl_mem (fun e he=>h e (.tail _ he)) e he
theorem yOf_sm {p:AI} {s:VS} {rk:Int->Nat} (C:Cx p s rk) {n:Int} {x:AV} {z:Int} (K:Nd p s rk n x z) (l:List Int):SmN (yOf x l (aZ p n)):=by
 have hw:=C.want_len K
 have h6:=K.z6
 refine⟨?_,?_,K.g.ok.lk,?_⟩
 ·show(flL l x.AW).length<=3
  rw [(aGv.2 x.AW).2];exact K.g.ok.la
 ·exact fl_mem (R:=fun k=>k<=60) K.g.ok.exps
 ·show(yT x l (aZ p n)).length<=6012
  unfold yT;split
  ·rw [a0V];omega
  ·simp
theorem aCR {g:Int->List Int->Int->List Ah->List Ah}:∀ (l:List C3) (nd:List Ah),(∀ c∈l,∀ nd,(∀ y∈nd,SmN y)->∀ y∈g c.1 c.2.1 c.2.2 nd,SmN y)->(∀ y∈nd,SmN y)->∀ y∈fG g l nd,SmN y
 | [],_,_,h=>h
 | c :: l,nd,hg,h=>aCR l _ (fun c hc=>hg c (.tail _ hc)) (hg c (.head _) nd h)
theorem aCx {p:AI} {s:VS} {rk:Int->Nat} (C:Cx p s rk):∀ (h:Nat) (n:Int) (x:AV) (z:Int) (l:List Int) (nd:List Ah),Nd p s rk n x z->(∀ y∈nd,SmN y)->∀ y∈put p h n l z nd,SmN y
 | 0,_,_,_,_,_,_,h=>h
 | h+1,n,x,z,l,nd,K,hs=>by
  rw [put,K.g.node];dsimp only
  refine aCR _ _ (fun c hc nd hnd=>?_) (aCR _ _ (fun c hc nd hnd=>?_) fun y hy=>?_)
  ·obtain⟨_,x',K'⟩:=C.child K.g (fK_kd hc);exact aCx C h c.1 x' c.2.2 c.2.1 nd K' hnd
  ·obtain⟨_,x',K'⟩:=C.child K.g (fD_kd hc);exact aCx C h c.1 x' c.2.2 c.2.1 nd K' hnd
  ·rcases List.mem_or_eq_of_mem_set hy with q | q
   ·exact hs y q
   ·rw [q];exact yOf_sm C K l
def qN:Ah:=⟨0,0,[],[],[]⟩
def dU (p:AI):AE:=⟨p.AH,bB p p.AG,put p 60 p.AG (bB p p.AG) p.AH.length (List.replicate p.AD.length qN),p.AF,p.AG⟩
theorem Cx.main {p:AI} {s:VS} {rk:Int->Nat} (C:Cx p s rk):∃ x,Nd p s rk p.AG x p.AH.length/\rk p.AG<60/\NeedB p s p.AG p.AH.length:=by
 have h1:=dF C.fm.main
 have:=C.fm.len
 obtain⟨hr,x,z,G,hz⟩:=C.fm.good p.AG h1.1 (by omega)
 have e:=G.size
 rw [C.fm.main]at e;cases e
 obtain⟨_,w,G',_,N⟩:=C.need (n:=p.AG) h1.1 (by omega)
 have e:=G'.size
 rw [C.fm.main]at e;cases e
 exact⟨x,⟨G,hz⟩,hr,N⟩
theorem flat_S {p:AI} {s:VS} {rk:Int->Nat} (C:Cx p s rk):zE F p=some (dU p,0):=by
 have h60:=C.fm.n60
 have h12:=C.fm.f12
 obtain⟨g,e1,ha,hm⟩:=aGt C
 obtain⟨x,K,hr,N⟩:=C.main
 have hl:=N.len
 obtain⟨e2,_⟩:=flat1_p C ha (Fr:=p.AH) (Tk:=bB p p.AG) (Df:=p.AF) (Mn:=p.AG) 60 F p.AG x p.AH.length (bB p p.AG) K hr (by decide) hl (List.replicate p.AD.length qN) (by simp)
 unfold zE
 rw [show(⟨p.AH,p.AD,p.AF,p.AG⟩:AI)=p from rfl,e1,bsm]
 simp only [ne_eq,not_true_eq_false,if_false]
 rw [aGm C.sm C.chk_ C.fm.len h60,bsm,tW,a1n,cX (by omega),bsm,bsm,hm,a1Q,aDm (by omega),bsm,yY (by omega),bsm,aEe (by unfold F;omega) C.sm.Ad C.sm.AY,bsm,
  show(⟨0,0,[],[],[]⟩:Ah)=qN from rfl]
 simp only at e2
 rw [e2,bsm]
 rfl
open Go.SX Go.SW Go.Dt
theorem aEq {l:List Int} {R:Nat->Prop}:∀ {ks a:List AT},opL l ks=some a->(∀ e∈ks,R (nE e))->∀ e∈a,R (nE e)
 | [],a,h,_,e,he=>by rw [opL]at h;cases h;cases he
 | k :: ks,a,h,hk,e,he=>by
  obtain⟨k',ks',rfl,h1,h2⟩:=aBV h;cases he with
  | head=>rw [(aFw h1).1];exact hk k (.head _)
  | tail _ he=>exact aEq h2 (fun e he=>hk e (.tail _ he)) e he
theorem aEd {f:AE} (hm:SmF f) {s:FS} (hi:InvF f s) (hl:s.nd.length=f.AD.length):SmP (bM f s):=by
 refine⟨by show s.nd.length<=_;rw [hl];exact hm.nodes,hm.Ad,hm.free,hm.names,fun w hw=>?_,hm.AY⟩
 obtain⟨i,hi2⟩:=a1h.1 hw
 rcases hi i w hi2 with rfl | ⟨y,l,t,h1,h2⟩
 ·exact⟨by simp [aAh],by simp [aAh],fun e he=>by simp [aAh]at he⟩
 ·obtain⟨a1,a2,a3⟩:=hm.args y (a1k h1);unfold opN at h2;obtain⟨m,_,h2⟩:=bind_some h2;obtain⟨a,ha,h2⟩:=bind_some h2;cases h2;exact⟨by rw [aEC ha];exact a1,a2,aEq (R:=fun n=>n<=2000000) ha a3⟩
theorem aBt {x:Bool} {f:AE} (h:¬ ((f.AD.length<=60/\f.AH.length<=12/\f.AF.length<=12)/\cT f.AH.length none f.AM=true)):fV x f=none:=by
 unfold fV oU;rw [a2c h];rfl
theorem aB9 {x:Bool} {f:AE} (h:(f.AD.length<=60/\f.AH.length<=12/\f.AF.length<=12)/\cT f.AH.length none f.AM=true):oU x f=cG x f f.AD.length (fW f) f.AG f.AM f.AH.length:=by
 unfold oU;rw [a2d h]
theorem uC {f:AE}:WF f (fW f):=⟨by simp [fW],by simp [fW],by simp [fW],by simp [fW]⟩
theorem start_un {f:AE}:unF (fW f)<=f.AD.length:=by simp [unF,fW,List.countP_replicate]
theorem aI6 {f:AE} (AC:List AN):∀ (AB:List AN) (k:Nat),f.AF=AB++AC->AC.length<k->AB.length+AC.length<=3000000->∃ r,lM f k AB.length=some r/\((∀ d∈AC,d.AQ.length<=30/\d.AS.length<=30)/\r= .inl ()\/(¬ ∀ d∈AC,d.AQ.length<=30/\d.AS.length<=30)/\r= .inr none):=by
 induction AC with
 | nil=>
  intro AB k hd hk _;obtain _ | k:=k
  ·omega
  exact⟨_,by rw [lM,hd,a2c (by simp)], .inl ⟨(fun d h=>by cases h),rfl⟩⟩
 | cons e AC ih=>
  intro AB k hd hk hB;obtain _ | k:=k
  ·omega
  simp only [a0S]at hk hB;rw [lM,a2d (by rw [hd];exact aV _ _ _),show idx f.AF (AB.length:Int)=some e from by rw [hd];exact aX _ _ _,bsm];by_cases c1:30<(e.AQ.length:Int)
  ·rw [a2d c1];exact⟨_,rfl, .inr ⟨fun h=>by have:=(h e (.head _)).1;omega,rfl⟩⟩
  rw [a2c c1];by_cases c2:30<(e.AS.length:Int)
  ·rw [a2d c2];exact⟨_,rfl, .inr ⟨fun h=>by have:=(h e (.head _)).2;omega,rfl⟩⟩
  rw [a2c c2,aM (by omega),bsm,aU];obtain⟨r,g1,g2⟩:=ih (AB++[e]) k (by rw [hd,bA]) (by omega) (by simp;omega)
  refine⟨r,g1,?_⟩;rcases g2 with⟨g2,g3⟩ | ⟨g2,g3⟩
  ·refine .inl ⟨fun d hd=>?_,g3⟩
   cases hd with
   | head=>omega
   | tail _ h=>exact g2 d h
  ·exact .inr ⟨fun h=>g2 fun d hd=>h d (.tail _ hd),g3⟩
theorem aAx {f:AE} (hm:SmF f):rY F f=some (match fV false f with | some s=>some (cvP f s) | none=>none):=by
 have m1:=hm.nodes;have m2:=hm.free;have m3:=hm.Ad;have m4:=hm.take
 rw [rY]
 by_cases c1:60<(f.AD.length:Int)
 ·rw [a2d c1,aBt (by omega)]
 rw [a2c c1]
 by_cases c2:12<(f.AH.length:Int)
 ·rw [a2d c2,aBt (by omega)]
 rw [a2c c2]
 by_cases c3:12<(f.AF.length:Int)
 ·rw [a2d c3,aBt (by omega)]
 rw [a2c c3,aHd (by show _<1000000000;omega) (by omega),bsm]
 by_cases hr:cT f.AH.length none f.AM=true
 ·have hc:(f.AD.length<=60/\f.AH.length<=12/\f.AF.length<=12)/\cT f.AH.length none f.AM=true:=⟨by omega,hr⟩
  obtain⟨r,g1,g2⟩:=aI6 (f:=f) f.AF [] F rfl (by show _<1000000000;omega) (by simp;omega)
  rw [hr,a1Y,show lM f F 0=_ from g1,bsm];rcases g2 with⟨hD,rfl⟩ | ⟨hD,rfl⟩
  ·dsimp only
   have htl:=aBW (b:=f.AH.length) (by omega) hr
   obtain⟨r,q1,q2⟩:=(pvisF hm hD f.AD.length F (by show _<1000000000;omega)).run (fW f) f.AG f.AM f.AH.length uC start_un htl (by omega)
   rw [yY (by omega),bsm,bsm,yY (by omega),bsm,tW,a1n,cX (by omega),bsm,bsm,yY (by omega),bsm,aEe (by show _<1000000000;omega) m3 hm.AY,bsm,fC,a1n,cX (by omega),bsm,bsm,
    show dQ F (⟨(⟨f.AH,f.AM,f.AD,f.AF,f.AG⟩:AE),List.replicate f.AD.length [],List.replicate f.AD.length [],List.replicate f.AD.length false,(⟨f.AH,List.replicate f.AD.length (⟨0,0,[],[]⟩:AV),f.AF,f.AG⟩:AI)⟩:Af) f.AG f.AM f.AH.length=_ from q1,bsm]
   unfold fV;rw [aB9 hc];cases hq:cG false f f.AD.length (fW f) f.AG f.AM f.AH.length with
   | none=>rw [hq]at q2;obtain⟨s',rfl⟩:=q2;rfl
   | some s=>
    rw [hq]at q2;have q2:r=(cvP f s,true):=q2;subst q2;obtain⟨i1,i2⟩:=aDb (x:=false) (f:=f) (s:=s) (by rw [aB9 hc];exact hq)
    rw [bsm];dsimp only
    rw [a0o,a1X,show tU F (⟨(cvP f s).AK.AH,(cvP f s).AK.AD,(cvP f s).AK.AF,(cvP f s).AK.AG⟩:AI)=some (if (dZ (bM f s)).isSome=true then 0 else 2)from check_eq (aEd hm i1 i2),bsm];by_cases hk:(dZ (bM f s)).isSome=true
    ·rw [a2d hk,a2d hk,a2c (by decide)]
    ·rw [a2c hk,a2c hk,a2d (by decide)]
  ·have:fV false f=none:=by
    cases ha:fV false f with
    | none=>rfl
    | some s=>
     unfold fV at ha;obtain⟨t,_,ha⟩:=bind_some ha;split at ha
     ·rename_i hk;obtain⟨vs,hvs⟩:=Option.isSome_iff_exists.1 hk;exact absurd (fun d hd=>by obtain⟨h1,h2,_⟩:=eX (aB8 hvs d hd);exact⟨h1,h2⟩) hD
     ·cases ha
   rw [this]
 ·rw [Bool.eq_false_iff.2 hr,a1X,aBt (fun h=>hr h.2)]
open Go.SX Go.SW Go.Dt
theorem aD8 {x:Int}:∀ (l:List Int) (k:Int),x∈l->∃ i:Nat,fndA x l k=k+i/\l[i]? =some x
 | [],_,h=>by cases h
 | y :: l,k,h=>by
  rw [fndA];by_cases e:x=y
  ·rw [a2d e];exact⟨0,by simp,by simp [e]⟩
  ·rw [a2c e];rcases a1f.1 h with h | h
   ·exact absurd h e
   ·obtain⟨i,h1,h2⟩:=aD8 l (k+1) h;exact⟨i+1,by rw [h1];simp only [Int.natCast_add];omega,by simpa using h2⟩
theorem aAd {l:List Int} {x:Int} (h:x∈l):∃ i:Nat,fnd l x=(i:Int)/\l[i]? =some x:=by
 obtain⟨i,h1,h2⟩:=aD8 l 0 h
 exact⟨i,by rw [fnd,h1];omega,h2⟩
theorem aBp {l:List Int} {x:Int} (h:x∈l):idx l (fnd l x)=some x:=by
 obtain⟨i,h1,h2⟩:=aAd h
 rw [h1];exact iP h2
theorem pick_fnd {l w:List Int} (h:∀ i∈w,i∈l):pick l (w.map (fnd l))=w:=by
 rw [pick,a1b]
 exact(a0Z (g:=id) fun i hi=>by simp [aBp (h i hi)]).trans (List.map_id _)
theorem fnd_lt {l:List Int} (hs:Srt l) {a b:Int} (ha:a∈l) (hb:b∈l) (h:a<b):fnd l a<fnd l b:=by
 obtain⟨i,h1,h2⟩:=aAd ha
 obtain⟨j,h3,h4⟩:=aAd hb
 obtain⟨hi,e1⟩:=a0K.1 h2
 obtain⟨hj,e2⟩:=a0K.1 h4
 rw [h1,h3]
 by_cases hij:i<j
 ·omega
 ·by_cases hji:j<i
  ·have:=a1s.1 hs j i hj hi hji;omega
  ·have:i=j:=by omega
   subst this;omega
theorem aDk {b:Int} {q:Option Int} {n:Int} {l:List Int}:cT b q (n :: l)=((decide (0<=n/\n<b) && (match q with | none=>true | some q=>decide (q<n))) && cT b (some n) l):=by cases q <;> rfl
theorem aGs {l:List Int} (hs:Srt l):∀ (w:List Int) (q:Option Int),Srt w->(∀ i∈w,i∈l)->(∀ a,q=some a->∀ i∈w,a<fnd l i)->cT l.length q (w.map (fnd l))=true
 | [],q,_,_,_=>by cases q <;> rfl
 | i :: w,q,h,hm,hq=>by
  obtain⟨h1,h2⟩:=a1r.1 h;obtain⟨j,e1,e2⟩:=aAd (hm i (.head _));have hj:j<l.length:=(a0K.1 e2).1;have ih:=aGs hs w (some (fnd l i)) h2 (fun a ha=>hm a (.tail _ ha)) (fun a ha b hb=>by cases ha;exact fnd_lt hs (hm i (.head _)) (hm b (.tail _ hb)) (h1 b hb))
  rw [a1a,aDk,ih,Bool.and_true,a2a (by omega),a0p];cases q with
  | none=>rfl
  | some a=>exact a2a (hq a rfl i (.head _))
theorem op_fl {l:List Int}:(∀ e,(∀ i∈nmE e,i∈l)->opE l (flE l e)=some e)/\∀ ks,(∀ i∈nmL ks,i∈l)->opL l (flL l ks)=some ks:=⟨go,goL⟩
where
 go:∀ e,(∀ i∈nmE e,i∈l)->opE l (flE l e)=some e
  | ⟨op,n,ks⟩,h=>by
   simp only [nmE]at h;have hk:=goL ks (fun i hi=>h i (a1e _ hi))
   rw [flE,opE];by_cases o:op=2
   ·rw [a2d o,a2d o,aBp (h n (by rw [a2d o];simp)),bsm,hk,bsm]
   ·rw [a2c o,a2c o,bsm,hk,bsm]
 goL:∀ ks,(∀ i∈nmL ks,i∈l)->opL l (flL l ks)=some ks
  | [],_=>by rw [flL,opL]
  | k :: ks,h=>by
   simp only [nmL]at h;rw [flL,opL,go k (fun i hi=>h i (a1d _ hi)),bsm,goL ks (fun i hi=>h i (a1e _ hi)),bsm]
def eZ (s s':VS) (i:Int):Prop:=idx s.AR i≠some true/\idx s'.AR i=some true
theorem mF {g:VS->Int->Int->Option VS} (H:∀ s n z s',g s n z=some s'->∀ i,idx s.AR i=some true->idx s'.AR i=some true):∀ (l:List (Int × Int)) (s s':VS),bY g s l=some s'->∀ i,idx s.AR i=some true->idx s'.AR i=some true
 | [],s,s',h,i,hi=>by cases h;exact hi
 | c :: l,s,s',h,i,hi=>by
  obtain⟨s1,h1,h2⟩:=bind_some h;exact mF H l s1 s' h2 i (H _ _ _ _ h1 i hi)
theorem iM {s:VS} {n z:Int} {x:AV} {i:Int} (hn:idx s.AR n=some false):idx (mark s n z x).AR i=if i=n then some true else idx s.AR i:=by
 have:=dF hn
 split
 ·rename_i e;subst e;exact jW this.1 this.2
 ·rename_i e;exact jV this.1 e
theorem jC {p:AI}:∀ (k:Nat) (s:VS) (n z:Int) (s':VS),vis p k s n z=some s'->∀ i,idx s.AR i=some true->idx s'.AR i=some true
 | 0,_,_,_,_,h,_,_=>by simp [vis]at h
 | k+1,s,n,z,s',h,i,hi=>by
  obtain⟨x,_,hn,_,_,h⟩:=rN h;refine mF (jC k) _ _ _ h i ?_;rw [iM hn];split
  ·rfl
  ·exact hi
abbrev c2 (c:C3):Int × Int:=(c.1,c.2.2)
def cs3 (p:AI) (x:AV) (list:List Int) (z:Int) (w:List Int):List C3:=fD p x z w++fK p x list z w
theorem uT {p:AI} {x:AV} {list:List Int} {z:Int} {w:List Int}:(cs3 p x list z w).map c2=eH p x z:=by
 unfold cs3 fD fK eH
 by_cases h:x.Op=4
 ·simp only [a2d h];cases idx p.AF x.N with
  | none=>rfl
  | some d=>simp [fR,fS,chD,Function.comp_def]
 ·simp only [a2c h];simp [Function.comp_def]
theorem cs3_w {p:AI} {x:AV} {list:List Int} {z:Int} {w w':List Int} (h:cS x.Op=true->w=w'):cs3 p x list z w=cs3 p x list z w':=by
 by_cases t:cS x.Op=true
 ·rw [h t]
 ·have o:¬ (x.Op=4\/x.Op=6\/x.Op=7\/x.Op=8):=fun q=>t (a2a q)
  unfold cs3 fD fK;simp only [a2c (show ¬ x.Op=4 by omega),a2c (show ¬ (x.Op=6\/x.Op=8) by omega)]
theorem aC9 {p:AI} {h:Nat} {n:Int} {list:List Int} {z:Int} {nd:List Ah} {x:AV} (e:idx p.AD n=some x):put p (h+1) n list z nd=fG (put p h) (cs3 p x list z (aZ p n)) (nd.set n.toNat (yOf x list (aZ p n))):=by
 rw [put,e]
 dsimp only
 rw [cs3,aC5]
theorem aA2 {p:AI} {k h:Nat} (H:∀ (s:VS) (c:C3) (s':VS) (nd:List Ah),vis p k s c.1 c.2.2=some s'->∀ i,¬ eZ s s' i->idx (put p h c.1 c.2.1 c.2.2 nd) i=idx nd i):∀ (cs:List C3) (s s':VS) (nd:List Ah),bY (vis p k) s (cs.map c2)=some s'->∀ i,¬ eZ s s' i->idx (fG (put p h) cs nd) i=idx nd i
 | [],_,_,_,_,_,_=>rfl
 | c :: cs,s,s',nd,h1,i,hi=>by
  obtain⟨s1,e1,e2⟩:=bind_some h1;have m2:=mF (jC k) _ _ _ e2;rw [fG,aA2 H cs s1 s' _ e2 i (fun q=>hi ⟨fun h=>q.1 (jC k _ _ _ _ e1 i h),q.2⟩),H s c s1 nd e1 i (fun q=>hi ⟨q.1,m2 i q.2⟩)]
theorem aDD {p:AI}:∀ (k h:Nat) (s:VS) (c:C3) (s':VS) (nd:List Ah),k<=h->vis p k s c.1 c.2.2=some s'->∀ i,¬ eZ s s' i->idx (put p h c.1 c.2.1 c.2.2 nd) i=idx nd i
 | 0,_,_,_,_,_,_,h,_,_=>by simp [vis]at h
 | k+1,0,_,_,_,_,h,_,_,_=>by omega
 | k+1,h+1,s,c,s',nd,hk,hv,i,hi=>by
  obtain⟨x,ex,hn,_,_,hv⟩:=rN hv;have hm:=mF (jC k) _ _ _ hv;rw [<- uT (list:=c.2.1) (w:=aZ p c.1)]at hv;have hne:i≠c.1:=fun e=>hi ⟨by rw [e,hn];simp,hm i (by rw [iM hn,a2d e])⟩
  rw [aC9 ex,aA2 (fun s c s' nd=>aDD k h s c s' nd (by omega)) _ _ _ _ hv i (fun q=>hi ⟨fun h=>q.1 (by rw [iM hn,a2c hne];exact h),q.2⟩),jV (dF hn).1 hne]
def fP (p:AI) (g:AE):Nat->Int->List Int->Int->Prop
 | 0,_,_,_=>True
 | k+1,n,list,z=>∃ x,idx p.AD n=some x/\idx g.AD n=some (yOf x list (aZ p n))/\∀ c∈cs3 p x list z (aZ p n),fP p g k c.1 c.2.1 c.2.2
theorem aGQ {p:AI} {g:AE} {k h:Nat} (hk:k<=h) (H:∀ (s:VS) (c:C3) (s':VS) (nd:List Ah),nd.length=p.AD.length->vis p k s c.1 c.2.2=some s'->(∀ i,eZ s s' i->idx g.AD i=idx (put p h c.1 c.2.1 c.2.2 nd) i)->fP p g k c.1 c.2.1 c.2.2):
 ∀ (cs:List C3) (s s':VS) (nd:List Ah),nd.length=p.AD.length->bY (vis p k) s (cs.map c2)=some s'->(∀ i,eZ s s' i->idx g.AD i=idx (fG (put p h) cs nd) i)->∀ c∈cs,fP p g k c.1 c.2.1 c.2.2
 | [],_,_,_,_,_,_,c,hc=>by cases hc
 | d :: cs,s,s',nd,hl,h1,hg,c,hc=>by
  obtain⟨s1,e1,e2⟩:=bind_some h1;have m1:=jC k _ _ _ _ e1;have m2:=mF (jC k) _ _ _ e2;rcases a1f.1 hc with rfl | hc
  ·refine H s c s1 nd hl e1 fun i hi=>?_
   rw [hg i ⟨hi.1,m2 i hi.2⟩,fG,aA2 (fun s c s' nd=>aDD k h s c s' nd hk) _ _ _ _ e2 i (fun q=>q.1 hi.2)]
  ·exact aGQ hk H cs s1 s' _ ((uV _ _ _ _ _).trans hl) e2 (fun i hi=>hg i ⟨fun h=>hi.1 (m1 i h),hi.2⟩) c hc
theorem aFF {p:AI} {g:AE}:∀ (k h:Nat) (s:VS) (c:C3) (s':VS) (nd:List Ah),k<=h->nd.length=p.AD.length->vis p k s c.1 c.2.2=some s'->(∀ i,eZ s s' i->idx g.AD i=idx (put p h c.1 c.2.1 c.2.2 nd) i)->fP p g k c.1 c.2.1 c.2.2
 | 0,_,_,_,_,_,_,_,_,_=>by rw [fP];trivial
 | k+1,0,_,_,_,_,h,_,_,_=>by omega
 | k+1,h+1,s,c,s',nd,hk,hl,hv,hg=>by
  obtain⟨x,ex,hn,_,_,hv⟩:=rN hv;have hm:=mF (jC k) _ _ _ hv;rw [<- uT (list:=c.2.1) (w:=aZ p c.1)]at hv;have hx:=dF ex;rw [fP];refine⟨x,ex,?_,aGQ (h:=h) (by omega) (fun s c s' nd hl=>aFF k h s c s' nd (by omega) hl) _ _ _ (nd.set c.1.toNat (yOf x c.2.1 (aZ p c.1))) (by rw [a0X];exact hl) hv fun i hi=>?_⟩
  ·rw [hg c.1 ⟨by rw [hn];simp,hm _ (by rw [iM hn,a2d rfl])⟩,aC9 ex,aA2 (fun s c s' nd=>aDD k h s c s' nd (by omega)) _ _ _ _ hv c.1 (fun q=>q.1 (by rw [iM hn,a2d rfl])),jW hx.1 (by rw [hl];exact hx.2)]
  ·rw [<- aC9 ex];exact hg i ⟨fun h=>hi.1 (by rw [iM hn];split <;> first | rfl | exact h),hi.2⟩
theorem aBZ {g:FS->Int->List Int->Int->Option FS}:∀ (l m:List (Option (Int × List Int × Int))) (s:FS),dX g s (l++m)=(dX g s l).bind fun s=>dX g s m
 | [],m,s=>rfl
 | none :: l,m,s=>rfl
 | some t :: l,m,s=>by
  simp only [a0w,dX];cases g s t.1 t.2.1 t.2.2 with
  | none=>rfl
  | some s1=>exact aBZ l m s1
theorem aC7 {d:AN}:own d=(dI d:Int):=by unfold own dI;omega
theorem aFT {f:AE} {p:AI} {g:FS->Int->List Int->Int->Option FS} {s:FS} {y:Ah} {x:AV} {list tk:List Int} {z:Int} (hd:f.AF=p.AF) (ho:y.Op=x.Op) (hn:x.Op=4->y.N=x.N) (hk:y.AO=x.AO) (hok:x.Op=4->∃ d,idx p.AF x.N=some d/\okD d=true):
 iY false f g s y list tk z=dX g s ((cs3 p x list z tk).map some):=by
 unfold iY cs3 fD fK
 rw [ho,hd,hk]
 by_cases h:x.Op=4
 ·obtain⟨d,ed,okd⟩:=hok h;rw [a2d h,a2d h,a2d h,hn h,ed,bsm,a2d (by intro q;cases q)];dsimp only
  have hr:d.AP.map (qL false d (tk++upto z (dI d)) (z+dI d))=(fR d z (iO tk z d)).map some:=by
   rw [fR,a1b];refine a0Z fun r hr=>?_
   rw [aDg,aCy ((eX okd).2.2.2.2 r hr).2,bsm];simp only [Function.comp_def,iO,aC7,a0r]
  have hs:(d.AS.map fun p=>some (p.AU,tk++upto z (dI d),z+(dI d:Int)))=(fS d z (iO tk z d)).map some:=by
   rw [fS,a1b];refine a0Z fun r hr=>?_
   simp only [Function.comp_def,iO,aC7,a0r]
  rw [hr,hs,a0Y,a0Y,aBZ,aBZ,Option.bind_assoc];simp only [a1b,Function.comp_def,aC7,a0r]
 ·rw [a2c h,a2c h,a2c h,a1n,a1b];simp only [Function.comp_def,gQ,ho]
open Go.SX Go.SW Go.Dt
structure Lo (p:AI) (list:List Int) (n z:Int):Prop where
 srt:Srt list
 bnd:∀ i∈list,0<=i/\i<z
 has:∀ i∈bB p n,i∈list
theorem kC {z i:Int} {k:Nat}:i∈upto z k ↔ z<=i/\i<z+k:=by
 simp only [upto,a1i,a1l]
 constructor
 ·rintro⟨j,hj,rfl⟩;omega
 ·intro h;exact⟨(i - z).toNat,by omega,by omega⟩
theorem aF6 {z:Int}:∀ k,Srt (upto z k)
 | 0=>by simp [upto]
 | k+1=>by
  rw [aFO];refine a1q.2 ⟨aF6 k,by simp,fun a ha b hb=>?_⟩
  have:=kC.1 ha;simp only [a1m]at hb;omega
theorem uQ {l:List Int} {z:Int} {k:Nat} (h0:0<=z) (h:Srt l) (hb:∀ i∈l,0<=i/\i<z):Srt (l++upto z k)/\∀ i∈l++upto z k,0<=i/\i<z+k:=by
 refine⟨a1q.2 ⟨h,aF6 k,fun a ha b hb'=>?_⟩,fun i hi=>?_⟩
 ·have:=hb a ha;have:=kC.1 hb';omega
 ·rcases a1c.1 hi with q | q
  ·have:=hb i q;omega
  ·have:=kC.1 q;omega
theorem aHD {b:Int}:∀ (w:List Int) (q:Option Int),Srt w->(∀ i∈w,0<=i/\i<b)->(∀ a,q=some a->∀ i∈w,a<i)->cT b q w=true
 | [],q,_,_,_=>by cases q <;> rfl
 | i :: w,q,h,hm,hq=>by
  obtain⟨h1,h2⟩:=a1r.1 h;have ih:=aHD w (some i) h2 (fun a ha=>hm a (.tail _ ha)) (fun a ha b hb=>by cases ha;exact h1 b hb)
  rw [aDk,ih,Bool.and_true,a2a (hm i (.head _)),a0p];cases q with
  | none=>rfl
  | some a=>exact a2a (hq a rfl i (.head _))
variable {p:AI} {vs:VS} {rk:Int->Nat}
theorem Cx.isNeed (C:Cx p vs rk) {n:Int} {x:AV} {z:Int} (K:Nd p vs rk n x z):rS p n z (bB p n):=by
 have hn:=dF K.g.node
 obtain⟨_,w,G',_,N⟩:=C.need hn.1 hn.2
 have e:=G'.size
 rw [K.g.size]at e;cases e
 exact N.is
theorem Cx.need_kid (C:Cx p vs rk) {n:Int} {x:AV} {z:Int} (K:Nd p vs rk n x z) {m:Int} (hm:m∈kd p x) {i:Int} (hi:i∈bB p m) (h:i<z):i∈bB p n:=by
 obtain⟨w,hw⟩:=rF (z:=z) hm
 obtain⟨_,y,K'⟩:=C.child K.g hw
 have q:=((C.isNeed K').2 i).1 hi
 exact((C.isNeed K).2 i).2 ⟨q.1,h,(zR K.g.node).2 (.inr ⟨m,hm,q.2.2⟩)⟩
theorem Cx.name_need (C:Cx p vs rk) {n:Int} {x:AV} {z:Int} (K:Nd p vs rk n x z) {i:Int} (hi:i∈nmN x):i∈bB p n:=
 ((C.isNeed K).2 i).2 ⟨(K.g.ok.names i hi).1,(K.g.ok.names i hi).2,(zR K.g.node).2 (.inl hi)⟩
theorem dks_kd {x:AV} {d:AN} (o4:x.Op=4) (ed:idx p.AF x.N=some d) {m:Int} (h:m∈dks d):m∈kd p x:=by
 unfold kd
 rw [a2d o4,ed]
 exact a1d _ h
theorem Cx.isWant (C:Cx p vs rk) {n:Int} {x:AV} {z:Int} (K:Nd p vs rk n x z):Srt (aZ p n)/\(∀ i∈aZ p n,i∈bB p n)/\∀ i∈aZ p n,0<=i/\i<z:=by
 have nb:∀ i∈bB p n,0<=i/\i<z:=fun i hi=>⟨(((C.isNeed K).2 i).1 hi).1,(((C.isNeed K).2 i).1 hi).2.1⟩
 by_cases o4:x.Op=4
 ·obtain⟨d,ed,okd,_,iw⟩:=xB C K.g K.z6 o4;refine⟨iw.1,fun i hi=>?_,fun i hi=>⟨((iw.2 i).1 hi).1,((iw.2 i).1 hi).2.1⟩⟩
  obtain⟨_,h2,m,hm,h3⟩:=(iw.2 i).1 hi;exact C.need_kid K (dks_kd o4 ed hm) h3 h2
 ·rw [(tV C K.g o4).2];exact⟨(C.isNeed K).1,fun i h=>h,nb⟩
theorem Cx.lo (C:Cx p vs rk) {n:Int} {x:AV} {z:Int} (K:Nd p vs rk n x z) {list:List Int} (L:Lo p list n z) {c:C3} (hc:c∈cs3 p x list z (aZ p n)):Lo p c.2.1 c.1 c.2.2/\∃ y,Nd p vs rk c.1 y c.2.2:=by
 have h0:=K.g.pos
 obtain⟨w1,w2,w3⟩:=C.isWant K
 have hcd:c2 c∈eH p x z:=by rw [<- uT (list:=list) (w:=aZ p n)];exact a1j hc
 obtain⟨_,y,K'⟩:=C.child K.g hcd
 have nb:∀ i∈bB p c.1,0<=i/\i<c.2.2:=fun i hi=>⟨(((C.isNeed K').2 i).1 hi).1,(((C.isNeed K').2 i).1 hi).2.1⟩
 refine⟨?_,y,K'⟩
 clear K' hcd
 unfold cs3 fD fK at hc
 by_cases o4:x.Op=4
 ·obtain⟨d,ed,okd,_,iw⟩:=xB C K.g K.z6 o4;rw [a2d o4,a2d o4,ed]at hc;have ho:0<=own d:=by unfold own;omega
  have e1:=uQ (k:=(own d).toNat) h0 w1 w3;have inw:∀ m∈Go.Proofs.YtgidgoahhepmlaaGreat.dks d,∀ i∈bB p m,0<=i->i<z->i∈aZ p n:=fun m hm i hi h1 h2=>(iw.2 i).2 ⟨h1,h2,m,hm,hi⟩
  simp only [a1c,fR,fS,a1i]at hc;rcases hc with(⟨r,hr,rfl⟩ | ⟨y',hy,rfl⟩) | ⟨k,hk,rfl⟩
  ·have hb:=oN ((eX okd).2.2.2.2 r hr).2;have e2:=uQ (k:=(brs d.AQ r.Ab).toNat) (z:=z+own d) (by omega) (l:=iO (aZ p n) z d) e1.1 (fun i hi=>by have:=e1.2 i hi;omega)
   refine⟨e2.1,fun i hi=>by have:=e2.2 i hi;dsimp only;omega,fun i hi=>?_⟩
   have b:=nb i hi;dsimp only at b hi ⊢
   by_cases hz:i<z
   ·exact a1d _ (a1d _ (inw r.AU (a1d _ (a1i.2 ⟨r,hr,rfl⟩)) i hi b.1 hz))
   ·by_cases hz2:i<z+own d
    ·exact a1d _ (a1e _ (kC.2 (by omega)))
    ·exact a1e _ (kC.2 (by omega))
  ·refine⟨e1.1,fun i hi=>by have:=e1.2 i hi;dsimp only;omega,fun i hi=>?_⟩
   have b:=nb i hi;dsimp only at b hi ⊢
   by_cases hz:i<z
   ·exact a1d _ (inw y'.AU (a1e _ (a1i.2 ⟨y',hy,rfl⟩)) i hi b.1 hz)
   ·exact a1e _ (kC.2 (by omega))
  ·have e3:=uQ (k:=(own d).toNat) h0 L.srt L.bnd;refine⟨e3.1,fun i hi=>by have:=e3.2 i hi;dsimp only;omega,fun i hi=>?_⟩
   have b:=nb i hi;dsimp only at b hi ⊢
   by_cases hz:i<z
   ·exact a1d _ (L.has i (C.need_kid K (by unfold kd;rw [a2d o4,ed];exact a1e _ hk) hi hz))
   ·exact a1e _ (kC.2 (by omega))
 ·rw [a2c o4,a2c o4,a1n]at hc;have ew:=(tV C K.g o4).2;obtain⟨k,hk,rfl⟩:=a1i.1 hc;have hkd:k∈kd p x:=by unfold kd;rw [a2c o4];exact hk
  have hs:∀ i∈bB p k,i∈bB p n:=fun i hi=>C.need_kid K hkd hi (nb i hi).2
  dsimp only
  split
  ·exact⟨w1,w3,fun i hi=>by rw [ew];exact hs i hi⟩
  ·exact⟨L.srt,L.bnd,fun i hi=>L.has i (hs i hi)⟩
theorem Cx.op_back (C:Cx p vs rk) {n:Int} {x:AV} {z:Int} (K:Nd p vs rk n x z) {list:List Int} (L:Lo p list n z):opN (yOf x list (aZ p n)) list (if cS x.Op=true then aZ p n else [])=some x:=by
 have hi:∀ i∈nmN x,i∈list:=fun i hi=>L.has i (C.name_need K hi)
 have ha:opL list (flL list x.AW)=some x.AW:=op_fl.2 _ fun i h=>hi i (a1e _ h)
 have hm:opI (yOf x list (aZ p n)) list (if cS x.Op=true then aZ p n else [])=some x.N:=by
  unfold opI yOf yN;dsimp only
  by_cases o2:x.Op=2
  ·rw [a2d o2,a2c (by omega),a2d o2];exact aBp (hi _ (a1d _ (by unfold nmO;rw [a2d (.inl o2)];exact .head _)))
  ·by_cases o6:x.Op=6\/x.Op=8
   ·have ot:cS x.Op=true:=a2a (by omega)
    have o4:x.Op≠4:=by omega
    rw [a2c o2,a2d o6,a2d o6,a2d ot,(tV C K.g o4).2];exact aBp (C.name_need K (a1d _ (by unfold nmO;rw [a2d (.inr o6)];exact .head _)))
   ·rw [a2c o2,a2c o6,a2c o6,a2c o2]
 unfold opN
 rw [hm,bsm]
 show((opL list (flL list x.AW)).bind fun a=>some (⟨x.Op,x.N,a,x.AO⟩:AV))=some x
 rw [ha,bsm]
structure Rk (p:AI) (s s':VS) (t t':FS):Prop where
 AX:t'.AX=s'.AR
 new:∀ i x,eZ s s' i->idx p.AD i=some x->idx t'.nd i=some x/\idx t'.AZ i=some (if cS x.Op=true then aZ p i else [])
 old:∀ i,¬ eZ s s' i->idx t'.nd i=idx t.nd i/\idx t'.AZ i=idx t.AZ i
theorem aEU {g:AE} {k:Nat} (H:∀ (s:VS) (c:C3) (s':VS) (x:AV) (t:FS),vis p k s c.1 c.2.2=some s'->Nd p vs rk c.1 x c.2.2->fP p g k c.1 c.2.1 c.2.2->Lo p c.2.1 c.1 c.2.2->WF g t->t.AX=s.AR->∃ t',cG false g k t c.1 c.2.1 c.2.2=some t'/\WF g t'/\Rk p s s' t t'):
 ∀ (cs:List C3) (s s':VS) (t:FS),(∀ c∈cs,(Lo p c.2.1 c.1 c.2.2/\∃ y,Nd p vs rk c.1 y c.2.2)/\fP p g k c.1 c.2.1 c.2.2)->bY (vis p k) s (cs.map c2)=some s'->WF g t->t.AX=s.AR->∃ t',dX (cG false g k) t (cs.map some)=some t'/\WF g t'/\Rk p s s' t t'
 | [],s,s',t,_,h,hw,hs=>by cases h;exact⟨t,rfl,hw,hs,fun i x h=>absurd h.2 h.1,fun i _=>⟨rfl,rfl⟩⟩
 | c :: cs,s,s',t,hc,h,hw,hs=>by
  obtain⟨s1,e1,e2⟩:=bind_some h;obtain⟨⟨L,y,K⟩,hf⟩:=hc c (.head _);obtain⟨t1,f1,w1,r1⟩:=H s c s1 y t e1 K hf L hw hs;obtain⟨t2,f2,w2,r2⟩:=aEU H cs s1 s' t1 (fun c h=>hc c (.tail _ h)) e2 w1 r1.AX
  have m1:=jC k _ _ _ _ e1;have m2:=mF (jC k) _ _ _ e2;refine⟨t2,by rw [a1a,dX,f1,bsm];exact f2,w2,r2.AX,fun i x hi ex=>?_,fun i hi=>?_⟩
  ·by_cases q:eZ s1 s' i
   ·exact r2.new i x q ex
   ·have o:=r2.old i q;have n1:eZ s s1 i:=⟨hi.1,Classical.byContradiction fun h=>q ⟨h,hi.2⟩⟩
    rw [o.1,o.2];exact r1.new i x n1 ex
  ·have o2:=r2.old i (fun q=>hi ⟨fun h=>q.1 (m1 i h),q.2⟩)
   have o1:=r1.old i (fun q=>hi ⟨q.1,m2 i q.2⟩)
   exact⟨o2.1.trans o1.1,o2.2.trans o1.2⟩
theorem run_g (C:Cx p vs rk) {g:AE} (hd:g.AF=p.AF) (hl:g.AD.length=p.AD.length):∀ (k:Nat) (s:VS) (c:C3) (s':VS) (x:AV) (t:FS),vis p k s c.1 c.2.2=some s'->Nd p vs rk c.1 x c.2.2->fP p g k c.1 c.2.1 c.2.2->Lo p c.2.1 c.1 c.2.2->WF g t->t.AX=s.AR->∃ t',cG false g k t c.1 c.2.1 c.2.2=some t'/\WF g t'/\Rk p s s' t t'
 | 0,s,c,s',x,t,h,_,_,_,_,_=>by simp [vis]at h
 | k+1,s,⟨n,list,z⟩,s',x,t,hv,K,hf,L,hw,hs=>by
  dsimp only at hv K hf L ⊢
  obtain⟨x',ex,hn,hok,hdef,hv⟩:=rN hv;have e:=K.g.node;rw [ex]at e;cases e
  rw [fP]at hf;obtain⟨x'',ex'',eg,hc⟩:=hf;rw [ex]at ex'';cases ex''
  obtain⟨w1,w2,w3⟩:=C.isWant K;have hwl:∀ i∈aZ p n,i∈list:=fun i hi=>L.has i (w2 i hi)
  have hnl:=dF ex;have htk:pick list (yT x list (aZ p n))=if cS x.Op=true then aZ p n else []:=by
   unfold yT;split
   ·exact pick_fnd hwl
   ·rfl
  have hnode:uB false (yOf x list (aZ p n)) list:=by
   refine⟨⟨?_,?_⟩,fun h=>by cases h⟩
   ·show cS x.Op=true\/yT x list (aZ p n)=[]
    by_cases ht:cS x.Op=true
    ·exact .inl ht
    ·exact .inr (by unfold yT;rw [a2c ht])
   ·show cT list.length none (yT x list (aZ p n))=true
    unfold yT;split
    ·exact aGs L.srt _ _ w1 hwl (fun a h=>by cases h)
    ·rfl
  rw [<- uT (list:=list) (w:=aZ p n)]at hv;obtain⟨t',f',w',r'⟩:=aEU (run_g C hd hl k) (cs3 p x list z (aZ p n)) _ s' (t.put n list (if cS x.Op=true then aZ p n else []) x) (fun c h=>⟨C.lo K L h,hc c h⟩) hv hw.put (by simp only [FS.put,mark,hs])
  have hm:=mF (jC k) _ _ _ hv;have hnm:idx s'.AR n=some true:=hm n (by rw [iM hn,a2d rfl])
  have hnn:eZ s s' n:=⟨by rw [hn];simp,hnm⟩
  have hni:¬ eZ (mark s n z x) s' n:=fun q=>q.1 (by rw [iM hn,a2d rfl])
  refine⟨t',?_,w',r'.AX,fun i y hi ey=>?_,fun i hi=>?_⟩
  ·rw [cG,a2d ⟨hnl.1,by rw [hl];exact hnl.2,by rw [hs];exact hn⟩,eg,bsm,a2d hnode,show(yOf x list (aZ p n)).AM=yT x list (aZ p n)from rfl,htk,C.op_back K L,bsm,aFT hd rfl (fun o=>by show yN x list (aZ p n)=x.N;unfold yN;rw [a2c (by omega),a2c (by omega)]) rfl hdef,cs3_w (w':=aZ p n) (fun h=>by rw [a2d h])]
   exact f'
  ·by_cases hin:i=n
   ·subst hin;rw [ex]at ey;cases ey
    obtain⟨o1,o2⟩:=r'.old i hni;rw [o1,o2];exact⟨jW hnl.1 (by rw [hw.nd,hl];exact hnl.2),jW hnl.1 (by rw [hw.AZ,hl];exact hnl.2)⟩
   ·exact r'.new i y ⟨by rw [iM hn,a2c hin];exact hi.1,hi.2⟩ ey
  ·have hin:i≠n:=fun e=>hi (by rw [e];exact hnn)
   obtain⟨o1,o2⟩:=r'.old i (fun q=>hi ⟨by have:=q.1;rwa [iM hn,a2c hin]at this,q.2⟩)
   rw [o1,o2];exact⟨jV hnl.1 hin,jV hnl.1 hin⟩
theorem Cx.back (C:Cx p vs rk):∃ t,fV false (dU p)=some t/\bM (dU p) t=p/\∀ i x,idx p.AD i=some x->idx t.AZ i=some (if cS x.Op=true then aZ p i else []):=by
 have hc:=C.chk_
 unfold dZ at hc
 split at hc
 ·obtain⟨s1,hv,hc⟩:=bind_some hc;split at hc
  ·rename_i hall;cases hc;obtain⟨x,K,hr,N⟩:=C.main;have hgl:(dU p).AD.length=p.AD.length:=by show(put _ _ _ _ _ _).length=_;rw [uV];simp
   have hf:fP p (dU p) p.AD.length p.AG (bB p p.AG) p.AH.length:=aFF p.AD.length 60 (start p) (p.AG,bB p p.AG,(p.AH.length:Int)) vs (List.replicate p.AD.length qN) C.fm.n60 (by simp) hv (fun i _=>rfl)
   have nb:∀ i∈bB p p.AG,0<=i/\i<(p.AH.length:Int):=fun i hi=>⟨((N.is.2 i).1 hi).1,((N.is.2 i).1 hi).2.1⟩
   obtain⟨t,e,w,r⟩:=run_g C (g:=dU p) rfl hgl p.AD.length (start p) (p.AG,bB p p.AG,(p.AH.length:Int)) vs x (fW (dU p)) hv K hf ⟨N.is.1,nb,fun i h=>h⟩ uC (by simp only [fW,start,hgl])
   have all:∀ i x,idx p.AD i=some x->eZ (start p) vs i:=fun i x hi=>by
    have hl:=dF hi;refine⟨fun h=>?_,?_⟩
    ·have:=eC h;simp [start]at this
    ·obtain⟨b,hb⟩:=eS (xs:=vs.AR) hl.1 (by rw [<- r.AX,w.AX,hgl];exact hl.2)
     rw [hb,show b=true from a0t.1 hall.1 b (eC hb)]
   have hnd:t.nd=p.AD:=by
    refine a0A fun i=>?_
    by_cases h:i<p.AD.length
    ·have hx:idx p.AD (i:Int)=some p.AD[i]:=iP (a0I h);have:=gD (r.new i _ (all i _ hx) hx).1;rw [a0r]at this;rw [this,a0I h]
    ·rw [a0J (by rw [w.nd,hgl];omega),a0J (by omega)]
   have hop:bM (dU p) t=p:=by show(⟨p.AH,t.nd,p.AF,p.AG⟩:AI)=p;rw [hnd]
   refine⟨t,?_,hop,fun i x ex=>(r.new i x (all i x ex) ex).2⟩
   unfold fV;rw [aB9 ⟨⟨by rw [hgl];exact C.fm.n60,C.fm.f12,C.fm.d12⟩,aHD _ _ N.is.1 nb (fun a h=>by cases h)⟩,hgl,show cG false (dU p) p.AD.length (fW (dU p)) (dU p).AG (dU p).AM (dU p).AH.length=some t from e,bsm,hop,C.chk_]
   rfl
  ·cases hc
 ·cases hc
open Go.SX Go.SW Go.Dt
def sp1 (w l:List Int):Nat:=l.countP fun i=>decide (fnd w i<0)
theorem sp1_cons {w:List Int} {e:Int} {l:List Int}:sp1 w (e :: l)=sp1 w l+if fnd w e<0 then 1 else 0:=by
 unfold sp1
 rw [List.countP_cons]
 simp only [a2b]
theorem sp1_le {w:List Int}:∀ {l:List Int},sp1 w l<=l.length:=List.countP_le_length
theorem aK2 {AA:Nat} {n:Int} {w:List Int} {g:aG Int (List Int)} (hg:g.get n=some w) (hf:w.length<AA) (hw:w.length<=900000000) (AC:List Int):∀ (AB:List Int) (k:Nat) (acc:Int),AC.length<k->AB.length+AC.length<=900000000->0<=acc->acc+AC.length<=900000000 ->
 nN AA n (AB++AC) g k AB.length acc=some (acc+(sp1 w AC:Int)):=by
 induction AC with
 | nil=>
  intro AB k acc hk _ _ _;obtain _ | k:=k
  ·omega
  rw [nN,a2c (by simp)];simp [sp1]
 | cons e AC ih=>
  intro AB k acc hk hB h0 hA;obtain _ | k:=k
  ·omega
  simp only [a0S]at hk hB hA;rw [nN,a2d (aV _ _ _),aX,bsm,hg,a1Q,yD hf hw,bsm,sp1_cons];by_cases h:fnd w e<0
  ·rw [a2d h,a2d h,aM (by omega),bsm,bsm,aM (by omega),bsm,bA,aU,ih (AB++[e]) k (acc+1) (by omega) (by simp;omega) (by omega) (by omega)];congr 1;omega
  ·rw [a2c h,a2c h,bsm,aM (by omega),bsm,bA,aU,ih (AB++[e]) k acc (by omega) (by simp;omega) (by omega) (by omega)];congr 1
theorem aF8 {AA:Nat} {n:Int} {w l:List Int} {g:aG Int (List Int)} {acc:Int} (hg:g.get n=some w) (hf:1000000<AA) (hw:w.length<=1000000) (hl:l.length<=1000000) (h0:0<=acc) (ha:acc<=800000000):rM AA n l g acc=some (acc+(sp1 w l:Int)):=by
 have:=aK2 (AA:=AA) hg (by omega) (by omega) l [] AA acc (by omega) (by simp;omega) h0 (by omega)
 simp only [a1n,a0W,a0q]at this
 rw [rM,this]
def spN (wf tk:Int->List Int):List Ah->Int->Int
 | [],_=>0
 | y :: l,i=>(if cS y.Op=true then(sp1 (wf i) (tk i):Int) else 0)+spN wf tk l (i+1)
theorem aIj {f:AE} {v:Af} {g:aG Int (List Int)} {e0:Int} {wf tk:Int->List Int}
 (hw:∀ i y,idx f.AD i=some y->cS y.Op=true->idx v.AZ i=some (tk i)/\g.get i=some (wf i)/\(wf i).length<=1000000/\(tk i).length<=1000000) (AC:List Ah):
 ∀ (AB:List Ah) (k:Nat) (acc:Int),f.AD=AB++AC->AC.length<k->AB.length+AC.length<=60->0<=acc->acc+1000000*AC.length<=100000000->nC F f v (g,e0) k AB.length acc=some (acc+spN wf tk AC AB.length):=by
 induction AC with
 | nil=>
  intro AB k acc he hk _ _ _;obtain _ | k:=k
  ·omega
  rw [nC,he,a2c (by simp),spN,Int.add_zero]
 | cons e AC ih=>
  intro AB k acc he hk hB h0 hA;obtain _ | k:=k
  ·omega
  simp only [a0S]at hk hB hA;have hi:idx f.AD (AB.length:Int)=some e:=by rw [he];exact aX _ _ _
  rw [nC,a2d (by rw [he];exact aV _ _ _),hi,bsm,aCo,bsm,spN];by_cases ht:cS e.Op=true
  ·obtain⟨h1,h2,h3,h4⟩:=hw _ _ hi ht;have:=sp1_le (w:=wf AB.length) (l:=tk AB.length);rw [ht,a1Y,a2d rfl,h1,bsm,aF8 h2 (by decide) h3 h4 h0 (by omega),bsm,bsm,aM (by omega),bsm,aU AB e,ih (AB++[e]) k (acc+(sp1 (wf AB.length) (tk AB.length):Int)) (by rw [he];simp) (by omega) (by simp;omega) (by omega) (by omega)];congr 1;omega
  ·rw [Bool.not_eq_true]at ht;rw [ht,a1X,a2c (by decide),bsm,aM (by omega),bsm,aU AB e,ih (AB++[e]) k acc (by rw [he];simp) (by omega) (by simp;omega) h0 (by omega)];congr 1;omega
theorem open_S {f:AE} (hm:SmF f) {s:FS} (ha:fV false f=some s):rA F f=some (bM f s,0):=by
 rw [rA,show(⟨f.AH,f.AM,f.AD,f.AF,f.AG⟩:AE)=f from rfl,aAx hm,ha,bsm]
 rfl
theorem spare_S {f:AE} (hm:SmF f) {s:FS} (ha:fV false f=some s) {vs:VS} {rk:Int->Nat} (C:Cx (bM f s) vs rk) (hn:f.AD.length<=60) (ht:f.AM.length<=1000000) (hd:(bB (bM f s) f.AG).length<=1000000)
 {tk:Int->List Int} (hw:∀ i y,idx f.AD i=some y->cS y.Op=true->idx s.AZ i=some (tk i)/\(aZ (bM f s) i).length<=1000000/\(tk i).length<=1000000) (hnl:(bM f s).AD.length=f.AD.length):
 yO F f=some ((sp1 (bB (bM f s) f.AG) f.AM:Int)+spN (aZ (bM f s)) tk f.AD 0,0):=by
 obtain⟨g,e1,ha1,hm1⟩:=aGt C
 have hs:=sp1_le (w:=bB (bM f s) f.AG) (l:=f.AM)
 have e2:rM F (-1) f.AM g 0=some (0+(sp1 (bB (bM f s) f.AG) f.AM:Int)):=aF8 hm1 (by decide) hd ht (by omega) (by omega)
 have e3:=aIj (f:=f) (v:=cvP f s) (g:=g) (e0:=0) (wf:=aZ (bM f s)) (tk:=tk) (fun i y hi ht=>by
  obtain⟨h1,h2,h3⟩:=hw i y hi ht;have:=dF hi;exact⟨h1,ha1 i this.1 (by rw [hnl];exact this.2),h2,h3⟩) f.AD [] F (0+(sp1 (bB (bM f s) f.AG) f.AM:Int)) rfl (by show _<1000000000;omega) (by simp;omega) (by omega) (by omega)
 simp only [a0W,a0q,Int.zero_add]at e3
 rw [Int.zero_add]at e2
 rw [yO,show(⟨f.AH,f.AM,f.AD,f.AF,f.AG⟩:AE)=f from rfl,aAx hm,ha,bsm]
 dsimp only
 rw [Option.isNone_some,a1X,bsm,show(cvP f s).AK=bM f s from rfl,e1,bsm,a2c (by simp),e2,bsm,e3,bsm]
theorem aK4 (AC:List ByteArray):∀ (AB:List ByteArray) (k:Nat),AC.length<k->AB.length+AC.length<=900000000->nF (AB++AC) (AB++AC) k AB.length=some (.inl ()):=by
 induction AC with
 | nil=>
  intro AB k hk _;obtain _ | k:=k
  ·omega
  rw [nF,a2c (by simp)]
 | cons e AC ih=>
  intro AB k hk hB;obtain _ | k:=k
  ·omega
  simp only [a0S]at hk hB;rw [nF,a2d (aV _ _ _),aX,bsm,bsm,a2c (by simp),aM (by omega),bsm,bA,aU];exact ih (AB++[e]) k (by omega) (by simp;omega)
theorem aJW {l:List ByteArray} (h:l.length<=12):wE F l l=some true:=by
 have g:=aK4 l [] F (by show _<1000000000;omega) (by simp;omega)
 simp only [a1n,a0W,a0q]at g
 rw [wE,a2c (by simp),g,bsm]
theorem sprog1 {p:AI} (AC:List AV):∀ (AB:List AV) (k:Nat),p.AD=AB++AC->AC.length<k->AB.length+AC.length<=900000000->(∀ x∈AC,aBS F x x=some true)->oS F p p k AB.length=some (.inl ()):=by
 induction AC with
 | nil=>
  intro AB k he hk _ _;obtain _ | k:=k
  ·omega
  rw [oS,he,a2c (by simp)]
 | cons e AC ih=>
  intro AB k he hk hB hr;obtain _ | k:=k
  ·omega
  simp only [a0S]at hk hB;rw [oS,he,a2d (aV _ _ _),aX,bsm,bsm,hr e (.head _),bsm,a1Y,aM (by omega),bsm,aU AB e];exact ih (AB++[e]) k (by rw [he];simp) (by omega) (by simp;omega) (fun x hx=>hr x (.tail _ hx))
theorem sprog2 {p:AI} (AC:List AN):∀ (AB:List AN) (k:Nat),p.AF=AB++AC->AC.length<k->AB.length+AC.length<=900000000->(∀ d∈AC,okD d=true)->mQ F p p k AB.length=some (.inl ()):=by
 induction AC with
 | nil=>
  intro AB k he hk _ _;obtain _ | k:=k
  ·omega
  rw [mQ,he,a2c (by simp)]
 | cons e AC ih=>
  intro AB k he hk hB hr;obtain _ | k:=k
  ·omega
  simp only [a0S]at hk hB;rw [mQ,he,a2d (aV _ _ _),aX,bsm,bsm,sdef (by decide) (hr e (.head _)),bsm,a1Y,aM (by omega),bsm,aU AB e];exact ih (AB++[e]) k (by rw [he];simp) (by omega) (by simp;omega) (fun x hx=>hr x (.tail _ hx))
variable {p:AI} {vs:VS} {rk:Int->Nat}
theorem Cx.flat_sm (C:Cx p vs rk):∀ y∈(dU p).AD,SmN y:=by
 obtain⟨x,K,hr,N⟩:=C.main
 exact aCx C 60 p.AG x p.AH.length (bB p p.AG) (List.replicate p.AD.length qN) K (fun y hy=>by
  rw [List.eq_of_mem_replicate hy];exact⟨by simp [qN],fun e h=>(by cases h),by simp [qN],by simp [qN]⟩)
theorem aHQ:(dU p).AD.length=p.AD.length:=by show(put _ _ _ _ _ _).length=_;rw [uV];simp
theorem Cx.smF (C:Cx p vs rk):SmF (dU p):=by
 obtain⟨x,K,hr,N⟩:=C.main
 have h12:=C.fm.f12
 have h60:=C.fm.n60
 have hl:=N.len
 refine⟨by rw [aHQ];omega,C.sm.Ad,C.sm.free,C.sm.names,fun y hy=>?_,fun y hy=>?_,C.sm.AY,by show(bB p p.AG).length<=_;omega⟩
 ·have S:=C.flat_sm y hy;have h1:=S.la;have h2:=S.lk;exact⟨by omega,by omega,fun e he=>by have:=S.ex e he;omega⟩
 ·have:=(C.flat_sm y hy).lt;omega
open Go.SX Go.SW Go.Dt
structure jP (s s':FS):Prop where
 AX:∀ i,idx s.AX i=some true->idx s'.AX i=some true
 nd:∀ i,idx s.AX i=some true->idx s'.nd i=idx s.nd i
 Aa:∀ i,idx s.AX i=some true->idx s'.Aa i=idx s.Aa i
 AZ:∀ i,idx s.AX i=some true->idx s'.AZ i=idx s.AZ i
theorem jP.refl {s:FS}:jP s s:=⟨fun _ h=>h,fun _ _=>rfl,fun _ _=>rfl,fun _ _=>rfl⟩
theorem jP.trans {a b c:FS} (h:jP a b) (k:jP b c):jP a c:=
 ⟨fun i hi=>k.AX i (h.AX i hi),fun i hi=>(k.nd i (h.AX i hi)).trans (h.nd i hi),fun i hi=>(k.Aa i (h.AX i hi)).trans (h.Aa i hi),fun i hi=>(k.AZ i (h.AX i hi)).trans (h.AZ i hi)⟩
theorem uW {g:FS->Int->List Int->Int->Option FS} (H:∀ s n l z s',g s n l z=some s'->jP s s'):∀ (ts:List (Option (Int × List Int × Int))) (s s':FS),dX g s ts=some s'->jP s s'
 | [],s,s',h=>by cases h;exact .refl
 | none :: ts,s,s',h=>by cases h
 | some t :: ts,s,s',h=>by
  obtain⟨s1,e1,e2⟩:=bind_some h;exact(H _ _ _ _ _ e1).trans (uW H ts s1 s' e2)
theorem aHC {f:AE} {g:FS->Int->List Int->Int->Option FS} (H:∀ s n l z s',g s n l z=some s'->jP s s') {s s':FS} {y:Ah} {l tk:List Int} {z:Int} (h:iY false f g s y l tk z=some s'):jP s s':=by
 unfold iY at h
 split at h
 ·obtain⟨d,_,h⟩:=bind_some h;rw [a2d (by intro h;cases h)]at h;obtain⟨s1,e1,h⟩:=bind_some h;obtain⟨s2,e2,h⟩:=bind_some h;exact((uW H _ _ _ e1).trans (uW H _ _ _ e2)).trans (uW H _ _ _ h)
 ·exact uW H _ _ _ h
theorem aEj {f:AE} {k:Nat} {a a':FS} {n:Int} {l:List Int} {z:Int} (h:cG false f (k+1) a n l z=some a'):
 ∃ y x,idx f.AD n=some y/\idx a.AX n=some false/\uB false y l/\opN y l (pick l y.AM)=some x/\iY false f (cG false f k) (a.put n l (pick l y.AM) x) y l (pick l y.AM) z=some a':=by
 rw [cG]at h
 split at h
 ·rename_i h1;obtain⟨y,ey,h⟩:=bind_some h;split at h
  ·rename_i h2;obtain⟨x,ex,h⟩:=bind_some h;exact⟨y,x,ey,h1.2.2,h2,ex,h⟩
  ·cases h
 ·cases h
theorem aHh {s:FS} {n:Int} {l t:List Int} {x:AV} (h:idx s.AX n=some false):jP s (s.put n l t x):=by
 have h0:=dF h
 have ne:∀ i,idx s.AX i=some true->i≠n:=fun i hi e=>by rw [e,h]at hi;cases hi
 exact⟨fun i hi=>by simp only [FS.put];rw [jV h0.1 (ne i hi)];exact hi,fun i hi=>jV h0.1 (ne i hi),fun i hi=>jV h0.1 (ne i hi),fun i hi=>jV h0.1 (ne i hi)⟩
theorem aBu {f:AE}:∀ (k:Nat) (s:FS) (n:Int) (l:List Int) (z:Int) (s':FS),cG false f k s n l z=some s'->jP s s'
 | 0,_,_,_,_,_,h=>by cases h
 | k+1,s,n,l,z,s',h=>by
  obtain⟨y,x,_,hs,_,_,h⟩:=aEj h;exact(aHh hs).trans (aHC (aBu k) h)
theorem aB5 {b:Int}:∀ {l:List Int} {q:Option Int},cT b q l=true->Srt l/\(∀ a,q=some a->∀ i∈l,a<i)
 | [],q,_=>⟨.nil,fun _ _ i h=>by cases h⟩
 | i :: l,q,h=>by
  rw [aDk,a0k,a0k]at h;obtain⟨⟨_,h2⟩,h3⟩:=h;obtain⟨k1,k2⟩:=aB5 h3;refine⟨a1r.2 ⟨fun a ha=>k2 i rfl a ha,k1⟩,fun a ha j hj=>?_⟩
  subst ha;have h2:a<i:=of_decide_eq_true h2;rcases a1f.1 hj with rfl | hj
  ·exact h2
  ·have:=k2 i rfl j hj;omega
theorem srt_pick {l t:List Int} (hl:Srt l) (ht:Srt t) (hb:∀ i∈t,0<=i/\i<(l.length:Int)):Srt (pick l t):=by
 unfold pick
 rw [Srt,List.pairwise_map]
 refine ht.imp_of_mem fun {a b} ha hb' hab=>?_
 obtain⟨x,hx⟩:=gK (xs:=l) (hb a ha).1 (hb a ha).2
 obtain⟨y,hy⟩:=gK (xs:=l) (hb b hb').1 (hb b hb').2
 rw [hx,hy]
 obtain⟨h1,e1⟩:=a0K.1 (gD hx)
 obtain⟨h2,e2⟩:=a0K.1 (gD hy)
 have:=hb a ha
 have:=a1s.1 hl a.toNat b.toNat h1 h2 (by omega)
 simp only [a1Q]
 omega
theorem pick_mem {l t:List Int} (hb:∀ i∈t,0<=i/\i<(l.length:Int)):∀ a∈pick l t,a∈l:=by
 intro a ha
 obtain⟨i,hi,rfl⟩:=a1i.1 ha
 obtain⟨x,hx⟩:=gK (xs:=l) (hb i hi).1 (hb i hi).2
 rw [hx];exact eC hx
variable {p:AI} {vs:VS} {rk:Int->Nat}
structure At (p:AI) (f:AE) (T:FS) (n:Int) (list:List Int) (x:AV) (y:Ah):Prop where
 px:idx p.AD n=some x
 fy:idx f.AD n=some y
 tl:idx T.Aa n=some list
 tt:idx T.AZ n=some (pick list y.AM)
 op:y.Op=x.Op
 no:cS x.Op=true\/y.AM=[]
 tb:∀ i∈y.AM,0<=i/\i<(list.length:Int)
 tn:y.AM.length<=list.length
 srt:Srt (pick list y.AM)
 want:cS x.Op=true->∀ i∈aZ p n,i∈pick list y.AM
def Bw (p:AI) (f:AE) (T:FS):Nat->Int->List Int->Int->Prop
 | 0,_,_,_=>True
 | k+1,n,list,z=>∃ x y,At p f T n list x y/\Lo p list n z/\∀ c∈cs3 p x list z (pick list y.AM),Bw p f T k c.1 c.2.1 c.2.2
structure Ov (p:AI) (f:AE) (k:Nat) (s s':VS) (c:C3) (a':FS):Prop where
 AX:a'.AX=s'.AR
 lo:Lo p c.2.1 c.1 c.2.2
 bw:∀ T:FS,(∀ i,eZ s s' i->idx T.Aa i=idx a'.Aa i/\idx T.AZ i=idx a'.AZ i)->Bw p f T k c.1 c.2.1 c.2.2
def NewF (a a':FS) (i:Int):Prop:=idx a.AX i≠some true/\idx a'.AX i=some true
theorem aE7 {f:AE} {k:Nat} (H:∀ (s:VS) (c:C3) (s':VS) (x:AV) (a a':FS),vis p k s c.1 c.2.2=some s'->Nd p vs rk c.1 x c.2.2->cG false f k a c.1 c.2.1 c.2.2=some a'->WF f a->a.AX=s.AR->(∀ i,NewF a a' i->idx a'.nd i=idx p.AD i)->Srt c.2.1->(∀ i∈c.2.1,0<=i/\i<c.2.2)->Ov p f k s s' c a'):
 ∀ (cs:List C3) (s s':VS) (a a':FS),(∀ c∈cs,(∃ x,Nd p vs rk c.1 x c.2.2)/\Srt c.2.1/\∀ i∈c.2.1,0<=i/\i<c.2.2)->bY (vis p k) s (cs.map c2)=some s'->dX (cG false f k) a (cs.map some)=some a'->WF f a->a.AX=s.AR->(∀ i,NewF a a' i->idx a'.nd i=idx p.AD i) ->
  a'.AX=s'.AR/\∀ c∈cs,Lo p c.2.1 c.1 c.2.2/\∀ T:FS,(∀ i,eZ s s' i->idx T.Aa i=idx a'.Aa i/\idx T.AZ i=idx a'.AZ i)->Bw p f T k c.1 c.2.1 c.2.2
 | [],s,s',a,a',_,h,h',_,hs,_=>by cases h;cases h';exact⟨hs,fun c hc=>by cases hc⟩
 | c :: cs,s,s',a,a',hc,h,h',hw,hs,hn=>by
  obtain⟨s1,e1,e2⟩:=bind_some h;obtain⟨a1,f1,f2⟩:=bind_some h';obtain⟨⟨x,K⟩,q1,q2⟩:=hc c (.head _);have m1:=jC k _ _ _ _ e1;have m2:=mF (jC k) _ _ _ e2;have kp1:=aBu k _ _ _ _ _ f1;have kp:=uW (aBu (f:=f) k) _ _ _ f2;have o:=H s c s1 x a a1 e1 K f1 hw hs (fun i hi=>by rw [<- kp.nd i hi.2];exact hn i ⟨hi.1,kp.AX i hi.2⟩) q1 q2
  obtain⟨o1,o2⟩:=aE7 H cs s1 s' a1 a' (fun c h=>hc c (.tail _ h)) e2 f2 (pW f1 hw) o.AX (fun i hi=>hn i ⟨fun h=>hi.1 (kp1.AX i h),hi.2⟩)
  refine⟨o1,fun d hd=>?_⟩
  rcases a1f.1 hd with rfl | hd
  ·refine⟨o.lo,fun T hT=>o.bw T fun i hi=>?_⟩
   have ht:idx a1.AX i=some true:=by rw [o.AX];exact hi.2
   rw [<- kp.Aa i ht,<- kp.AZ i ht];exact hT i ⟨hi.1,m2 i hi.2⟩
  ·exact⟨(o2 d hd).1,fun T hT=>(o2 d hd).2 T fun i hi=>hT i ⟨fun h=>hi.1 (m1 i h),hi.2⟩⟩
theorem Cx.srt3 (C:Cx p vs rk) {n:Int} {x:AV} {z:Int} (K:Nd p vs rk n x z) {list tk:List Int} (h1:Srt list) (h2:∀ i∈list,0<=i/\i<z) (h3:Srt tk) (h4:∀ i∈tk,0<=i/\i<z) {c:C3} (hc:c∈cs3 p x list z tk):(∃ y,Nd p vs rk c.1 y c.2.2)/\Srt c.2.1/\∀ i∈c.2.1,0<=i/\i<c.2.2:=by
 have h0:=K.g.pos
 have hcd:c2 c∈eH p x z:=by rw [<- uT (list:=list) (w:=tk)];exact a1j hc
 obtain⟨_,y,K'⟩:=C.child K.g hcd
 refine⟨⟨y,K'⟩,?_⟩
 clear K' hcd
 unfold cs3 fD fK at hc
 by_cases o4:x.Op=4
 ·obtain⟨d,ed,okd⟩:=K.g.ok.def_ o4;rw [a2d o4,a2d o4,ed]at hc;have ho:0<=own d:=by unfold own;omega
  have e1:=uQ (k:=(own d).toNat) h0 h3 h4;have e3:=uQ (k:=(own d).toNat) h0 h1 h2;simp only [a1c,fR,fS,a1i]at hc;rcases hc with(⟨r,hr,rfl⟩ | ⟨y',hy,rfl⟩) | ⟨k,hk,rfl⟩
  ·have hb:=oN ((eX okd).2.2.2.2 r hr).2;have e2:=uQ (k:=(brs d.AQ r.Ab).toNat) (z:=z+own d) (by omega) (l:=iO tk z d) e1.1 (fun i hi=>by have:=e1.2 i hi;omega)
   exact⟨e2.1,fun i hi=>by have:=e2.2 i hi;dsimp only;omega⟩
  ·exact⟨e1.1,fun i hi=>by have:=e1.2 i hi;dsimp only;omega⟩
  ·exact⟨e3.1,fun i hi=>by have:=e3.2 i hi;dsimp only;omega⟩
 ·rw [a2c o4,a2c o4,a1n]at hc;obtain⟨k,hk,rfl⟩:=a1i.1 hc;dsimp only
  split
  ·exact⟨h3,h4⟩
  ·exact⟨h1,h2⟩
theorem Cx.up (C:Cx p vs rk) {n:Int} {x:AV} {z:Int} (K:Nd p vs rk n x z) {list tk:List Int} (ht:∀ i∈tk,i∈list) (hn:∀ i∈nmN x,i∈list) (hx:x.Op=6\/x.Op=8->x.N∈tk) (ho:cS x.Op=true\/tk=[]) (h7:x.Op=7->x.AO=[]) (ha:x.Op=6\/x.Op=7\/x.Op=8->x.AW=[]) (hc:∀ c∈cs3 p x list z tk,Lo p c.2.1 c.1 c.2.2):
 (∀ i∈bB p n,i∈list)/\(cS x.Op=true->∀ i∈aZ p n,i∈tk):=by
 have nd:∀ i∈bB p n,0<=i/\i<z/\(i∈nmN x\/∃ m∈kd p x,Occ p m i):=fun i hi=>by
  have q:=((C.isNeed K).2 i).1 hi;exact⟨q.1,q.2.1,(zR K.g.node).1 q.2.2⟩
 have kn:∀ m w,(m,w)∈eH p x z->∀ i,0<=i->i<w->Occ p m i->i∈bB p m:=fun m w hm i h1 h2 h3=>by
  obtain⟨_,y,K'⟩:=C.child K.g hm;exact((C.isNeed K').2 i).2 ⟨h1,h2,h3⟩
 unfold cs3 fD fK at hc
 by_cases o4:x.Op=4
 ·obtain⟨d,ed,okd,_,iw⟩:=xB C K.g K.z6 o4;have ho':0<=own d:=by unfold own;omega
  rw [a2d o4,a2d o4,ed]at hc;have hD:∀ m∈Go.Proofs.YtgidgoahhepmlaaGreat.dks d,∀ i∈bB p m,0<=i->i<z->i∈tk:=by
   intro m hm i hi h1 h2;simp only [Go.Proofs.YtgidgoahhepmlaaGreat.dks,a1c,a1i]at hm;rcases hm with⟨r,hr,rfl⟩ | ⟨y,hy,rfl⟩
   ·have hb:=oN ((eX okd).2.2.2.2 r hr).2;have L:=hc (r.AU,iO tk z d++upto (z+own d) (brs d.AQ r.Ab).toNat,z+own d+brs d.AQ r.Ab) (a1d _ (a1d _ (a1i.2 ⟨r,hr,rfl⟩)));have q:=L.has i hi;dsimp only [iO]at q;rcases a1c.1 q with q | q
    ·rcases a1c.1 q with q | q
     ·exact q
     ·have:=kC.1 q;omega
    ·have:=kC.1 q;omega
   ·have L:=hc (y.AU,iO tk z d,z+own d) (a1d _ (a1e _ (a1i.2 ⟨y,hy,rfl⟩)));have q:=L.has i hi;dsimp only [iO]at q;rcases a1c.1 q with q | q
    ·exact q
    ·have:=kC.1 q;omega
  refine⟨fun i hi=>?_,fun _ i hi=>?_⟩
  ·obtain⟨h1,h2,h3 | ⟨m,hm,h3⟩⟩:=nd i hi
   ·exact hn i h3
   ·obtain⟨w,hw⟩:=rF (z:=z) hm;unfold kd at hm;rw [a2d o4,ed]at hm;have hzw:z<=w:=by
     unfold eH at hw;rw [a2d o4,ed]at hw;simp only [chD,a1c,a1i,Prod.mk.injEq]at hw;rcases hw with(⟨r,hr,_,rfl⟩ | ⟨y,hy,_,rfl⟩) | ⟨k,hk,_,rfl⟩
     ·have hb:=oN ((eX okd).2.2.2.2 r hr).2;omega
     ·omega
     ·omega
    have h4:=kn m w hw i h1 (by omega) h3
    rcases a1c.1 hm with hm | hm
    ·exact ht i (hD m hm i h4 h1 h2)
    ·have L:=hc (m,list++upto z (own d).toNat,z+own d) (a1e _ (a1i.2 ⟨m,hm,rfl⟩));have q:=L.has i h4;dsimp only at q
     rcases a1c.1 q with q | q
     ·exact q
     ·have:=kC.1 q;omega
  ·obtain⟨h1,h2,m,hm,h3⟩:=(iw.2 i).1 hi;exact hD m hm i h3 h1 h2
 ·rw [a2c o4,a2c o4,a1n]at hc;have ew:=(tV C K.g o4).2;have hkid:∀ m∈x.AO,∀ i,0<=i->i<z->Occ p m i->i∈(if x.Op=6\/x.Op=8 then tk else list):=fun m hm i h1 h2 h3=>by
   have L:=hc (m,(if x.Op=6\/x.Op=8 then tk else list),z) (a1i.2 ⟨m,hm,rfl⟩)
   exact L.has i (kn m z (by unfold eH;rw [a2c o4];exact a1i.2 ⟨m,hm,rfl⟩) i h1 h2 h3)
  have hkd:kd p x=x.AO:=by unfold kd;rw [a2c o4]
  rw [hkd]at nd;by_cases o6:x.Op=6\/x.Op=8
  ·rw [a2d o6]at hkid;have key:∀ i∈bB p n,i∈tk:=fun i hi=>by
    obtain⟨h1,h2,h3 | ⟨m,hm,h3⟩⟩:=nd i hi
    ·unfold nmN nmO at h3;rw [a2d (.inr o6),ha (by omega),nmL,a0v,a1m]at h3;rw [h3];exact hx o6
    ·exact hkid m hm i h1 h2 h3
   exact⟨fun i hi=>ht i (key i hi),fun _ i hi=>key i (by rw [<- ew];exact hi)⟩
  ·rw [a2c o6]at hkid;refine⟨fun i hi=>?_,fun htk i hi=>?_⟩
   ·obtain⟨h1,h2,h3 | ⟨m,hm,h3⟩⟩:=nd i hi
    ·exact hn i h3
    ·exact hkid m hm i h1 h2 h3
   ·have o7:x.Op=7:=by have:=of_decide_eq_true htk;omega
    rw [ew]at hi;obtain⟨h1,h2,h3 | ⟨m,hm,h3⟩⟩:=nd i hi
    ·unfold nmN nmO at h3;rw [a2c (by omega),ha (by omega),nmL]at h3;cases h3
    ·rw [h7 o7]at hm;cases hm
theorem op_names {l:List Int}:(∀ e e',opE l e=some e'->∀ i∈nmE e',i∈l)/\∀ ks ks',opL l ks=some ks'->∀ i∈nmL ks',i∈l:=⟨go,goL⟩
where
 go:∀ e e',opE l e=some e'->∀ i∈nmE e',i∈l
  | ⟨op,n,ks⟩,e',h,i,hi=>by
   obtain⟨m,ks',rfl,h1,h2⟩:=opE_eq h;rw [nmE]at hi;rcases a1c.1 hi with hi | hi
   ·by_cases o:op=2
    ·rw [a2d o]at hi h1;rw [a1m]at hi;rw [hi];exact eC h1
    ·rw [a2c o]at hi;cases hi
   ·exact goL ks ks' h2 i hi
 goL:∀ ks ks',opL l ks=some ks'->∀ i∈nmL ks',i∈l
  | [],ks',h,i,hi=>by rw [opL]at h;cases h;rw [nmL]at hi;cases hi
  | k :: ks,ks',h,i,hi=>by
   obtain⟨k',ks'',rfl,h1,h2⟩:=aBV h;rw [nmL]at hi;rcases a1c.1 hi with hi | hi
   ·exact go k k' h1 i hi
   ·exact goL ks ks'' h2 i hi
theorem aKK {s:VS} {n z:Int} {x:AV} {i:Int} (hn:idx s.AR n=some false) (h:idx s.AR i=some true):idx (mark s n z x).AR i=some true:=by
 rw [iM hn]
 split
 ·rfl
 ·exact h
theorem okN_678 {p:AI} {s:VS} {x:AV} {z:Int} (h:okN p s x z) (ho:x.Op=6\/x.Op=7\/x.Op=8):x.AW=[]:=by
 obtain⟨⟨k,c,hs,_,hm⟩,_⟩:=h
 rcases ho with ho | ho | ho <;> rw [ho]at hs <;> simp [shp]at hs <;> obtain⟨rfl,rfl⟩:=hs <;> exact a0z hm.2
theorem run_f (C:Cx p vs rk) {f:AE} (hd:f.AF=p.AF):∀ (k:Nat) (s:VS) (c:C3) (s':VS) (x:AV) (a a':FS),vis p k s c.1 c.2.2=some s'->Nd p vs rk c.1 x c.2.2->cG false f k a c.1 c.2.1 c.2.2=some a'->WF f a->a.AX=s.AR->(∀ i,NewF a a' i->idx a'.nd i=idx p.AD i)->Srt c.2.1->(∀ i∈c.2.1,0<=i/\i<c.2.2)->Ov p f k s s' c a'
 | 0,s,c,s',x,a,a',h,_,_,_,_,_,_,_=>by simp [vis]at h
 | k+1,s,⟨n,list,z⟩,s',x,a,a',hv,K,hf,hw,hs,hn,q1,q2=>by
  dsimp only at hv K hf q1 q2
  obtain⟨x',ex,hm,hok,hdef,hv⟩:=rN hv;have e:=K.g.node;rw [ex]at e;cases e
  obtain⟨y,x2,ey,hsn,hnode,hop,hin⟩:=aEj hf;have hnl:=dF hsn;have kp:=aHC (aBu k) hin;have ps:idx (a.put n list (pick list y.AM) x2).AX n=some true:=jW hnl.1 hnl.2;have hnew:NewF a a' n:=⟨by rw [hsn];simp,kp.AX n ps⟩
  have hlen:n<(f.AD.length:Int):=(dF ey).2;have e2:=hn n hnew;rw [kp.nd n ps,show idx (a.put n list (pick list y.AM) x2).nd n=some x2 from jW hnl.1 (by rw [hw.nd];exact hlen),ex]at e2;cases e2;have hop':=hop;unfold opN at hop';obtain⟨m,em,hop'⟩:=bind_some hop';obtain⟨ag,ea,hop'⟩:=bind_some hop';have hx:(⟨y.Op,m,ag,y.AO⟩:AV)=x:=a1T hop';have h1:y.Op=x.Op:=by rw [<- hx]
  have h2:m=x.N:=by rw [<- hx]
  have h3:ag=x.AW:=by rw [<- hx]
  have h4:y.AO=x.AO:=by rw [<- hx]
  subst h2;subst h3
  have tb:=aBe hnode.1.2;have ts:=(aB5 hnode.1.2).1;have tn:y.AM.length<=list.length:=by have:=aBW (b:=list.length) (by omega) hnode.1.2;omega
  have t1:=srt_pick q1 ts tb;have t2:=pick_mem tb;have t3:∀ i∈pick list y.AM,0<=i/\i<z:=fun i hi=>q2 i (t2 i hi)
  unfold opI at em;rw [h1]at em;have hN:x.Op=4->y.N=x.N:=fun o=>by
   rw [a2c (by omega),a2c (by omega)]at em;exact a1T em
  rw [aFT (p:=p) (x:=x) hd h1 hN h4 hdef]at hin;rw [<- uT (list:=list) (w:=pick list y.AM)]at hv;obtain⟨o1,o2⟩:=aE7 (run_f C hd k) (cs3 p x list z (pick list y.AM)) _ s' _ a' (fun c hc=>C.srt3 K q1 q2 t1 t3 hc) hv hin hw.put (by simp only [FS.put,mark,hs]) (fun i hi=>hn i ⟨fun h=>hi.1 ((aHh hsn).AX i h),hi.2⟩)
  have hno:cS x.Op=true\/y.AM=[]:=by rw [<- h1];exact hnode.1.1
  obtain⟨u1,u2⟩:=C.up K t2 (fun i hi=>by
   unfold nmN nmO at hi;rcases a1c.1 hi with hi | hi
   ·by_cases o2:x.Op=2
    ·rw [a2d (.inl o2),a1m]at hi;rw [a2d o2]at em;rw [hi];exact eC em
    ·by_cases o6:x.Op=6\/x.Op=8
     ·rw [a2d (.inr o6),a1m]at hi;rw [a2c o2,a2d o6]at em;rw [hi];exact t2 _ (eC em)
     ·rw [a2c (by omega)]at hi;cases hi
   ·exact op_names.2 _ _ ea i hi) (fun o6=>by
   rw [a2c (by omega),a2d o6]at em;exact eC em) (by
   rcases hno with h | h
   ·exact .inl h
   ·exact .inr (by rw [h];rfl)) K.g.ok.stop (okN_678 hok) (fun c hc=>(o2 c hc).1)
  refine⟨o1,⟨q1,q2,u1⟩,fun T hT=>?_⟩
  have mm:=mF (jC k) _ _ _ hv;have hnI:eZ s s' n:=⟨by rw [hm];simp,mm n (by rw [iM hm,a2d rfl])⟩
  have hTn:=hT n hnI;rw [kp.Aa n ps,kp.AZ n ps]at hTn;rw [Bw];refine⟨x,y,⟨ex,ey,?_,?_,h1,hno,tb,tn,t1,u2⟩,⟨q1,q2,u1⟩,fun c hc=>(o2 c hc).2 T fun i hi=>hT i ⟨fun h=>hi.1 (aKK hm h),hi.2⟩⟩
  ·rw [hTn.1];exact jW hnl.1 (by rw [hw.Aa];exact hlen)
  ·rw [hTn.2];exact jW hnl.1 (by rw [hw.AZ];exact hlen)
theorem ans_bw {f:AE} {t:FS} (ha:fV false f=some t) (C:Cx (bM f t) vs rk):vis (bM f t) f.AD.length (start (bM f t)) f.AG f.AH.length=some vs/\(∀ i,0<=i->i<(f.AD.length:Int)->eZ (start (bM f t)) vs i)/\Bw (bM f t) f t f.AD.length f.AG f.AM f.AH.length/\t.nd.length=f.AD.length/\f.AM.length<=f.AH.length:=by
 have hc:=C.chk_
 unfold dZ at hc
 split at hc
 ·obtain⟨s1,hv,hc⟩:=bind_some hc;split at hc
  ·rename_i hall;cases hc;unfold fV at ha;obtain⟨t0,h1,h2⟩:=bind_some ha;split at h2
   ·cases h2;obtain⟨_,hl⟩:=aDb h1;unfold oU at h1;split at h1
    ·rename_i hr;obtain⟨x,K,_,_⟩:=C.main;have hv:vis (bM f t) f.AD.length (start (bM f t)) f.AG f.AH.length=some vs:=by rw [<- hl];exact hv
     have hs0:(fW f).AX=(start (bM f t)).AR:=by
      show List.replicate f.AD.length false=List.replicate t.nd.length false
      rw [hl]
     have o:=run_f C (f:=f) rfl f.AD.length (start (bM f t)) (f.AG,f.AM,(f.AH.length:Int)) vs x (fW f) t hv K h1 uC hs0 (fun i hi=>rfl) (aB5 hr.2).1 (aBe hr.2)
     refine⟨hv,fun i h0 hi=>⟨fun h=>?_,?_⟩,o.bw t (fun i hi=>⟨rfl,rfl⟩),hl,by have:=aBW (b:=f.AH.length) (by omega) hr.2;omega⟩
     ·have:=eC h;simp [start]at this
     ·obtain⟨b,hb⟩:=eS (xs:=vs.AR) h0 (by rw [<- o.AX,(pW h1 uC).AX];exact hi)
      rw [hb,show b=true from a0t.1 hall.1 b (eC hb)]
    ·cases h1
   ·cases h2
  ·cases hc
 ·cases hc
end Go.Proofs.YtgidgoahhepmlaaGreat
