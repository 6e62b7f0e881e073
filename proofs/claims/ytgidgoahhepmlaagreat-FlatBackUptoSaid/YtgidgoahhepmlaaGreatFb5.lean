/- Parts of the proof: lemmas, and the steps through the program. -/
import Derived.Test.YtgidgoahhepmlaaGreatFb4
set_option linter.unusedVariables false
set_option linter.unusedSimpArgs false
set_option maxRecDepth 100000
set_option maxHeartbeats 2000000
namespace Go.Proofs.YtgidgoahhepmlaaGreat
open Go.SX Go.SW Go.Dt
def gN (n:Nat) (c:Aq):Bool:=decide (0<=c.At/\c.At<=(n:Int)/\0<=c.Ap/\c.Ap<=3)
def kX:Nat->List Ao->Bool
 | _,[]=>true
 | i,s :: l=>decide (0<=s.In/\s.In<=(i:Int)) && kX (i+1) l
def mW (chans:List Aq) (at_:Int):List Int->List Int->List Bool->Option (List Bool)
 | _,[],u=>some u
 | AB,c :: js,u=>match idx chans c with
  | some ch=>if ch.At=at_/\c ∉ AB then mW chans at_ (AB++[c]) js (u.set c.toNat true) else none
  | none=>none
def okR (n:Nat) (r:Am):Prop:=0<=r.At/\r.At<=(n:Int)/\1<=r.AY.length/\r.AY.length<=3
instance {n:Nat} {r:Am}:Decidable (okR n r):=by unfold okR;infer_instance
def jN (chans:List Aq) (n:Nat):List Am->List Bool->Option (List Bool)
 | [],u=>some u
 | r :: rs,u=>if okR n r then(mW chans r.At [] r.AY u).bind (jN chans n rs) else none
def okU (o:Option (List Bool)):Bool:=match o with
 | some u=>u.all id
 | none=>false
def okD (d:AO):Bool:=decide (d.AN.length<=30/\d.AR.length<=30/\d.AP.length<=30) && d.AN.all (gN d.AR.length) && kX 0 d.AR && okU (jN d.AN d.AR.length d.AP (List.replicate d.AN.length false))
def smD (d:AO):Prop:=d.AN.length<=2000000/\d.AR.length<=2000000/\d.AP.length<=2000000/\∀ r∈d.AP,r.AY.length<=2000000
theorem fT {α:Type} {xs:List α} {i:Int} (h0:0<=i) (h1:i<xs.length):∃ y,idx xs i=some y:=by
 unfold idx;rw [a2f h0];exact⟨xs[i.toNat]'(by omega),by simp⟩
theorem aCt {α:Type} {xs:List α} {i:Int} (h:¬ (0<=i/\i<xs.length)):idx xs i=none:=by
 unfold idx;split
 ·simp;omega
 ·rfl
theorem aLx {c:Int} (AC:List Int):∀ (AB:List Int) (k:Nat),AC.length<k->AB.length+AC.length<=3000000->c ∉ AB ->
 ∃ r,mX (AB++AC) c k AB.length=some r/\((c∈AC/\∃ i:Int,r= .inr i/\0<=i)\/(c ∉ AC/\r= .inl ())):=by
 induction AC with
 | nil=>
  intro AB k hk _ _;obtain _ | k:=k
  ·omega
  exact⟨_,by rw [mX,a2e (by simp)], .inr ⟨by simp,rfl⟩⟩
 | cons e AC ih=>
  intro AB k hk hB hn;obtain _ | k:=k
  ·omega
  simp only [a0U]at hk hB;by_cases he:c=e
  ·exact⟨_,by rw [mX,a2f (bA _ _ _),bC,bsm,a2f he];rfl, .inl ⟨by simp [he],_,rfl,by omega⟩⟩
  ·obtain⟨r,h1,h2⟩:=ih (AB++[e]) k (by omega) (by simp;omega) (by simp [hn,he])
   refine⟨r,?_,?_⟩
   ·rw [mX,a2f (bA _ _ _),bC,bsm,a2e he,aQ (by omega),bsm,bJ AB AC e,aV AB e];exact h1
   ·rcases h2 with⟨h2,h3⟩ | ⟨h2,h3⟩
    ·exact .inl ⟨by simp [h2],h3⟩
    ·exact .inr ⟨by simp [h2,he],h3⟩
theorem aK1 {AA:Nat} {l:List Int} {c:Int} (hf:l.length<AA) (hB:l.length<=3000000):aAt AA l c=some (decide (c∈l)):=by
 obtain⟨r,h1,h2⟩:=aLx (c:=c) l [] AA hf (by simpa using hB) (by simp)
 simp only [a1p,a0Y,a0q]at h1
 rw [aAt,aAP,h1]
 rcases h2 with⟨h2,i,rfl,h3⟩ | ⟨h2,rfl⟩
 ·simp [h2,h3]
 ·simp [h2]
theorem aEJ {a:Int} {d:AO}:uW a d=some (if 0<=a/\a<=(d.AR.length:Int)then .inl () else .inr flaw):=by
 rw [uW]
 by_cases h:0<=a
 ·rw [a2f h];by_cases h2:a<=(d.AR.length:Int)
  ·rw [a2c h2,eR,a2f ⟨h,h2⟩];rfl
  ·rw [a2b h2,cV,a2e (fun g=>h2 g.2)];rfl
 ·rw [a2e h,cV,a2e (fun g=>h g.1)];rfl
theorem dl1 {sp:List Ao} {ru:List Am} (AC:List Aq):∀ (AB:List Aq) (k:Nat),AC.length<k->AB.length+AC.length<=3000000 ->
 pQ ⟨AB++AC,sp,ru⟩ k AB.length=some (if AC.all (gN sp.length)=true then .inl () else .inr (.inr flaw)):=by
 induction AC with
 | nil=>
  intro AB k hk _;obtain _ | k:=k
  ·omega
  rw [pQ,a2e (by simp),a2f (by rfl)]
 | cons e AC ih=>
  intro AB k hk hB;obtain _ | k:=k
  ·omega
  simp only [a0U]at hk hB;rw [pQ,a2f (bA _ _ _)];dsimp only
  rw [bC,bsm,aEJ,bsm];simp only [List.all_cons,a0k];by_cases h1:0<=e.At/\e.At<=(sp.length:Int)
  ·rw [a2f h1];dsimp only
   by_cases h2:0<=e.Ap
   ·rw [a2f h2];by_cases h3:e.Ap<=3
    ·rw [a2c h3,eR,bsm,bsm];dsimp only
     rw [aQ (by omega),bsm,bJ AB AC e,aV AB e,ih (AB++[e]) k (by omega) (by simp;omega)];have:gN sp.length e=true:=a2c ⟨h1.1,h1.2,h2,h3⟩;simp [this]
    ·have hn:¬ (gN sp.length e=true/\AC.all (gN sp.length)=true):=by
      rintro⟨g,_⟩;exact h3 (of_decide_eq_true g).2.2.2
     rw [a2b h3,cV,a2e hn];rfl
   ·have hn:¬ (gN sp.length e=true/\AC.all (gN sp.length)=true):=by
     rintro⟨g,_⟩;exact h2 (of_decide_eq_true g).2.2.1
    rw [a2e h2,cV,a2e hn];rfl
  ·have hn:¬ (gN sp.length e=true/\AC.all (gN sp.length)=true):=by
    rintro⟨g,_⟩;exact h1 ⟨(of_decide_eq_true g).1,(of_decide_eq_true g).2.1⟩
   rw [a2e h1,a2e hn];rfl
theorem dl2 {ch:List Aq} {ru:List Am} (AC:List Ao):∀ (AB:List Ao) (k:Nat),AC.length<k->AB.length+AC.length<=3000000 ->
 oI ⟨ch,AB++AC,ru⟩ k AB.length=some (if kX AB.length AC=true then .inl () else .inr (.inr flaw)):=by
 induction AC with
 | nil=>
  intro AB k hk _;obtain _ | k:=k
  ·omega
  rw [oI,a2e (by simp),a2f (by rfl)]
 | cons e AC ih=>
  intro AB k hk hB;obtain _ | k:=k
  ·omega
  simp only [a0U]at hk hB;rw [oI,a2f (bA _ _ _)];dsimp only
  rw [bC,bsm];simp only [kX,a0k,a2d];by_cases h2:0<=e.In
  ·rw [a2f h2];by_cases h3:e.In<=(AB.length:Int)
   ·rw [a2c h3,eR,bsm,bsm];dsimp only
    rw [aQ (by omega),bsm,bJ AB AC e,aV AB e,ih (AB++[e]) k (by omega) (by simp;omega)];simp [h2,h3]
   ·rw [a2b h3,cV,a2e (fun g=>h3 g.1.2)];rfl
  ·rw [a2e h2,cV,a2e (fun g=>h2 g.1.1)];rfl
def Like (g:aL Int Bool) (u:List Bool):Prop:=(∀ i:Nat,g.get i=if u[i]? =some true then some true else none)/\g.size=u.countP id
theorem like_upd {g:aL Int Bool} {u:List Bool} {c:Int} (h:Like g u) (h0:0<=c) (h1:c<u.length):Like (aL.upd g c true) (u.set c.toNat true):=by
 obtain⟨n,rfl⟩:∃ n:Nat,c=n:=⟨c.toNat,by omega⟩
 have hn:n<u.length:=by omega
 simp only [a0r]
 refine⟨fun i=>?_,?_⟩
 ·simp only [aL.upd];by_cases hi:(i:Int)=n
  ·have:i=n:=by omega
   subst this;rw [a2f rfl];simp [hn]
  ·rw [a2e hi,h.1 i];have:n≠i:=by omega
   simp [this]
 ·simp only [aL.upd];rw [h.1 n,List.countP_set (h:=hn),h.2];have hge:u[n]? =some u[n]:=by simp [hn]
  rw [hge];cases hu:u[n]with
  | false=>simp
  | true=>
   have hpos:0<u.countP id:=a0x.2 ⟨u[n],a0S hn,by simpa using hu⟩
   simp;omega
theorem dl4 {ch:List Aq} {sp:List Ao} {ru:List Am} {a nd:Int} (AC:List Int) {AA:Nat}:∀ (AB:List Int) (k:Nat) (g:aL Int Bool) (u:List Bool),AC.length<k->AB.length+AC.length<AA->AB.length+AC.length<=3000000->u.length=ch.length->Like g u ->
 (∃ u' g',mW ch a AB AC u=some u'/\u'.length=ch.length/\Like g' u'/\jV AA ⟨ch,sp,ru⟩ ⟨a,AB++AC,nd⟩ k AB.length g=some (.inl g')) \/
 (mW ch a AB AC u=none/\jV AA ⟨ch,sp,ru⟩ ⟨a,AB++AC,nd⟩ k AB.length g=some (.inr (.inr (.inr flaw)))):=by
 induction AC with
 | nil=>
  intro AB k g u hk _ _ hl hg;obtain _ | k:=k
  ·omega
  exact .inl ⟨u,g,rfl,hl,hg,by rw [jV,a2e (by simp)]⟩
 | cons e AC ih=>
  intro AB k g u hk hf hB hl hg;obtain _ | k:=k
  ·omega
  simp only [a0U]at hk hB hf;rw [jV,a2f (bA _ _ _)];dsimp only
  rw [bC,bsm];simp only [mW];by_cases h1:0<=e/\e<(ch.length:Int)
  ·obtain⟨y,hy⟩:=fT h1.1 h1.2;rw [a2f h1.1,a2f h1.2,hy,bsm];dsimp only
   by_cases h2:y.At=a
   ·rw [a2f h2];have hs:slc (AB++e :: AC) 0 AB.length=some AB:=by
     unfold slc;rw [a2f ⟨by omega,by omega,by simp;omega⟩];simp
    rw [hs,bsm,aK1 (by omega) (by omega),bsm];by_cases h3:e∈AB
    ·rw [a2c h3,a2e (fun q=>q.2 h3)];exact .inr ⟨rfl,by rw [show(!true)=false from rfl,cV];rfl⟩
    ·rw [a2b h3,a2f ⟨h2,h3⟩,show(!false)=true from rfl,eR,bsm,bsm];dsimp only
     rw [aQ (by omega),bsm,bJ AB AC e,aV AB e];exact ih (AB++[e]) k _ _ (by omega) (by simp;omega) (by simp;omega) (by simpa using hl) (like_upd hg h1.1 (by omega))
   ·rw [a2e h2,cV,a2e (fun q=>h2 q.1)];exact .inr ⟨rfl,rfl⟩
  ·rw [aCt h1];refine .inr ⟨rfl,?_⟩;by_cases h0:0<=e
   ·rw [a2f h0,a2e (fun q=>h1 ⟨h0,q⟩),cV];rfl
   ·rw [a2e h0,cV];rfl
theorem dl3 {ch:List Aq} {sp:List Ao} {AA:Nat} (AC:List Am):∀ (AB:List Am) (k:Nat) (g:aL Int Bool) (u:List Bool),AC.length<k->AB.length+AC.length<=3000000->2000000<AA->(∀ r∈AC,r.AY.length<=2000000)->u.length=ch.length->Like g u ->
 (∃ u' g',jN ch sp.length AC u=some u'/\u'.length=ch.length/\Like g' u'/\nF AA ⟨ch,sp,AB++AC⟩ k AB.length g=some (.inl g')) \/
 (jN ch sp.length AC u=none/\nF AA ⟨ch,sp,AB++AC⟩ k AB.length g=some (.inr (.inr flaw))):=by
 induction AC with
 | nil=>
  intro AB k g u hk _ _ _ hl hg;obtain _ | k:=k
  ·omega
  exact .inl ⟨u,g,rfl,hl,hg,by rw [nF,a2e (by simp)]⟩
 | cons e AC ih=>
  intro AB k g u hk hB hf hJ hl hg;obtain _ | k:=k
  ·omega
  simp only [a0U]at hk hB;have hj:=hJ e (.head _);rw [nF,a2f (bA _ _ _)];dsimp only
  rw [bC,bsm,aEJ,bsm];simp only [jN];by_cases h1:0<=e.At/\e.At<=(sp.length:Int)
  ·rw [a2f h1];dsimp only
   by_cases h2:0<(e.AY.length:Int)
   ·rw [a2f h2];by_cases h3:(e.AY.length:Int)<=3
    ·rw [a2c h3,eR,bsm,a2f (show okR sp.length e from⟨h1.1,h1.2,by omega,by omega⟩)];have h4:=dl4 (ch:=ch) (sp:=sp) (ru:=AB++e :: AC) (a:=e.At) (nd:=e.AV) e.AY (AA:=AA) [] AA g u (by omega) (by simp;omega) (by simp;omega) hl hg
     simp only [a1p,a0Y,a0q]at h4;rcases h4 with⟨u',g',a1,a2,a3,a4⟩ | ⟨a1,a4⟩
     ·rw [a1,bsm];have:((jV AA ⟨ch,sp,AB++e :: AC⟩ e AA 0 g)=some (.inl g')):=a4;dsimp only
      rw [bsm];dsimp only
      rw [this,bsm];dsimp only
      rw [aQ (by omega),bsm,bJ AB AC e,aV AB e];exact ih (AB++[e]) k g' u' (by omega) (by simp;omega) hf (fun r hr=>hJ r (.tail _ hr)) a2 a3
     ·rw [a1];have:((jV AA ⟨ch,sp,AB++e :: AC⟩ e AA 0 g)=some (.inr (.inr (.inr flaw)))):=a4;refine .inr ⟨rfl,?_⟩;dsimp only
      rw [bsm];dsimp only
      rw [this];rfl
    ·rw [a2b h3,cV,a2e (show ¬ okR sp.length e from fun q=>h3 (by have:=q.2.2.2;omega))];exact .inr ⟨rfl,rfl⟩
   ·rw [a2e h2,cV,a2e (show ¬ okR sp.length e from fun q=>h2 (by have:=q.2.2.1;omega))];exact .inr ⟨rfl,rfl⟩
  ·rw [a2e h1,a2e (show ¬ okR sp.length e from fun q=>h1 ⟨q.1,q.2.1⟩)];exact .inr ⟨rfl,rfl⟩
theorem def_eq {AA:Nat} {d:AO} (hf:3000000<=AA) (hs:smD d):vF AA d=some (if okD d=true then .inl () else .inr flaw):=by
 obtain⟨ch,sp,ru⟩:=d
 obtain⟨s1,s2,s3,s4⟩:=hs
 dsimp only at s1 s2 s3 s4
 rw [vF]
 dsimp only
 have e1:=dl1 (sp:=sp) (ru:=ru) ch [] AA (by omega) (by simp;omega)
 have e2:=dl2 (ch:=ch) (ru:=ru) sp [] AA (by omega) (by simp;omega)
 have e3:=dl3 (ch:=ch) (sp:=sp) (AA:=AA) ru [] AA aL.none (List.replicate ch.length false) (by omega) (by simp;omega) (by omega) s4 (by simp) ⟨fun i=>by simp [aL.none,a0M],by simp [aL.none,List.countP_replicate]⟩
 simp only [a1p,a0Y,a0q]at e1 e2 e3
 by_cases l1:ch.length<=30
 ·rw [a2f (by omega)];by_cases l2:sp.length<=30
  ·rw [a2f (by omega)];by_cases l3:ru.length<=30
   ·rw [a2c (by omega),eR,bsm,bsm];dsimp only
    rw [e1,bsm];have hok:okD ⟨ch,sp,ru⟩=(ch.all (gN sp.length) && kX 0 sp && okU (jN ch sp.length ru (List.replicate ch.length false))):=by
     simp only [okD];rw [a2c ⟨l1,l2,l3⟩];simp
    rw [hok];cases h1:ch.all (gN sp.length)with
    | false=>simp
    | true=>
     simp only [if_true,a0p];rw [e2,bsm];cases h2:kX 0 sp with
     | false=>simp
     | true=>
      simp only [if_true,a0p];rcases e3 with⟨u,g,a1,a2,a3,a4⟩ | ⟨a1,a4⟩
      ·rw [a4,bsm];dsimp only
       rw [a1];have hc:((g.size:Int)=(ch.length:Int)) ↔ okU (some u)=true:=by
        show _ ↔ u.all id=true
        rw [a3.2,<- a2,a0t];constructor
        ·intro h;exact List.countP_eq_length.1 (by omega)
        ·intro h;have:=List.countP_eq_length.2 h;omega
       by_cases hh:(g.size:Int)=(ch.length:Int)
       ·rw [a2c hh,eR,a2f (hc.1 hh)];rfl
       ·rw [a2b hh,cV,a2e (fun q=>hh (hc.2 q))];rfl
      ·rw [a4,bsm,a1];simp [okU]
   ·rw [a2b (by omega),cV,a2e];rfl
    intro g;simp only [okD,a0k,a2d]at g;exact l3 g.1.1.1.2.2
  ·rw [a2e (by omega),cV,a2e];rfl
   intro g;simp only [okD,a0k,a2d]at g;exact l2 g.1.1.1.2.1
 ·rw [a2e (by omega),cV,a2e];rfl
  intro g;simp only [okD,a0k,a2d]at g;exact l1 g.1.1.1.1
theorem rl1 {sp:List Ao} {ru:List Am} (AC:List Aq):∀ (AB:List Aq) (k:Nat),AC.length<k->AB.length+AC.length<=3000000 ->
 nQ ⟨AB++AC,sp,ru⟩ k AB.length=some (if AC.all (gN sp.length)=true then .inl () else .inr false):=by
 induction AC with
 | nil=>
  intro AB k hk _;obtain _ | k:=k
  ·omega
  rw [nQ,a2e (by simp),a2f (by rfl)]
 | cons e AC ih=>
  intro AB k hk hB;obtain _ | k:=k
  ·omega
  simp only [a0U]at hk hB;have hall:(e :: AC).all (gN sp.length)=(gN sp.length e && AC.all (gN sp.length)):=rfl;rw [nQ,a2f (bA _ _ _),hall];dsimp only
  rw [bC,bsm];by_cases hc:gN sp.length e=true
  ·obtain⟨c1,c2,c3,c4⟩:=of_decide_eq_true hc;rw [a2e (by omega),bsm,a2e (by omega),bsm,a2e (by omega),bsm,a2e (by omega),aQ (by omega),bsm,bJ AB AC e,aV AB e,ih (AB++[e]) k (by omega) (by simp;omega),hc,a0p]
  ·have hf:gN sp.length e=false:=by simpa using hc
   rw [hf,Bool.false_and,a2e (show ¬ (false=true)from a0m)];have hd:¬ (0<=e.At/\e.At<=(sp.length:Int)/\0<=e.Ap/\e.Ap<=3):=of_decide_eq_false hf;by_cases c1:e.At<0
   ·rw [a2f c1];rfl
   ·rw [a2e c1,bsm];by_cases c2:(sp.length:Int)<e.At
    ·rw [a2f c2];rfl
    ·rw [a2e c2,bsm];by_cases c3:e.Ap<0
     ·rw [a2f c3];rfl
     ·rw [a2e c3,bsm,a2f (by omega)];rfl
theorem rl2 {ch:List Aq} {ru:List Am} (AC:List Ao):∀ (AB:List Ao) (k:Nat),AC.length<k->AB.length+AC.length<=3000000 ->
 pD ⟨ch,AB++AC,ru⟩ k AB.length=some (if kX AB.length AC=true then .inl () else .inr false):=by
 induction AC with
 | nil=>
  intro AB k hk _;obtain _ | k:=k
  ·omega
  rw [pD,a2e (by simp),a2f (by rfl)]
 | cons e AC ih=>
  intro AB k hk hB;obtain _ | k:=k
  ·omega
  simp only [a0U]at hk hB;have hall:kX AB.length (e :: AC)=(decide (0<=e.In/\e.In<=(AB.length:Int)) && kX (AB.length+1) AC):=rfl;rw [pD,a2f (bA _ _ _),hall];dsimp only
  rw [bC,bsm];by_cases hc:0<=e.In/\e.In<=(AB.length:Int)
  ·have hp:(AB++[e]).length=AB.length+1:=by simp
   rw [a2e (by omega),bsm,a2e (by omega),aQ (by omega),bsm,bJ AB AC e,aV AB e,ih (AB++[e]) k (by omega) (by simp;omega),a2c hc,a0p,hp]
  ·rw [a2b hc,Bool.false_and,a2e (show ¬ (false=true)from a0m)];by_cases c1:e.In<0
   ·rw [a2f c1];rfl
   ·rw [a2e c1,bsm,a2f (by omega)];rfl
theorem rl5 {a nd c:Int} {js:List Int} (AC:List Int):∀ (AB:List Int) (k:Nat) (post:List Int),js=AB++AC++post->AC.length<k->AB.length+AC.length<=3000000 ->
 nM ⟨a,js,nd⟩ (AB.length+AC.length:Nat) c k AB.length=some (if c∈AC then .inr (.inr (.inr (.inr false))) else .inl ()):=by
 induction AC with
 | nil=>
  intro AB k post _ hk _;obtain _ | k:=k
  ·omega
  rw [nM,a2e (by simp),a2e (by simp)]
 | cons e AC ih=>
  intro AB k post hj hk hB;obtain _ | k:=k
  ·omega
  simp only [a0U]at hk hB;have hi:idx js (AB.length:Int)=some e:=by rw [hj];exact jU (by simp)
  rw [nM,a2f (by simp;omega)];dsimp only
  rw [hi,bsm];by_cases hc:e=c
  ·rw [a2f hc,a2f (by simp [hc])];rfl
  ·have h:=ih (AB++[e]) k post (by simp [hj]) (by omega) (by simp;omega)
   have hl:(AB++[e]).length+AC.length=AB.length+(e :: AC).length:=by simp;omega
   rw [hl]at h;have hm:(c∈e :: AC) ↔ c∈AC:=by simp [Ne.symm hc]
   rw [a2e hc,aQ (by omega),bsm,aV AB e,h];by_cases hs:c∈AC
   ·rw [a2f hs,a2f (hm.2 hs)]
   ·rw [a2e hs,a2e (fun q=>hs (hm.1 q))]
theorem rl4 {ch:List Aq} {sp:List Ao} {ru:List Am} {a nd:Int} (AC:List Int) {AA:Nat}:∀ (AB:List Int) (k:Nat) (u:List Bool),AC.length<k->AB.length+AC.length<AA->AB.length+AC.length<=3000000->u.length=ch.length ->
 (∃ u',mW ch a AB AC u=some u'/\u'.length=ch.length/\kJ AA ⟨ch,sp,ru⟩ ⟨a,AB++AC,nd⟩ k u AB.length=some (.inl u')) \/
 (mW ch a AB AC u=none/\kJ AA ⟨ch,sp,ru⟩ ⟨a,AB++AC,nd⟩ k u AB.length=some (.inr (.inr false))):=by
 induction AC with
 | nil=>
  intro AB k u hk _ _ hl;obtain _ | k:=k
  ·omega
  exact .inl ⟨u,rfl,hl,by rw [kJ,a2e (by simp)]⟩
 | cons e AC ih=>
  intro AB k u hk hf hB hl;obtain _ | k:=k
  ·omega
  simp only [a0U]at hk hB hf;rw [kJ,a2f (bA _ _ _)];dsimp only
  rw [bC,bsm];simp only [mW];by_cases h1:0<=e/\e<(ch.length:Int)
  ·obtain⟨y,hy⟩:=fT h1.1 h1.2;obtain⟨b,hb⟩:=fT (xs:=u) h1.1 (by omega)
   rw [hy,a2e (show ¬ e<0 by omega),a2e (show ¬ (ch.length:Int)<=e by omega),bsm];dsimp only
   by_cases h2:y.At=a
   ·have h5:=rl5 (a:=a) (nd:=nd) (c:=e) (js:=AB++e :: AC) AB [] AA (e :: AC) (by simp) (by omega) (by simp;omega)
    simp only [a0Y,a1Q,a0q]at h5;rw [a2e (show ¬ (y.At≠a)from fun q=>q h2),h5,bsm];by_cases h3:e∈AB
    ·rw [a2f h3,a2e (show ¬ (y.At=a/\e ∉ AB)from fun q=>q.2 h3)];exact .inr ⟨rfl,rfl⟩
    ·rw [a2e h3,a2f (show y.At=a/\e ∉ AB from⟨h2,h3⟩)];dsimp only
     rw [hb,bsm,bsm];dsimp only
     rw [aQ (by omega),bsm,bJ AB AC e,aV AB e];exact ih (AB++[e]) k _ (by omega) (by simp;omega) (by simp;omega) (by simpa using hl)
   ·rw [a2f (show y.At≠a from h2),a2e (show ¬ (y.At=a/\e ∉ AB)from fun q=>h2 q.1)];exact .inr ⟨rfl,rfl⟩
  ·rw [aCt h1];refine .inr ⟨rfl,?_⟩;by_cases h0:e<0
   ·rw [a2f h0];rfl
   ·rw [a2e h0,a2f (by omega)];rfl
theorem rl3 {ch:List Aq} {sp:List Ao} {AA:Nat} (AC:List Am):∀ (AB:List Am) (k:Nat) (u:List Bool),AC.length<k->AB.length+AC.length<=3000000->2000000<AA->(∀ r∈AC,r.AY.length<=2000000)->u.length=ch.length ->
 (∃ u',jN ch sp.length AC u=some u'/\u'.length=ch.length/\lR AA ⟨ch,sp,AB++AC⟩ k u AB.length=some (.inl u')) \/
 (jN ch sp.length AC u=none/\lR AA ⟨ch,sp,AB++AC⟩ k u AB.length=some (.inr false)):=by
 induction AC with
 | nil=>
  intro AB k u hk _ _ _ hl;obtain _ | k:=k
  ·omega
  exact .inl ⟨u,rfl,hl,by rw [lR,a2e (by simp)]⟩
 | cons e AC ih=>
  intro AB k u hk hB hf hJ hl;obtain _ | k:=k
  ·omega
  simp only [a0U]at hk hB;have hj:=hJ e (.head _);rw [lR,a2f (bA _ _ _)];dsimp only
  rw [bC,bsm];simp only [jN];by_cases h1:okR sp.length e
  ·obtain⟨c1,c2,c3,c4⟩:=h1;rw [a2f (show okR sp.length e from⟨c1,c2,c3,c4⟩),a2e (show ¬ e.At<0 by omega),a2e (show ¬ (sp.length:Int)<e.At by omega),a2e (show ¬ (e.AY.length:Int)<1 by omega),a2e (show ¬ 3<(e.AY.length:Int) by omega)];have h4:=rl4 (ch:=ch) (sp:=sp) (ru:=AB++e :: AC) (a:=e.At) (nd:=e.AV) e.AY (AA:=AA) [] AA u (by omega) (by simp;omega) (by simp;omega) hl
   simp only [a1p,a0Y,a0q]at h4;rcases h4 with⟨u',a1,a2,a4⟩ | ⟨a1,a4⟩
   ·have:((kJ AA ⟨ch,sp,AB++e :: AC⟩ e AA u 0)=some (.inl u')):=a4;rw [a1,bsm,this,bsm];dsimp only
    rw [aQ (by omega),bsm,bJ AB AC e,aV AB e];exact ih (AB++[e]) k u' (by omega) (by simp;omega) hf (fun r hr=>hJ r (.tail _ hr)) a2
   ·have:((kJ AA ⟨ch,sp,AB++e :: AC⟩ e AA u 0)=some (.inr (.inr false))):=a4;rw [a1,this];exact .inr ⟨rfl,rfl⟩
  ·rw [a2e h1];refine .inr ⟨rfl,?_⟩;unfold okR at h1;by_cases c1:e.At<0
   ·rw [a2f c1];rfl
   ·rw [a2e c1];by_cases c2:(sp.length:Int)<e.At
    ·rw [a2f c2];rfl
    ·rw [a2e c2];by_cases c3:(e.AY.length:Int)<1
     ·rw [a2f c3];rfl
     ·rw [a2e c3,a2f (by omega)];rfl
theorem rl6 (AC:List Bool):∀ (AB:List Bool) (k:Nat),AC.length<k->AB.length+AC.length<=3000000->pG (AB++AC) k AB.length=some (if AC.all id=true then .inl () else .inr false):=by
 induction AC with
 | nil=>
  intro AB k hk _;obtain _ | k:=k
  ·omega
  rw [pG,a2e (by simp),a2f (by rfl)]
 | cons e AC ih=>
  intro AB k hk hB;obtain _ | k:=k
  ·omega
  simp only [a0U]at hk hB;rw [pG,a2f (bA _ _ _),bC,bsm];cases e with
  | false=>
   rw [a1Z,show(false :: AC).all id=false from rfl,a2e a0m];rfl
  | true=>
   rw [a2a,aQ (by omega),bsm,bJ AB AC true,aV AB true,ih (AB++[true]) k (by omega) (by simp;omega),show(true :: AC).all id=AC.all id from by simp]
theorem rdef_eq {AA:Nat} {d:AO} (hf:3000000<=AA) (hs:smD d):zT AA d=some (okD d):=by
 obtain⟨ch,sp,ru⟩:=d
 obtain⟨s1,s2,s3,s4⟩:=hs
 dsimp only at s1 s2 s3 s4
 rw [zT]
 dsimp only
 have e1:=rl1 (sp:=sp) (ru:=ru) ch [] AA (by omega) (by simp;omega)
 have e2:=rl2 (ch:=ch) (ru:=ru) sp [] AA (by omega) (by simp;omega)
 have e3:=rl3 (ch:=ch) (sp:=sp) (AA:=AA) ru [] AA (List.replicate ch.length false) (by omega) (by simp;omega) (by omega) s4 (by simp)
 simp only [a1p,a0Y,a0q]at e1 e2 e3
 have hmk:mk false (ch.length:Int)=some (List.replicate ch.length false):=by unfold mk;rw [a2f (by omega)];simp
 have hok:okD ⟨ch,sp,ru⟩=(decide (ch.length<=30/\sp.length<=30/\ru.length<=30) && ch.all (gN sp.length) && kX 0 sp && okU (jN ch sp.length ru (List.replicate ch.length false))):=rfl
 by_cases l1:30<ch.length
 ·rw [a2f (by omega),hok,a2b (by omega)];simp
 ·rw [a2e (by omega)];by_cases l2:30<sp.length
  ·rw [a2f (by omega),hok,a2b (by omega)];simp
  ·rw [a2e (by omega)];by_cases l3:30<ru.length
   ·rw [a2f (by omega),hok,a2b (by omega)];simp
   ·rw [a2e (by omega),e1,bsm,hok,a2c (by omega)];cases h1:ch.all (gN sp.length)with
    | false=>simp
    | true=>
     simp only [if_true,a0p];rw [e2,bsm];cases h2:kX 0 sp with
     | false=>simp
     | true=>
      simp only [if_true,a0p];rw [hmk,bsm];rcases e3 with⟨u,a1,a2,a4⟩ | ⟨a1,a4⟩
      ·have h6:=rl6 u [] AA (by omega) (by simp;omega)
       simp only [a1p,a0Y,a0q]at h6;rw [a4,bsm,a1];dsimp only
       rw [h6,bsm];have:okU (some u)=u.all id:=rfl;rw [this];cases u.all id <;> simp
      ·rw [a4,bsm,a1];simp [okU]
open Go.SX Go.SW Go.Dt
structure VS where
 sz:List Int
 AT:List Bool
 AX:List Bool
def shp (op:Int):Option (Nat × Nat):=
 if op=1\/op=7 then some (0,0) else if op=3 then some (2,0) else if op=2 then some (0,1) else if op=5 then some (2,2) else if op=6\/op=8 then some (1,3) else if op=4 then some (1,4) else none
def okM (p:AI) (s:VS) (x:AW) (size:Int):Nat->Prop
 | 0=>x.N=0/\x.AU.length=0
 | 1=>(0<=x.N/\x.N<size)/\x.AU.length<=3
 | 2=>x.N=0/\x.AU.length=1
 | 3=>(0<=x.N/\x.N<size)/\x.AU.length=0
 | _=>(0<=x.N/\x.N<(p.AE.length:Int)/\idx s.AX x.N=some false)/\x.AU.length=0
def okN (p:AI) (s:VS) (x:AW) (size:Int):Prop:=(∃ k c,shp x.Op=some (k,c)/\x.AM.length=k/\okM p s x size c)/\x.AU.all (okE size)=true
def own (d:AO):Int:=(d.AN.length:Int)+(d.AR.length:Int)
def brs (ch:List Aq):List Int->Int
 | []=>0
 | c :: js=>(match idx ch c with | some y=>y.Ap | none=>0)+brs ch js
def cO (g:VS->Int->Int->Option VS):VS->List (Int × Int)->Option VS
 | s,[]=>some s
 | s,x :: l=>(g s x.1 x.2).bind fun s=>cO g s l
open Classical in
noncomputable def vis (p:AI):Nat->VS->Int->Int->Option VS
 | 0,_,_,_=>none
 | f+1,s,n,size=>
  if 0<=n/\n<(p.AD.length:Int)/\idx s.AT n=some false then
   (idx p.AD n).bind fun x=>
   if okN p s x size then
    if x.Op=4 then
     (idx p.AE x.N).bind fun d=>
     if okD d=true then
      (cO (vis p f) ⟨s.sz.set n.toNat size,s.AT.set n.toNat true,s.AX.set x.N.toNat true⟩ (d.AP.map fun r=>(r.AV,size+own d+brs d.AN r.AY))).bind fun s1=>
      (cO (vis p f) s1 (d.AR.map fun y=>(y.AV,size+own d))).bind fun s2=>
      cO (vis p f) s2 (x.AM.map fun k=>(k,size+own d))
     else none
    else cO (vis p f) ⟨s.sz.set n.toNat size,s.AT.set n.toNat true,s.AX⟩ (x.AM.map fun k=>(k,size))
   else none
  else none
def unm (s:VS):Nat:=s.AT.countP (fun b=>!b)
structure WS (p:AI) (s:VS):Prop where
 sz:s.sz.length=p.AD.length
 AT:s.AT.length=p.AD.length
 AX:s.AX.length=p.AE.length
structure SmP (p:AI):Prop where
 nodes:p.AD.length<=2000000
 Aa:p.AE.length<=2000000
 free:p.AF.length<=2000000
 names:∀ x∈p.AF,x.size<=2000000
 args:∀ x∈p.AD,x.AU.length<=2000000/\x.AM.length<=2000000/\∀ e∈x.AU,nE e<=2000000
 AX:∀ d∈p.AE,smD d
theorem gI {α:Type} {xs:List α} {i:Int} {y:α} (h:idx xs i=some y):y∈xs:=a1m (eF h)
theorem aHI {ch:List Aq} {a:Int}:∀ (js AB:List Int) (u u':List Bool),mW ch a AB js u=some u'->∀ c∈js,∃ y,idx ch c=some y
 | [],_,_,_,_,c,h=>by cases h
 | e :: js,AB,u,u',h,c,hc=>by
  simp only [mW]at h;cases he:idx ch e with
  | none=>rw [he]at h;cases h
  | some y=>
   rw [he]at h;dsimp only at h
   split at h
   ·cases hc with
    | head=>exact⟨y,he⟩
    | tail _ hc=>exact aHI js _ _ _ h c hc
   ·cases h
theorem aFE {ch:List Aq} {n:Nat}:∀ (rs:List Am) (u u':List Bool),jN ch n rs u=some u'->∀ r∈rs,okR n r/\∀ c∈r.AY,∃ y,idx ch c=some y
 | [],_,_,_,r,h=>by cases h
 | e :: rs,u,u',h,r,hr=>by
  simp only [jN]at h;split at h
  ·rename_i h1;obtain⟨u1,h2,h3⟩:=bind_some h;cases hr with
   | head=>exact⟨h1,aHI _ _ _ _ h2⟩
   | tail _ hr=>exact aFE rs _ _ h3 r hr
  ·cases h
theorem gU {d:AO} (h:okD d=true):d.AN.length<=30/\d.AR.length<=30/\d.AP.length<=30/\(∀ c∈d.AN,0<=c.Ap/\c.Ap<=3)/\∀ r∈d.AP,r.AY.length<=3/\∀ c∈r.AY,∃ y,idx d.AN c=some y/\0<=y.Ap/\y.Ap<=3:=by
 simp only [okD,a0k,a2d]at h
 obtain⟨⟨⟨h1,h2⟩,h3⟩,h4⟩:=h
 have hm:∀ c∈d.AN,0<=c.Ap/\c.Ap<=3:=fun c hc=>by
  have:=of_decide_eq_true (a0t.1 h2 c hc);exact⟨this.2.2.1,this.2.2.2⟩
 refine⟨h1.1,h1.2.1,h1.2.2,hm,fun r hr=>?_⟩
 cases hu:jN d.AN d.AR.length d.AP (List.replicate d.AN.length false)with
 | none=>rw [hu]at h4;cases h4
 | some u=>
  obtain⟨g1,g2⟩:=aFE _ _ _ hu r hr;exact⟨g1.2.2.2,fun c hc=>let ⟨y,hy⟩:=g2 c hc;⟨y,hy,hm y (gI hy)⟩⟩
theorem wK {ch:List Aq}:∀ {js:List Int},(∀ c∈js,∃ y,idx ch c=some y/\0<=y.Ap/\y.Ap<=3)->0<=brs ch js/\brs ch js<=3*js.length
 | [],_=>by simp [brs]
 | c :: js,h=>by
  obtain⟨y,h1,h2,h3⟩:=h c (.head _);have:=wK (js:=js) fun c hc=>h c (.tail _ hc)
  simp only [brs,h1,a0U];omega
theorem aKk {ch:List Aq} {sp:List Ao} {ru:List Am} {a nd:Int} (AC:List Int):∀ (AB:List Int) (k:Nat) (w:Int),AC.length<k->AB.length+AC.length<=1000->0<=w->w<=100000->(∀ c∈AC,∃ y,idx ch c=some y/\0<=y.Ap/\y.Ap<=3)->w+3*AC.length<=100000 ->
 pK ⟨ch,sp,ru⟩ ⟨a,AB++AC,nd⟩ k w AB.length=some (w+brs ch AC):=by
 induction AC with
 | nil=>
  intro AB k w hk _ _ _ _ _;obtain _ | k:=k
  ·omega
  rw [pK,a2e (by simp)];simp [brs]
 | cons e AC ih=>
  intro AB k w hk hB h0 h1 hm hw;obtain _ | k:=k
  ·omega
  simp only [a0U]at hk hB hw;obtain⟨y,g1,g2,g3⟩:=hm e (.head _);rw [pK,a2f (bA _ _ _)];dsimp only
  rw [bC,bsm,g1,bsm,aQ (by omega),bsm,aQ (by omega),bsm,bJ AB AC e,aV AB e,ih (AB++[e]) k _ (by omega) (by simp;omega) (by omega) (by omega) (fun c hc=>hm c (.tail _ hc)) (by omega)];simp only [brs,g1];congr 1;omega
theorem aJu {AA:Nat} {d:AO} {r:Am} (hf:3000<=AA) (h:okD d=true) (hr:r∈d.AP):zP AA d r=some (brs d.AN r.AY):=by
 obtain⟨_,_,_,_,h5⟩:=gU h
 obtain⟨g1,g2⟩:=h5 r hr
 have:=aKk (ch:=d.AN) (sp:=d.AR) (ru:=d.AP) (a:=r.At) (nd:=r.AV) r.AY [] AA 0 (by omega) (by simp;omega) (by omega) (by omega) g2 (by omega)
 simp only [a1p,a0Y,a0q]at this
 rw [zP,this,bsm];congr 1;omega
def jL (p:AI) (o:Option VS):Ad ⊕ Value:=match o with
 | some s=> .inl ⟨p,s.sz,s.AT,s.AX⟩
 | none=> .inr flaw
structure Vis (p:AI) (f:Nat) (rec:Ad->Int->Int->Option (Ad ⊕ Value)):Prop where
 run:∀ (s:VS) (n z:Int),WS p s->unm s<=f->0<=z->z+80*f<=100000->rec ⟨p,s.sz,s.AT,s.AX⟩ n z=some (jL p (vis p f s n z))
structure VisO (p:AI) (f:Nat):Prop where
 out:∀ (s:VS) (n z:Int) (s':VS),WS p s->unm s<=f->vis p f s n z=some s'->WS p s'/\unm s'+1<=unm s
theorem mD {p:AI} {f:Nat} (h:VisO p f):∀ (l:List (Int × Int)) (s s':VS),WS p s->unm s<=f->cO (vis p f) s l=some s'->WS p s'/\unm s'<=unm s
 | [],s,s',hs,_,e=>by cases e;exact⟨hs,a1I _⟩
 | x :: l,s,s',hs,hu,e=>by
  obtain⟨s1,e1,e2⟩:=bind_some e;obtain⟨h1,h2⟩:=h.out _ _ _ _ hs hu e1;obtain⟨h3,h4⟩:=mD h l s1 s' h1 (by omega) e2
  exact⟨h3,by omega⟩
section
variable {p:AI} {f:Nat} {rec:Ad->Int->Int->Option (Ad ⊕ Value)}
theorem ln4 (hv:Vis p f rec) (ho:VisO p f) {op nn:Int} {ar:List AS} {z:Int} (hz:0<=z/\z+80*f<=100000) (AC:List Int):∀ (AB:List Int) (k:Nat) (s:VS),AC.length<k->AB.length+AC.length<=3000000->WS p s->unm s<=f ->
 nA rec ⟨op,nn,ar,AB++AC⟩ z k AB.length p.AF p.AD p.AE p.AG s.sz s.AT s.AX=some (jL p (cO (vis p f) s (AC.map fun k=>(k,z)))):=by
 induction AC with
 | nil=>
  intro AB k s hk _ hs hu;obtain _ | k:=k
  ·omega
  rw [nA,a2e (by simp)];rfl
 | cons e AC ih=>
  intro AB k s hk hB hs hu;obtain _ | k:=k
  ·omega
  simp only [a0U]at hk hB;rw [nA,a2f (bA _ _ _)];dsimp only
  rw [bC,bsm];have h1:=hv.run s e z hs hu hz.1 hz.2;rw [show(⟨⟨p.AF,p.AD,p.AE,p.AG⟩,s.sz,s.AT,s.AX⟩:Ad)=⟨p,s.sz,s.AT,s.AX⟩from rfl,h1,bsm];simp only [a1c,cO];cases hc:vis p f s e z with
  | none=>rfl
  | some s1=>
   obtain⟨h2,h3⟩:=ho.out _ _ _ _ hs hu hc;simp only [jL];rw [aQ (by omega),bsm,bJ AB AC e,aV AB e,bsm];exact ih (AB++[e]) k s1 (by omega) (by simp;omega) h2 (by omega)
theorem ln3 (hv:Vis p f rec) (ho:VisO p f) {ch:List Aq} {ru:List Am} {z:Int} (hz:0<=z/\z+80*f<=100000) (AC:List Ao):∀ (AB:List Ao) (k:Nat) (s:VS),AC.length<k->AB.length+AC.length<=3000000->WS p s->unm s<=f ->
 mJ rec ⟨ch,AB++AC,ru⟩ z k AB.length p.AF p.AD p.AE p.AG s.sz s.AT s.AX=some (match cO (vis p f) s (AC.map fun y=>(y.AV,z))with
  | some s'=> .inl (z,p.AF,p.AD,p.AE,p.AG,s'.sz,s'.AT,s'.AX)
  | none=> .inr (.inr flaw)):=by
 induction AC with
 | nil=>
  intro AB k s hk _ hs hu;obtain _ | k:=k
  ·omega
  rw [mJ,a2e (by simp)];rfl
 | cons e AC ih=>
  intro AB k s hk hB hs hu;obtain _ | k:=k
  ·omega
  simp only [a0U]at hk hB;rw [mJ,a2f (bA _ _ _)];dsimp only
  rw [bC,bsm];have h1:=hv.run s e.AV z hs hu hz.1 hz.2;rw [show(⟨⟨p.AF,p.AD,p.AE,p.AG⟩,s.sz,s.AT,s.AX⟩:Ad)=⟨p,s.sz,s.AT,s.AX⟩from rfl,h1,bsm];simp only [a1c,cO];cases hc:vis p f s e.AV z with
  | none=>rfl
  | some s1=>
   obtain⟨h2,h3⟩:=ho.out _ _ _ _ hs hu hc;simp only [jL];rw [aQ (by omega),bsm,bJ AB AC e,aV AB e,bsm];exact ih (AB++[e]) k s1 (by omega) (by simp;omega) h2 (by omega)
theorem ln2 (hv:Vis p f rec) (ho:VisO p f) {AA:Nat} {d:AO} (hd:okD d=true) (hf:3000<=AA) {z:Int} (hz:0<=z/\z+9+80*f<=100000) (AC:List Am):∀ (AB:List Am) (k:Nat) (s:VS),d.AP=AB++AC->AC.length<k->AB.length+AC.length<=3000000->WS p s->unm s<=f ->
 mI AA rec d z k AB.length p.AF p.AD p.AE p.AG s.sz s.AT s.AX=some (match cO (vis p f) s (AC.map fun r=>(r.AV,z+brs d.AN r.AY))with
  | some s'=> .inl (p.AF,p.AD,p.AE,p.AG,s'.sz,s'.AT,s'.AX)
  | none=> .inr (.inr (.inr flaw))):=by
 induction AC with
 | nil=>
  intro AB k s he hk _ hs hu;obtain _ | k:=k
  ·omega
  rw [mI,he,a2e (by simp)];rfl
 | cons e AC ih=>
  intro AB k s he hk hB hs hu;obtain _ | k:=k
  ·omega
  simp only [a0U]at hk hB;have hmem:e∈d.AP:=by rw [he];simp
  obtain⟨_,_,_,_,h5⟩:=gU hd;obtain⟨g1,g2⟩:=h5 e hmem;have hb:=wK g2;rw [mI,he,a2f (bA _ _ _),<- he,show idx d.AP (AB.length:Int)=some e from by rw [he];exact bC _ _ _,bsm,
   show(⟨e.At,e.AY,e.AV⟩:Am)=e from rfl,show(⟨d.AN,d.AR,d.AP⟩:AO)=d from rfl,aJu hf hd hmem,bsm,aQ (by omega),bsm]
  have h1:=hv.run s e.AV (z+brs d.AN e.AY) hs hu (by omega) (by omega)
  rw [show(⟨⟨p.AF,p.AD,p.AE,p.AG⟩,s.sz,s.AT,s.AX⟩:Ad)=⟨p,s.sz,s.AT,s.AX⟩from rfl,h1,bsm];simp only [a1c,cO];cases hc:vis p f s e.AV (z+brs d.AN e.AY)with
  | none=>rfl
  | some s1=>
   obtain⟨h2,h3⟩:=ho.out _ _ _ _ hs hu hc;simp only [jL];rw [aQ (by omega),bsm,aV AB e,bsm];exact ih (AB++[e]) k s1 (by rw [he];simp) (by omega) (by simp;omega) h2 (by omega)
end
theorem ln1 {AA:Nat} (hf:3000000<=AA) {op nn:Int} {ks:List Int} {z:Int} (AC:List AS):∀ (AB:List AS) (k:Nat),AC.length<k->AB.length+AC.length<=3000000->(∀ e∈AC,nE e<=2000000) ->
 mB AA z ⟨op,nn,AB++AC,ks⟩ k AB.length=some (if AC.all (okE z)=true then .inl () else .inr (.inr flaw)):=by
 induction AC with
 | nil=>
  intro AB k hk _ _;obtain _ | k:=k
  ·omega
  rw [mB,a2e (by simp),a2f (by rfl)]
 | cons e AC ih=>
  intro AB k hk hB he;obtain _ | k:=k
  ·omega
  simp only [a0U]at hk hB;have hn:=he e (.head _);rw [mB,a2f (bA _ _ _),show(e :: AC).all (okE z)=(okE z e && AC.all (okE z))from rfl];dsimp only
  rw [bC,bsm,kK,exp_eq (by omega) (by omega),bsm];cases h1:okE z e with
  | false=>rfl
  | true=>
   rw [a0p,a2f rfl];dsimp only
   rw [aQ (by omega),bsm,bJ AB AC e,aV AB e];exact ih (AB++[e]) k (by omega) (by simp;omega) (fun x hx=>he x (.tail _ hx))
open Go.SX Go.SW Go.Dt
theorem aCW {s:VS} {p:AI} {n:Int} {z:Int} {AX:List Bool} (h0:0<=n) (hm:idx s.AT n=some false):unm ⟨s.sz.set n.toNat z,s.AT.set n.toNat true,AX⟩+1=unm s:=by
 obtain⟨j,rfl,hj,hlt⟩:=mO hm
 simp only [unm,a0r]
 rw [List.countP_set (h:=hlt)]
 have hv:s.AT[j]=false:=by
  have:=a0I hlt;rw [hj]at this;exact(a1V this).symm
 have hpos:0<s.AT.countP (fun b=>!b):=a0x.2 ⟨s.AT[j],a0S hlt,by rw [hv];rfl⟩
 rw [hv];simp;omega
theorem tF {p:AI} {s:VS} (h:WS p s) {i j:Nat} {z:Int}:WS p ⟨s.sz.set i z,s.AT.set i true,s.AX⟩/\WS p ⟨s.sz.set i z,s.AT.set i true,s.AX.set j true⟩:=
 ⟨⟨by simp [h.sz],by simp [h.AT],h.AX⟩,⟨by simp [h.sz],by simp [h.AT],by simp [h.AX]⟩⟩
theorem lA (p:AI) (f:Nat):VisO p f:=by
 induction f with
 | zero=>exact⟨fun s n z s' _ _ h=>by simp [vis]at h⟩
 | succ f ih=>
  refine⟨fun s n z s' hs hu h=>?_⟩
  simp only [vis]at h;split at h
  ·rename_i hc;obtain⟨x,_,h⟩:=bind_some h;have hun:=fun AX=>aCW (p:=p) (z:=z) (AX:=AX) hc.1 hc.2.2
   split at h
   ·split at h
    ·obtain⟨d,_,h⟩:=bind_some h;split at h
     ·obtain⟨s1,e1,h⟩:=bind_some h;obtain⟨s2,e2,e3⟩:=bind_some h;have:=hun (s.AX.set x.N.toNat true);obtain⟨a1,a2⟩:=mD ih _ _ _ (tF hs).2 (by omega) e1
      obtain⟨b1,b2⟩:=mD ih _ _ _ a1 (by omega) e2
      obtain⟨c1,c2⟩:=mD ih _ _ _ b1 (by omega) e3
      exact⟨c1,by omega⟩
     ·cases h
    ·have:=hun s.AX;obtain⟨a1,a2⟩:=mD ih _ _ _ (tF hs (j:=0)).1 (by omega) h
     exact⟨a1,by omega⟩
   ·cases h
  ·cases h
def lG (AA:Nat) (a0:Ad) (a1 a2:Int) (y7:AW) (x2:Int):Option (Ad ⊕ Value):=
 (bR (decide ((y7.AU.length:Int)=x2))).bind fun y26=>
 match y26 with
 | Sum.inr pv15=>some (Sum.inr pv15)
 | Sum.inl _=>
 (mB AA a2 y7 AA 0).bind fun o=>match o with
 | Sum.inr r=>some r
 | Sum.inl _=>
 (if y7.Op=4 then
  (idx a0.Aa y7.N).bind fun _=>
  (idx a0.p.AE y7.N).bind fun y30=>
  (vF AA (⟨y30.AN,y30.AR,y30.AP⟩:AO)).bind fun y31=>
  match y31 with
  | Sum.inr pv17=>(some (Sum.inr pv17)).bind fun r=>some (Sum.inr r)
  | Sum.inl _=>
  (wN (⟨y30.AN,y30.AR,y30.AP⟩:AO)).bind fun y32=>
  (chk (a2+y32)).bind fun z2=>
  (mI AA (fG AA) y30 z2 AA 0 a0.p.AF a0.p.AD a0.p.AE a0.p.AG (a0.Af.set a1.toNat a2) (a0.AT.set a1.toNat true) (a0.Aa.set y7.N.toNat true)).bind fun o=>match o with
  | Sum.inr r=>some r
  | Sum.inl (x17,x18,x19,x20,x21,x22,x23)=>
  mJ (fG AA) y30 z2 AA 0 x17 x18 x19 x20 x21 x22 x23
 else
  some (Sum.inl (a2,a0.p.AF,a0.p.AD,a0.p.AE,a0.p.AG,a0.Af.set a1.toNat a2,a0.AT.set a1.toNat true,a0.Aa))).bind fun o=>match o with
 | Sum.inr r=>some r
 | Sum.inl (x9,x10,x11,x12,x13,x14,x15,x16)=>
 nA (fG AA) y7 x9 AA 0 x10 x11 x12 x13 x14 x15 x16
theorem own_eq {d:AO} (h:d.AN.length<=2000000) (h2:d.AR.length<=2000000):wN d=some (own d):=by
 rw [wN,aQ (by omega),bsm];rfl
section
variable {p:AI} {f m:Nat}
noncomputable def rest (p:AI) (f:Nat) (s:VS) (n z:Int) (x:AW):Option VS:=
 if x.Op=4 then
  (idx p.AE x.N).bind fun d=>
  if okD d=true then
   (cO (vis p f) ⟨s.sz.set n.toNat z,s.AT.set n.toNat true,s.AX.set x.N.toNat true⟩ (d.AP.map fun r=>(r.AV,z+own d+brs d.AN r.AY))).bind fun s1=>
   (cO (vis p f) s1 (d.AR.map fun y=>(y.AV,z+own d))).bind fun s2=>
   cO (vis p f) s2 (x.AM.map fun k=>(k,z+own d))
  else none
 else cO (vis p f) ⟨s.sz.set n.toNat z,s.AT.set n.toNat true,s.AX⟩ (x.AM.map fun k=>(k,z))
theorem tail_bad {a0:Ad} {n z:Int} {x:AW} {x2:Int} (h:¬ (x.AU.length:Int)=x2):lG m a0 n z x x2=some (.inr flaw):=by
 rw [lG,a2b h,cV];rfl
theorem tail_eq (hp:SmP p) (hm:3000000<=m) (hv:Vis p f (fG m)) {s:VS} (hs:WS p s) {n z:Int} {x:AW} (hx:x∈p.AD) (hun:∀ AX,unm ⟨s.sz.set n.toNat z,s.AT.set n.toNat true,AX⟩<=f) (hz:0<=z/\z+69+80*f<=100000)
 (hN:x.Op=4->0<=x.N/\x.N<(p.AE.length:Int)) {x2:Int} (h2:(x.AU.length:Int)=x2):
 lG m ⟨p,s.sz,s.AT,s.AX⟩ n z x x2=some (jL p (if x.AU.all (okE z)=true then rest p f s n z x else none)):=by
 obtain⟨op,nn,ar,ks⟩:=x
 obtain⟨g1,g2,g3⟩:=hp.args _ hx
 dsimp only at g1 g2 g3 h2 hN
 have ho:=lA p f
 rw [lG,a2c h2,eR,bsm]
 dsimp only
 have e1:=ln1 (AA:=m) hm (op:=op) (nn:=nn) (ks:=ks) (z:=z) ar [] m (by omega) (by simp;omega) g3
 simp only [a1p,a0Y,a0q]at e1
 rw [e1,bsm]
 cases hall:ar.all (okE z)with
 | false=>rfl
 | true=>
  rw [a2f rfl,a2f rfl];dsimp only
  by_cases h4:op=4
  ·subst h4;obtain⟨n0,n1⟩:=hN rfl;obtain⟨d,hd⟩:=fT n0 n1;obtain⟨b,hb⟩:=fT (xs:=s.AX) n0 (by rw [hs.AX];exact n1)
   have hsm:=hp.AX d (gI hd);have hres:rest p f s n z ⟨4,nn,ar,ks⟩=if okD d=true then
    (cO (vis p f) ⟨s.sz.set n.toNat z,s.AT.set n.toNat true,s.AX.set nn.toNat true⟩ (d.AP.map fun r=>(r.AV,z+own d+brs d.AN r.AY))).bind fun s1=>
    (cO (vis p f) s1 (d.AR.map fun y=>(y.AV,z+own d))).bind fun s2=>cO (vis p f) s2 (ks.map fun k=>(k,z+own d))
    else none:=by
    rw [rest,a2f rfl];dsimp only;rw [hd,bsm]
   rw [hres,a2f rfl,hb,bsm,hd,bsm,show(⟨d.AN,d.AR,d.AP⟩:AO)=d from rfl,def_eq hm hsm,bsm];cases hok:okD d with
   | false=>rfl
   | true=>
    rw [a2f rfl,a2f rfl];dsimp only
    obtain⟨k1,k2,k3,_,_⟩:=gU hok;have hown:0<=own d/\own d<=60:=by unfold own;omega
    rw [own_eq (by omega) (by omega),bsm,aQ (by omega),bsm];have e2:=ln2 hv ho (AA:=m) hok (by omega) (z:=z+own d) ⟨by omega,by omega⟩ d.AP [] m ⟨s.sz.set n.toNat z,s.AT.set n.toNat true,s.AX.set nn.toNat true⟩ rfl (by omega) (by simp;omega) (tF hs).2 (hun _)
    simp only [a0Y,a0q]at e2;rw [e2,bsm];cases c2:cO (vis p f) ⟨s.sz.set n.toNat z,s.AT.set n.toNat true,s.AX.set nn.toNat true⟩ (d.AP.map fun r=>(r.AV,z+own d+brs d.AN r.AY))with
    | none=>rfl
    | some s1=>
     obtain⟨w1,u1⟩:=mD ho _ _ _ (tF hs).2 (hun _) c2;have hu1:=hun (s.AX.set nn.toNat true);dsimp only
     rw [bsm];have e3:=ln3 hv ho (ch:=d.AN) (ru:=d.AP) (z:=z+own d) ⟨by omega,by omega⟩ d.AR [] m s1 (by omega) (by simp;omega) w1 (by omega)
     simp only [a1p,a0Y,a0q]at e3;rw [show(⟨d.AN,d.AR,d.AP⟩:AO)=d from rfl]at e3;rw [e3,bsm];cases c3:cO (vis p f) s1 (d.AR.map fun y=>(y.AV,z+own d))with
     | none=>rfl
     | some s2=>
      obtain⟨w2,u2⟩:=mD ho _ _ _ w1 (by omega) c3
      dsimp only
      rw [bsm];have e4:=ln4 hv ho (op:=4) (nn:=nn) (ar:=ar) (z:=z+own d) ⟨by omega,by omega⟩ ks [] m s2 (by omega) (by simp;omega) w2 (by omega)
      simp only [a1p,a0Y,a0q]at e4;exact e4
  ·rw [a2e h4,bsm];dsimp only
   have hres:rest p f s n z ⟨op,nn,ar,ks⟩=cO (vis p f) ⟨s.sz.set n.toNat z,s.AT.set n.toNat true,s.AX⟩ (ks.map fun k=>(k,z)):=by
    rw [rest,a2e h4]
   rw [hres];have e4:=ln4 hv ho (op:=op) (nn:=nn) (ar:=ar) (z:=z) ⟨by omega,by omega⟩ ks [] m ⟨s.sz.set n.toNat z,s.AT.set n.toNat true,s.AX⟩ (by omega) (by simp;omega) (tF hs (j:=0)).1 (hun _)
   simp only [a1p,a0Y,a0q]at e4;exact e4
theorem aGE {s:VS} (hs:WS p s) {n z:Int} (h:¬ (0<=n/\n<(p.AD.length:Int)/\idx s.AT n=some false)):fG (m+1) ⟨p,s.sz,s.AT,s.AX⟩ n z=some (.inr flaw):=by
 rw [fG]
 by_cases h0:0<=n
 ·rw [a2f h0];by_cases h1:n<(p.AD.length:Int)
  ·obtain⟨b,hb⟩:=fT (xs:=s.AT) h0 (by rw [hs.AT];exact h1)
   dsimp only
   rw [a2f h1,hb,bsm];cases b with
   | false=>exact absurd ⟨h0,h1,hb⟩ h
   | true=>rfl
  ·dsimp only
   rw [a2e h1,cV];rfl
 ·rw [a2e h0,cV];rfl
end
open Go.SX Go.SW Go.Dt
theorem aIY {op:Int} (h:op=1\/op=7):iR op=some (.iface 235 (.int .i64 0)):=by
 rcases h with rfl | rfl <;> rfl
theorem aKb:iR 3=some (.iface 235 (.int .i64 2)):=rfl
theorem aKi:iR 2=some (.iface 207 (.agg ⟨[]⟩)):=rfl
theorem aJb:iR 5=some (.iface 236 (.agg ⟨[]⟩)):=rfl
theorem aJ0 {op:Int} (h:op=6\/op=8):iR op=some (.iface 208 (.agg ⟨[]⟩)):=by
 rcases h with rfl | rfl <;> rfl
theorem aKB:iR 4=some (.iface 237 (.agg ⟨[]⟩)):=rfl
theorem aGr {op:Int} (h:shp op=none):iR op=some .nilIface:=by
 unfold shp at h
 rw [iR]
 split at h;· cases h
 split at h;· cases h
 split at h;· cases h
 split at h;· cases h
 split at h;· cases h
 split at h;· cases h
 rename_i h1 h2 h3 h4 h5 h6
 rw [a2e (by omega),bsm,a2b (by omega),a1Z,a2e h2,a2e h3,a2e h4,a2e (by omega),bsm,a2b (by omega),a1Z,a2e h6]
def iZ (m:Nat) (a0:Ad) (a1 a2:Int) (y7:AW) (y8:Value):Option (Ad ⊕ Value):=
 ((jB y8).bind fun x1=>
 bif !x1 then
  (lP y8).bind fun y9=>
  (bR (decide ((y7.AM.length:Int)=y9))).bind fun y10=>
  match y10 with
  | Sum.inr pv4=>(some (Sum.inr pv4)).bind fun r=>some (Sum.inr r)
  | Sum.inl _=>
  some (Sum.inl ())
 else
  (bR false).bind fun y11=>
  match y11 with
  | Sum.inr pv5=>(some (Sum.inr pv5)).bind fun r=>some (Sum.inr r)
  | Sum.inl _=>
  some (Sum.inl ())).bind fun o=>match o with
 | Sum.inr r=>some r
 | Sum.inl _=>
 ((eA 207 (.agg #[]) y8).bind fun y12=>
 match y12 with
 | (_,x3)=>
 bif x3 then
  if 0<=y7.N then
   (bR (decide (y7.N<a2))).bind fun y13=>
   match y13 with
   | Sum.inr pv6=>(some (Sum.inr pv6)).bind fun r=>some (Sum.inr r)
   | Sum.inl _=>
   some (Sum.inl (min (y7.AU.length:Int) 3))
  else
   (bR false).bind fun y14=>
   match y14 with
   | Sum.inr pv7=>(some (Sum.inr pv7)).bind fun r=>some (Sum.inr r)
   | Sum.inl _=>
   some (Sum.inl (min (y7.AU.length:Int) 3))
 else
  (eA 208 (.agg #[]) y8).bind fun y15=>
  match y15 with
  | (_,x4)=>
  bif x4 then
   if 0<=y7.N then
    (bR (decide (y7.N<a2))).bind fun y16=>
    match y16 with
    | Sum.inr pv8=>(some (Sum.inr pv8)).bind fun r=>some (Sum.inr r)
    | Sum.inl _=>
    some (Sum.inl 0)
   else
    (bR false).bind fun y17=>
    match y17 with
    | Sum.inr pv9=>(some (Sum.inr pv9)).bind fun r=>some (Sum.inr r)
    | Sum.inl _=>
    some (Sum.inl 0)
  else
   (eA 237 (.agg #[]) y8).bind fun y18=>
   match y18 with
   | (_,x5)=>
   bif x5 then
    if 0<=y7.N then
     if y7.N<(a0.p.AE.length:Int)then
      (idx a0.Aa y7.N).bind fun y19=>
      (bR (!y19)).bind fun y20=>
      match y20 with
      | Sum.inr pv10=>(some (Sum.inr pv10)).bind fun r=>some (Sum.inr r)
      | Sum.inl _=>
      some (Sum.inl 0)
     else
      (bR false).bind fun y21=>
      match y21 with
      | Sum.inr pv11=>(some (Sum.inr pv11)).bind fun r=>some (Sum.inr r)
      | Sum.inl _=>
      some (Sum.inl 0)
    else
     (bR false).bind fun y22=>
     match y22 with
     | Sum.inr pv12=>(some (Sum.inr pv12)).bind fun r=>some (Sum.inr r)
     | Sum.inl _=>
     some (Sum.inl 0)
   else
    (eA 236 (.agg #[]) y8).bind fun y23=>
    match y23 with
    | (_,x6)=>
    bif x6 then
     (bR (decide (y7.N=0))).bind fun y24=>
     match y24 with
     | Sum.inr pv13=>(some (Sum.inr pv13)).bind fun r=>some (Sum.inr r)
     | Sum.inl _=>
     some (Sum.inl 1)
    else
     (bR (decide (y7.N=0))).bind fun y25=>
     match y25 with
     | Sum.inr pv14=>(some (Sum.inr pv14)).bind fun r=>some (Sum.inr r)
     | Sum.inl _=>
     some (Sum.inl 0)).bind fun o=>match o with
 | Sum.inr r=>some r
 | Sum.inl x2=>lG m a0 a1 a2 y7 x2
section
variable {p:AI} {f m:Nat}
theorem tB {s:VS} (hs:WS p s) {n z:Int} {x:AW} (h:0<=n/\n<(p.AD.length:Int)/\idx s.AT n=some false) (hx:idx p.AD n=some x) {v:Value} (hv:iR x.Op=some v):
 fG (m+1) ⟨p,s.sz,s.AT,s.AX⟩ n z=iZ m ⟨p,s.sz,s.AT,s.AX⟩ n z x v:=by
 obtain⟨h0,h1,h2⟩:=h
 obtain⟨b,hb⟩:=fT (xs:=s.sz) h0 (by rw [hs.sz];exact h1)
 rw [fG,a2f h0]
 dsimp only
 rw [a2f h1,h2,bsm,show(!false)=true from rfl,eR,bsm,bsm]
 dsimp only
 rw [bsm,hb,bsm,hx,bsm,hv,bsm]
 rfl
theorem mid_nil {a0:Ad} {n z:Int} {x:AW}:iZ m a0 n z x .nilIface=some (.inr flaw):=rfl
theorem xC {a0:Ad} {n z:Int} {x:AW} {v:Value} {k:Int} (hn:jB v=some false) (hk:lP v=some k) (h:¬ (x.AM.length:Int)=k):iZ m a0 n z x v=some (.inr flaw):=by
 rw [iZ,hn,bsm,show(!false)=true from rfl,a2a,hk,bsm,a2b h,cV];rfl
theorem aG2 {a0:Ad} {n z:Int} {x:AW} {k:Int} (h:(x.AM.length:Int)=k):iZ m a0 n z x (.iface 235 (.int .i64 k))=if x.N=0 then lG m a0 n z x 0 else some (.inr flaw):=by
 rw [iZ,show jB (.iface 235 (.int .i64 k))=some false from rfl,bsm,show(!false)=true from rfl,a2a,show lP (.iface 235 (.int .i64 k))=some k from rfl,bsm,a2c h,eR,bsm,bsm]
 dsimp only
 rw [show eA 207 (.agg #[]) (.iface 235 (.int .i64 k))=some (.agg #[],false)from rfl,bsm]
 dsimp only
 rw [a1Z,show eA 208 (.agg #[]) (.iface 235 (.int .i64 k))=some (.agg #[],false)from rfl,bsm]
 dsimp only
 rw [a1Z,show eA 237 (.agg #[]) (.iface 235 (.int .i64 k))=some (.agg #[],false)from rfl,bsm]
 dsimp only
 rw [a1Z,show eA 236 (.agg #[]) (.iface 235 (.int .i64 k))=some (.agg #[],false)from rfl,bsm]
 dsimp only
 rw [a1Z]
 by_cases h0:x.N=0
 ·rw [a2c h0,eR,a2f h0];rfl
 ·rw [a2b h0,cV,a2e h0];rfl
theorem aJd {a0:Ad} {n z:Int} {x:AW} (h:(x.AM.length:Int)=0):iZ m a0 n z x (.iface 207 (.agg ⟨[]⟩))=if 0<=x.N/\x.N<z then lG m a0 n z x (min (x.AU.length:Int) 3) else some (.inr flaw):=by
 rw [iZ,show jB (.iface 207 (.agg ⟨[]⟩))=some false from rfl,bsm,show(!false)=true from rfl,a2a,show lP (.iface 207 (.agg ⟨[]⟩))=some 0 from rfl,bsm,a2c h,eR,bsm,bsm]
 dsimp only
 rw [show eA 207 (.agg #[]) (.iface 207 (.agg ⟨[]⟩))=some (.agg #[],true)from rfl,bsm]
 dsimp only
 rw [a2a]
 by_cases h0:0<=x.N
 ·rw [a2f h0];by_cases h1:x.N<z
  ·rw [a2c h1,eR,a2f ⟨h0,h1⟩];rfl
  ·rw [a2b h1,cV,a2e (fun q=>h1 q.2)];rfl
 ·rw [a2e h0,cV,a2e (fun q=>h0 q.1)];rfl
theorem aKX {a0:Ad} {n z:Int} {x:AW} (h:(x.AM.length:Int)=1):iZ m a0 n z x (.iface 208 (.agg ⟨[]⟩))=if 0<=x.N/\x.N<z then lG m a0 n z x 0 else some (.inr flaw):=by
 rw [iZ,show jB (.iface 208 (.agg ⟨[]⟩))=some false from rfl,bsm,show(!false)=true from rfl,a2a,show lP (.iface 208 (.agg ⟨[]⟩))=some 1 from rfl,bsm,a2c h,eR,bsm,bsm]
 dsimp only
 rw [show eA 207 (.agg #[]) (.iface 208 (.agg ⟨[]⟩))=some (.agg #[],false)from rfl,bsm]
 dsimp only
 rw [a1Z,show eA 208 (.agg #[]) (.iface 208 (.agg ⟨[]⟩))=some (.agg #[],true)from rfl,bsm]
 dsimp only
 rw [a2a]
 by_cases h0:0<=x.N
 ·rw [a2f h0];by_cases h1:x.N<z
  ·rw [a2c h1,eR,a2f ⟨h0,h1⟩];rfl
  ·rw [a2b h1,cV,a2e (fun q=>h1 q.2)];rfl
 ·rw [a2e h0,cV,a2e (fun q=>h0 q.1)];rfl
theorem aJy {a0:Ad} {n z:Int} {x:AW} (h:(x.AM.length:Int)=2):iZ m a0 n z x (.iface 236 (.agg ⟨[]⟩))=if x.N=0 then lG m a0 n z x 1 else some (.inr flaw):=by
 rw [iZ,show jB (.iface 236 (.agg ⟨[]⟩))=some false from rfl,bsm,show(!false)=true from rfl,a2a,show lP (.iface 236 (.agg ⟨[]⟩))=some 2 from rfl,bsm,a2c h,eR,bsm,bsm]
 dsimp only
 rw [show eA 207 (.agg #[]) (.iface 236 (.agg ⟨[]⟩))=some (.agg #[],false)from rfl,bsm]
 dsimp only
 rw [a1Z,show eA 208 (.agg #[]) (.iface 236 (.agg ⟨[]⟩))=some (.agg #[],false)from rfl,bsm]
 dsimp only
 rw [a1Z,show eA 237 (.agg #[]) (.iface 236 (.agg ⟨[]⟩))=some (.agg #[],false)from rfl,bsm]
 dsimp only
 rw [a1Z,show eA 236 (.agg #[]) (.iface 236 (.agg ⟨[]⟩))=some (.agg #[],true)from rfl,bsm]
 dsimp only
 rw [a2a]
 by_cases h0:x.N=0
 ·rw [a2c h0,eR,a2f h0];rfl
 ·rw [a2b h0,cV,a2e h0];rfl
theorem aJi {s:VS} (hs:WS p s) {n z:Int} {x:AW} (h:(x.AM.length:Int)=1):iZ m ⟨p,s.sz,s.AT,s.AX⟩ n z x (.iface 237 (.agg ⟨[]⟩))=if 0<=x.N/\x.N<(p.AE.length:Int)/\idx s.AX x.N=some false then lG m ⟨p,s.sz,s.AT,s.AX⟩ n z x 0 else some (.inr flaw):=by
 rw [iZ,show jB (.iface 237 (.agg ⟨[]⟩))=some false from rfl,bsm,show(!false)=true from rfl,a2a,show lP (.iface 237 (.agg ⟨[]⟩))=some 1 from rfl,bsm,a2c h,eR,bsm,bsm]
 dsimp only
 rw [show eA 207 (.agg #[]) (.iface 237 (.agg ⟨[]⟩))=some (.agg #[],false)from rfl,bsm]
 dsimp only
 rw [a1Z,show eA 208 (.agg #[]) (.iface 237 (.agg ⟨[]⟩))=some (.agg #[],false)from rfl,bsm]
 dsimp only
 rw [a1Z,show eA 237 (.agg #[]) (.iface 237 (.agg ⟨[]⟩))=some (.agg #[],true)from rfl,bsm]
 dsimp only
 rw [a2a]
 by_cases h0:0<=x.N
 ·rw [a2f h0];by_cases h1:x.N<(p.AE.length:Int)
  ·obtain⟨b,hb⟩:=fT (xs:=s.AX) h0 (by rw [hs.AX];exact h1)
   rw [a2f h1,hb,bsm];cases b with
   | false=>rw [a2f ⟨h0,h1,rfl⟩];rfl
   | true=>rw [a2e (fun q=>by cases q.2.2)];rfl
  ·rw [a2e h1,cV,a2e (fun q=>h1 q.2.1)];rfl
 ·rw [a2e h0,cV,a2e (fun q=>h0 q.1)];rfl
theorem vis_go {s:VS} {n z:Int} {x:AW} (h:0<=n/\n<(p.AD.length:Int)/\idx s.AT n=some false) (hx:idx p.AD n=some x):(okN p s x z->vis p (f+1) s n z=rest p f s n z x)/\(¬ okN p s x z->vis p (f+1) s n z=none):=by
 constructor
 ·intro ho;simp only [vis];rw [a2f h,hx,bsm,a2f ho];rfl
 ·intro ho;simp only [vis];rw [a2f h,hx,bsm,a2e ho]
theorem node_go (hp:SmP p) (hm:3000000<=m) (hv:Vis p f (fG m)) {s:VS} (hs:WS p s) {n z:Int} (hu:unm s<=f+1) (hz:0<=z/\z+69+80*f<=100000) (h:0<=n/\n<(p.AD.length:Int)/\idx s.AT n=some false):
 fG (m+1) ⟨p,s.sz,s.AT,s.AX⟩ n z=some (jL p (vis p (f+1) s n z)):=by
 obtain⟨x,hx⟩:=fT h.1 h.2.1
 obtain⟨v1,v2⟩:=vis_go (f:=f) (z:=z) h hx
 have hun:∀ AX,unm ⟨s.sz.set n.toNat z,s.AT.set n.toNat true,AX⟩<=f:=fun AX=>by
  have:=aCW (p:=p) (z:=z) (AX:=AX) h.1 h.2.2;omega
 have hN:∀ {c k:Nat},shp x.Op=some (k,c)->okM p s x z c->x.Op=4->0<=x.N/\x.N<(p.AE.length:Int):=fun {c k} h1 h2 h4=>by
  rw [h4]at h1;have:(1,4)=(k,c):=a1V h1;cases this;exact⟨h2.1.1,h2.1.2.1⟩
 have fin:∀ {k c:Nat} (x2:Int),shp x.Op=some (k,c)->(x.AM.length:Int)=k->((x.AU.length:Int)=x2->okM p s x z c)->(okM p s x z c->(x.AU.length:Int)=x2)->lG m ⟨p,s.sz,s.AT,s.AX⟩ n z x x2=some (jL p (vis p (f+1) s n z)):=fun {k c} x2 h1 h2 h3 h4=>by
  by_cases ha:(x.AU.length:Int)=x2
  ·rw [tail_eq hp hm hv hs (gI hx) hun hz (hN h1 (h3 ha)) ha];congr 2
   by_cases hall:x.AU.all (okE z)=true
   ·rw [a2f hall,v1 ⟨⟨k,c,h1,by omega,h3 ha⟩,hall⟩]
   ·rw [a2e hall,v2 (fun q=>hall q.2)]
  ·rw [tail_bad ha,v2];rfl
   rintro⟨⟨k',c',g1,_,g3⟩,_⟩
   rw [h1]at g1;cases g1
   exact ha (h4 g3)
 have bad:∀ {k c:Nat},shp x.Op=some (k,c)->¬ ((x.AM.length:Int)=k/\okM p s x z c)->some (jL p (vis p (f+1) s n z))=some (.inr flaw):=fun {k c} h1 h2=>by
  rw [v2];rfl
  rintro⟨⟨k',c',g1,g2,g3⟩,_⟩
  rw [h1]at g1;cases g1
  exact h2 ⟨by omega,g3⟩
 by_cases o1:x.Op=1\/x.Op=7
 ·have hsh:shp x.Op=some (0,0):=by unfold shp;rw [a2f o1]
  rw [tB hs h hx (aIY o1)];by_cases hk:(x.AM.length:Int)=0
  ·rw [aG2 hk];by_cases hn:x.N=0
   ·rw [a2f hn];exact fin 0 hsh hk (fun q=>⟨hn,by omega⟩) (fun q=>by have:=q.2;omega)
   ·rw [a2e hn,bad hsh (fun q=>hn q.2.1)]
  ·rw [xC rfl rfl hk,bad hsh (fun q=>hk q.1)]
 ·by_cases o3:x.Op=3
  ·have hsh:shp x.Op=some (2,0):=by unfold shp;rw [a2e o1,a2f o3]
   rw [tB hs h hx (by rw [o3];exact aKb)];by_cases hk:(x.AM.length:Int)=2
   ·rw [aG2 hk];by_cases hn:x.N=0
    ·rw [a2f hn];exact fin 0 hsh hk (fun q=>⟨hn,by omega⟩) (fun q=>by have:=q.2;omega)
    ·rw [a2e hn,bad hsh (fun q=>hn q.2.1)]
   ·rw [xC rfl rfl hk,bad hsh (fun q=>hk q.1)]
  ·by_cases o2:x.Op=2
   ·have hsh:shp x.Op=some (0,1):=by unfold shp;rw [a2e o1,a2e o3,a2f o2]
    rw [tB hs h hx (by rw [o2];exact aKi)];by_cases hk:(x.AM.length:Int)=0
    ·rw [aJd hk];by_cases hn:0<=x.N/\x.N<z
     ·rw [a2f hn];exact fin _ hsh hk (fun q=>⟨hn,by omega⟩) (fun q=>by have:=q.2;omega)
     ·rw [a2e hn,bad hsh (fun q=>hn q.2.1)]
    ·rw [xC rfl rfl hk,bad hsh (fun q=>hk q.1)]
   ·by_cases o5:x.Op=5
    ·have hsh:shp x.Op=some (2,2):=by unfold shp;rw [a2e o1,a2e o3,a2e o2,a2f o5]
     rw [tB hs h hx (by rw [o5];exact aJb)];by_cases hk:(x.AM.length:Int)=2
     ·rw [aJy hk];by_cases hn:x.N=0
      ·rw [a2f hn];exact fin 1 hsh hk (fun q=>⟨hn,by omega⟩) (fun q=>by have:=q.2;omega)
      ·rw [a2e hn,bad hsh (fun q=>hn q.2.1)]
     ·rw [xC rfl rfl hk,bad hsh (fun q=>hk q.1)]
    ·by_cases o6:x.Op=6\/x.Op=8
     ·have hsh:shp x.Op=some (1,3):=by unfold shp;rw [a2e o1,a2e o3,a2e o2,a2e o5,a2f o6]
      rw [tB hs h hx (aJ0 o6)];by_cases hk:(x.AM.length:Int)=1
      ·rw [aKX hk];by_cases hn:0<=x.N/\x.N<z
       ·rw [a2f hn];exact fin 0 hsh hk (fun q=>⟨hn,by omega⟩) (fun q=>by have:=q.2;omega)
       ·rw [a2e hn,bad hsh (fun q=>hn q.2.1)]
      ·rw [xC rfl rfl hk,bad hsh (fun q=>hk q.1)]
     ·by_cases o4:x.Op=4
      ·have hsh:shp x.Op=some (1,4):=by unfold shp;rw [a2e o1,a2e o3,a2e o2,a2e o5,a2e o6,a2f o4]
       rw [tB hs h hx (by rw [o4];exact aKB)];by_cases hk:(x.AM.length:Int)=1
       ·rw [aJi hs hk];by_cases hn:0<=x.N/\x.N<(p.AE.length:Int)/\idx s.AX x.N=some false
        ·rw [a2f hn];exact fin 0 hsh hk (fun q=>⟨hn,by omega⟩) (fun q=>by have:=q.2;omega)
        ·rw [a2e hn,bad hsh (fun q=>hn q.2.1)]
       ·rw [xC rfl rfl hk,bad hsh (fun q=>hk q.1)]
      ·have hsh:shp x.Op=none:=by unfold shp;rw [a2e o1,a2e o3,a2e o2,a2e o5,a2e o6,a2e o4]
       rw [tB hs h hx (aGr hsh),mid_nil,v2];rfl
       rintro⟨⟨k',c',g1,_⟩,_⟩
       rw [hsh]at g1;cases g1
end
theorem aAZ {p:AI} {f:Nat} {s:VS} {n z:Int} (h:¬ (0<=n/\n<(p.AD.length:Int)/\idx s.AT n=some false)):vis p f s n z=none:=by
 cases f with
 | zero=>rfl
 | succ f=>simp only [vis];rw [a2e h]
theorem aG8 {s:VS} {n:Int} (h:idx s.AT n=some false):0<unm s:=a0x.2 ⟨false,gI h,rfl⟩
theorem pvis {p:AI} (hp:SmP p) {b:Nat} (hb:3000000<=b) (f:Nat):Vis p f (fG (b+f+1)):=by
 induction f with
 | zero=>
  refine⟨fun s n z hs hu h0 h1=>?_⟩
  have h:¬ (0<=n/\n<(p.AD.length:Int)/\idx s.AT n=some false):=fun q=>by have:=aG8 q.2.2;omega
  rw [aGE hs h,aAZ h];rfl
 | succ f ih=>
  refine⟨fun s n z hs hu h0 h1=>?_⟩
  by_cases h:0<=n/\n<(p.AD.length:Int)/\idx s.AT n=some false
  ·exact node_go hp (m:=b+f+1) (by omega) ih hs hu ⟨h0,by omega⟩ h
  ·rw [aGE hs h,aAZ h];rfl
open Go.SX Go.SW Go.Dt
def ob (l:List Bool):List Int:=l.map fun b=>if b=true then 1 else 0
theorem jG {l:List Bool}:(ob l).length=l.length:=by simp [ob]
theorem aDy {l:List Bool} {i:Int} {b:Bool} (h:idx l i=some b):idx (ob l) i=some (if b=true then 1 else 0):=by
 obtain⟨j,rfl,hj,_⟩:=mO h
 exact jU (by simp [ob,hj])
theorem ob_set {l:List Bool} {i:Nat}:ob (l.set i true)=(ob l).set i 1:=by simp [ob,List.map_set]
theorem ob_rep {n:Nat}:ob (List.replicate n false)=List.replicate n 0:=by simp [ob]
def ROut (p:AI) (o:Option VS) (L:Ah):Prop:=match o with
 | some s=>L=⟨p,s.sz,ob s.AT,ob s.AX,false⟩
 | none=>L.bad=true/\L.Al.length=p.AD.length/\L.Ak.length=p.AE.length
structure RVis (p:AI) (f:Nat) (rec:Ah->Int->Int->Option Ah):Prop where
 run:∀ (s:VS) (n z:Int),WS p s->unm s<=f->0<=z->z+80*f<=100000->∃ L,rec ⟨p,s.sz,ob s.AT,ob s.AX,false⟩ n z=some L/\ROut p (vis p f s n z) L
theorem aJO {ch:List Aq} {sp:List Ao} {ru:List Am} {a nd:Int} (AC:List Int):∀ (AB:List Int) (k:Nat) (w:Int),AC.length<k->AB.length+AC.length<=1000->0<=w->w<=100000->(∀ c∈AC,∃ y,idx ch c=some y/\0<=y.Ap/\y.Ap<=3)->w+3*AC.length<=100000 ->
 qA ⟨ch,sp,ru⟩ ⟨a,AB++AC,nd⟩ k w AB.length=some (w+brs ch AC):=by
 induction AC with
 | nil=>
  intro AB k w hk _ _ _ _ _;obtain _ | k:=k
  ·omega
  rw [qA,a2e (by simp)];simp [brs]
 | cons e AC ih=>
  intro AB k w hk hB h0 h1 hm hw;obtain _ | k:=k
  ·omega
  simp only [a0U]at hk hB hw;obtain⟨y,g1,g2,g3⟩:=hm e (.head _);rw [qA,a2f (bA _ _ _)];dsimp only
  rw [bC,bsm,g1,bsm,aQ (by omega),bsm,aQ (by omega),bsm,bJ AB AC e,aV AB e,ih (AB++[e]) k _ (by omega) (by simp;omega) (by omega) (by omega) (fun c hc=>hm c (.tail _ hc)) (by omega)];simp only [brs,g1];congr 1;omega
theorem more_eq {AA:Nat} {d:AO} {r:Am} (hf:3000<=AA) (h:okD d=true) (hr:r∈d.AP):yG AA d r=some (brs d.AN r.AY):=by
 obtain⟨_,_,_,_,h5⟩:=gU h
 obtain⟨g1,g2⟩:=h5 r hr
 have:=aJO (ch:=d.AN) (sp:=d.AR) (ru:=d.AP) (a:=r.At) (nd:=r.AV) r.AY [] AA 0 (by omega) (by simp;omega) (by omega) (by omega) g2 (by omega)
 simp only [a1p,a0Y,a0q]at this
 rw [yG,this,bsm];congr 1;omega
theorem rL {rec:Ah->Int->Int->Option Ah} {y:AW} {z i:Int} {k:Nat} {a:List ByteArray} {b:List AW} {c:List AO} {d:Int} {sz ow us:List Int}:
 jI rec y z (k+1) i a b c d sz ow us true=some ⟨⟨a,b,c,d⟩,sz,ow,us,true⟩:=by
 rw [jI];split
 ·rw [a2a]
 ·rfl
theorem d1_bad {AA:Nat} {rec:Ah->Int->Int->Option Ah} {y:AO} {z i:Int} {k:Nat} {a:List ByteArray} {b:List AW} {c:List AO} {d:Int} {sz ow us:List Int}:
 kR AA rec y z (k+1) i a b c d sz ow us true=some (a,b,c,d,sz,ow,us,true):=by
 rw [kR];split
 ·rw [a2a]
 ·rfl
theorem aD3 {rec:Ah->Int->Int->Option Ah} {y:AO} {z i:Int} {k:Nat} {a:List ByteArray} {b:List AW} {c:List AO} {d:Int} {sz ow us:List Int}:
 kO rec y z (k+1) i a b c d sz ow us true=some ⟨⟨a,b,c,d⟩,sz,ow,us,true⟩:=by
 rw [kO];split
 ·rw [a2a]
 ·rfl
section
variable {p:AI} {f:Nat} {rec:Ah->Int->Int->Option Ah}
theorem rk2 (hv:RVis p f rec) {op nn:Int} {ar:List AS} {z:Int} (hz:0<=z/\z+80*f<=100000) (AC:List Int):∀ (AB:List Int) (k:Nat) (s:VS),AC.length<k->AB.length+AC.length<=3000000->WS p s->unm s<=f ->
 ∃ L,jI rec ⟨op,nn,ar,AB++AC⟩ z k AB.length p.AF p.AD p.AE p.AG s.sz (ob s.AT) (ob s.AX) false=some L/\ROut p (cO (vis p f) s (AC.map fun k=>(k,z))) L:=by
 induction AC with
 | nil=>
  intro AB k s hk _ hs hu;obtain _ | k:=k
  ·omega
  exact⟨_,by rw [jI,a2e (by simp)],rfl⟩
 | cons e AC ih=>
  intro AB k s hk hB hs hu;obtain _ | k:=k
  ·omega
  simp only [a0U]at hk hB;obtain⟨L,h1,h2⟩:=hv.run s e z hs hu hz.1 hz.2;rw [jI,a2f (bA _ _ _),a1Z];dsimp only
  rw [bC,bsm,show(⟨⟨p.AF,p.AD,p.AE,p.AG⟩,s.sz,ob s.AT,ob s.AX,false⟩:Ah)=⟨p,s.sz,ob s.AT,ob s.AX,false⟩from rfl,h1,bsm,aQ (by omega),bsm,bJ AB AC e,aV AB e];simp only [a1c,cO];cases hc:vis p f s e z with
  | none=>
   rw [hc]at h2;obtain⟨g1,g2,g3⟩:=h2;obtain _ | k:=k
   ·omega
   rw [g1,rL];exact⟨_,rfl,rfl,g2,g3⟩
  | some s1=>
   rw [hc]at h2;have h2:L=_:=h2;subst h2;obtain⟨w1,u1⟩:=(lA p f).out _ _ _ _ hs hu hc;rw [bsm];exact ih (AB++[e]) k s1 (by omega) (by simp;omega) w1 (by omega)
theorem rd2 (hv:RVis p f rec) {ch:List Aq} {ru:List Am} {z:Int} (hz:0<=z/\z+80*f<=100000) (AC:List Ao):∀ (AB:List Ao) (k:Nat) (s:VS),AC.length<k->AB.length+AC.length<=3000000->WS p s->unm s<=f ->
 ∃ L,kO rec ⟨ch,AB++AC,ru⟩ z k AB.length p.AF p.AD p.AE p.AG s.sz (ob s.AT) (ob s.AX) false=some L/\ROut p (cO (vis p f) s (AC.map fun y=>(y.AV,z))) L:=by
 induction AC with
 | nil=>
  intro AB k s hk _ hs hu;obtain _ | k:=k
  ·omega
  exact⟨_,by rw [kO,a2e (by simp)],rfl⟩
 | cons e AC ih=>
  intro AB k s hk hB hs hu;obtain _ | k:=k
  ·omega
  simp only [a0U]at hk hB;obtain⟨L,h1,h2⟩:=hv.run s e.AV z hs hu hz.1 hz.2;rw [kO,a2f (bA _ _ _),a1Z];dsimp only
  rw [bC,bsm,show(⟨⟨p.AF,p.AD,p.AE,p.AG⟩,s.sz,ob s.AT,ob s.AX,false⟩:Ah)=⟨p,s.sz,ob s.AT,ob s.AX,false⟩from rfl,h1,bsm,aQ (by omega),bsm,bJ AB AC e,aV AB e];simp only [a1c,cO];cases hc:vis p f s e.AV z with
  | none=>
   rw [hc]at h2;obtain⟨g1,g2,g3⟩:=h2;obtain _ | k:=k
   ·omega
   rw [g1,aD3];exact⟨_,rfl,rfl,g2,g3⟩
  | some s1=>
   rw [hc]at h2;have h2:L=_:=h2;subst h2;obtain⟨w1,u1⟩:=(lA p f).out _ _ _ _ hs hu hc;rw [bsm];exact ih (AB++[e]) k s1 (by omega) (by simp;omega) w1 (by omega)
abbrev T8:=List ByteArray × List AW × List AO × Int × List Int × List Int × List Int × Bool
def ROut8 (p:AI) (o:Option VS) (t:T8):Prop:=match o with
 | some s=>t=(p.AF,p.AD,p.AE,p.AG,s.sz,ob s.AT,ob s.AX,false)
 | none=>t.2.2.2.2.2.2.2=true/\t.2.2.2.2.2.1.length=p.AD.length/\t.2.2.2.2.2.2.1.length=p.AE.length
theorem rd1 (hv:RVis p f rec) {AA:Nat} {d:AO} (hd:okD d=true) (hf:3000<=AA) {z:Int} (hz:0<=z/\z+9+80*f<=100000) (AC:List Am):∀ (AB:List Am) (k:Nat) (s:VS),d.AP=AB++AC->AC.length<k->AB.length+AC.length<=3000000->WS p s->unm s<=f ->
 ∃ t,kR AA rec d z k AB.length p.AF p.AD p.AE p.AG s.sz (ob s.AT) (ob s.AX) false=some t/\ROut8 p (cO (vis p f) s (AC.map fun r=>(r.AV,z+brs d.AN r.AY))) t:=by
 induction AC with
 | nil=>
  intro AB k s he hk _ hs hu;obtain _ | k:=k
  ·omega
  exact⟨_,by rw [kR,he,a2e (by simp)],rfl⟩
 | cons e AC ih=>
  intro AB k s he hk hB hs hu;obtain _ | k:=k
  ·omega
  simp only [a0U]at hk hB;have hmem:e∈d.AP:=by rw [he];simp
  obtain⟨_,_,_,_,h5⟩:=gU hd;obtain⟨g1,g2⟩:=h5 e hmem;have hb:=wK g2;obtain⟨L,h1,h2⟩:=hv.run s e.AV (z+brs d.AN e.AY) hs hu (by omega) (by omega)
  rw [kR,he,a2f (bA _ _ _),<- he,a1Z,show idx d.AP (AB.length:Int)=some e from by rw [he];exact bC _ _ _,bsm,bsm,
   show(⟨d.AN,d.AR,d.AP⟩:AO)=d from rfl,more_eq hf hd hmem,bsm,aQ (by omega),bsm,
   show(⟨⟨p.AF,p.AD,p.AE,p.AG⟩,s.sz,ob s.AT,ob s.AX,false⟩:Ah)=⟨p,s.sz,ob s.AT,ob s.AX,false⟩from rfl,h1,bsm,aQ (by omega),bsm,aV AB e]
  simp only [a1c,cO];cases hc:vis p f s e.AV (z+brs d.AN e.AY)with
  | none=>
   rw [hc]at h2;obtain⟨g1,g2,g3⟩:=h2;obtain _ | k:=k
   ·omega
   rw [g1,d1_bad];exact⟨_,rfl,rfl,g2,g3⟩
  | some s1=>
   rw [hc]at h2;have h2:L=_:=h2;subst h2;obtain⟨w1,u1⟩:=(lA p f).out _ _ _ _ hs hu hc;rw [bsm];exact ih (AB++[e]) k s1 (by rw [he];simp) (by omega) (by simp;omega) w1 (by omega)
theorem rdef {m:Nat} (hv:RVis p f (eV m)) {d:AO} (hd:okD d=true) (hsm:smD d) (hm:3000000<=m) {z:Int} (hz:0<=z/\z+9+80*f<=100000) {s:VS} (hs:WS p s) (hu:unm s<=f):
 ∃ L,nO (m+1) ⟨p,s.sz,ob s.AT,ob s.AX,false⟩ d z=some L/\ROut p ((cO (vis p f) s (d.AP.map fun r=>(r.AV,z+brs d.AN r.AY))).bind fun s1=>cO (vis p f) s1 (d.AR.map fun y=>(y.AV,z))) L:=by
 obtain⟨c1,c2,c3,_⟩:=hsm
 obtain⟨t,h1,h2⟩:=rd1 hv hd (AA:=m) (by omega) hz d.AP [] m s rfl (by omega) (by simp;omega) hs hu
 simp only [a0Y,a0q]at h1
 rw [nO,h1,bsm]
 cases hc:cO (vis p f) s (d.AP.map fun r=>(r.AV,z+brs d.AN r.AY))with
 | none=>
  rw [hc]at h2;obtain⟨a,b,c,e,sz,ow,us,bd⟩:=t;obtain⟨g1,g2,g3⟩:=h2;dsimp only at g1 g2 g3
  subst g1;obtain⟨m,rfl⟩:∃ k,m=k+1:=⟨m - 1,by omega⟩
  dsimp only
  rw [aD3];exact⟨_,rfl,rfl,g2,g3⟩
 | some s1=>
  rw [hc]at h2;have h2:t=_:=h2;subst h2;obtain⟨w1,u1⟩:=mD (lA p f) _ _ _ hs hu hc;obtain⟨L,h3,h4⟩:=rd2 hv (ch:=d.AN) (ru:=d.AP) (z:=z) ⟨by omega,by omega⟩ d.AR [] m s1 (by omega) (by simp;omega) w1 (by omega)
  simp only [a1p,a0Y,a0q]at h3;exact⟨L,h3,h4⟩
theorem rdef_bad {m:Nat} (hm:0<m) {L:Ah} (hb:L.bad=true) {d:AO} {z:Int}:nO (m+1) L d z=some L:=by
 obtain⟨k,rfl⟩:∃ k,m=k+1:=⟨m - 1,by omega⟩
 obtain⟨q,sz,ow,us,bd⟩:=L
 dsimp only at hb
 subst hb
 rw [nO]
 dsimp only
 rw [d1_bad,bsm]
 dsimp only
 rw [aD3]
end
theorem rn1_bad {AA:Nat} {op nn:Int} {ks:List Int} {z:Int} (AC:List AS):∀ (AB:List AS) (k:Nat),AC.length<k->AB.length+AC.length<=3000000 ->
 jK AA z ⟨op,nn,AB++AC,ks⟩ k AB.length true=some true:=by
 induction AC with
 | nil=>
  intro AB k hk _;obtain _ | k:=k
  ·omega
  rw [jK,a2e (by simp)]
 | cons e AC ih=>
  intro AB k hk hB;obtain _ | k:=k
  ·omega
  simp only [a0U]at hk hB;rw [jK,a2f (bA _ _ _),a2a,bsm,aQ (by omega),bsm,bJ AB AC e,aV AB e];exact ih (AB++[e]) k (by omega) (by simp;omega)
theorem rn1 {AA:Nat} (hf:3000000<=AA) {op nn:Int} {ks:List Int} {z:Int} (AC:List AS):∀ (AB:List AS) (k:Nat),AC.length<k->AB.length+AC.length<=3000000->(∀ e∈AC,nE e<=2000000) ->
 jK AA z ⟨op,nn,AB++AC,ks⟩ k AB.length false=some (!AC.all (okE z)):=by
 induction AC with
 | nil=>
  intro AB k hk _ _;obtain _ | k:=k
  ·omega
  rw [jK,a2e (by simp)];rfl
 | cons e AC ih=>
  intro AB k hk hB he;obtain _ | k:=k
  ·omega
  simp only [a0U]at hk hB;have hn:=he e (.head _);rw [jK,a2f (bA _ _ _),a1Z,show(e :: AC).all (okE z)=(okE z e && AC.all (okE z))from rfl];dsimp only
  rw [bC,bsm,aIC (by omega) (by omega),bsm,bsm,aQ (by omega),bsm,bJ AB AC e,aV AB e];cases h1:okE z e with
  | false=>exact rn1_bad AC (AB++[e]) k (by omega) (by simp;omega)
  | true=>
   rw [a0p];exact ih (AB++[e]) k (by omega) (by simp;omega) (fun x hx=>he x (.tail _ hx))
open Go.SX Go.SW Go.Dt
def tailR (AA:Nat) (a0:Ah) (a1 a2 z1:Int) (y5:AW):Option Ah:=
 (jK AA a2 y5 AA 0 a0.bad).bind fun x1=>
 ((if y5.Op=2 then
   some (decide (y5.Op=2))
 else
  if y5.Op=6 then
   some (decide (y5.Op=6))
  else
   some (decide (y5.Op=8))).bind fun x16=>
 bif x16 then
  bif x1 then
   some (Sum.inl (a2,a0.p.AF,a0.p.AD,a0.p.AE,a0.p.AG,a0.Af.set a1.toNat a2,a0.Al.set a1.toNat z1,a0.Ak,true))
  else
   if y5.N<0 then
    some (Sum.inl (a2,a0.p.AF,a0.p.AD,a0.p.AE,a0.p.AG,a0.Af.set a1.toNat a2,a0.Al.set a1.toNat z1,a0.Ak,true))
   else
    some (Sum.inl (a2,a0.p.AF,a0.p.AD,a0.p.AE,a0.p.AG,a0.Af.set a1.toNat a2,a0.Al.set a1.toNat z1,a0.Ak,decide (a2<=y5.N)))
 else
  if y5.Op=4 then
   if y5.N<0 then
    (some (⟨(⟨a0.p.AF,a0.p.AD,a0.p.AE,a0.p.AG⟩:AI),a0.Af.set a1.toNat a2,a0.Al.set a1.toNat z1,a0.Ak,true⟩:Ah)).bind fun r=>some (Sum.inr r)
   else
    if (a0.p.AE.length:Int)<=y5.N then
     (some (⟨(⟨a0.p.AF,a0.p.AD,a0.p.AE,a0.p.AG⟩:AI),a0.Af.set a1.toNat a2,a0.Al.set a1.toNat z1,a0.Ak,true⟩:Ah)).bind fun r=>some (Sum.inr r)
    else
     (idx a0.Ak y5.N).bind fun y9=>
     if 0<y9 then
      (some (⟨(⟨a0.p.AF,a0.p.AD,a0.p.AE,a0.p.AG⟩:AI),a0.Af.set a1.toNat a2,a0.Al.set a1.toNat z1,a0.Ak,true⟩:Ah)).bind fun r=>some (Sum.inr r)
     else
      (idx a0.Ak y5.N).bind fun y10=>
      (chk (y10+1)).bind fun z3=>
      (idx a0.Ak y5.N).bind fun _=>
      (idx a0.p.AE y5.N).bind fun y12=>
      (vW y12).bind fun y13=>
      (chk (a2+y13)).bind fun z4=>
      (idx a0.p.AE y5.N).bind fun y14=>
      ((nO AA) (⟨(⟨a0.p.AF,a0.p.AD,a0.p.AE,a0.p.AG⟩:AI),a0.Af.set a1.toNat a2,a0.Al.set a1.toNat z1,a0.Ak.set y5.N.toNat z3,x1⟩:Ah) y14 z4).bind fun y15=>
      some (Sum.inl (z4,y15.p.AF,y15.p.AD,y15.p.AE,y15.p.AG,y15.Af,y15.Al,y15.Ak,y15.bad))
  else
   bif x1 then
    some (Sum.inl (a2,a0.p.AF,a0.p.AD,a0.p.AE,a0.p.AG,a0.Af.set a1.toNat a2,a0.Al.set a1.toNat z1,a0.Ak,true))
   else
    some (Sum.inl (a2,a0.p.AF,a0.p.AD,a0.p.AE,a0.p.AG,a0.Af.set a1.toNat a2,a0.Al.set a1.toNat z1,a0.Ak,decide (y5.N≠0)))).bind fun o=>match o with
 | Sum.inr r=>some r
 | Sum.inl (x7,x8,x9,x10,x11,x12,x13,x14,x15)=>
 jI (eV AA) y5 x7 AA 0 x8 x9 x10 x11 x12 x13 x14 x15
theorem rown_eq {d:AO} (h:d.AN.length<=2000000) (h2:d.AR.length<=2000000):vW d=some (own d):=by
 rw [vW,aQ (by omega),bsm];rfl
def kF (p:AI) (s:VS) (x:AW) (z:Int):Prop:=
 if x.Op=2\/x.Op=6\/x.Op=8 then 0<=x.N/\x.N<z else if x.Op=4 then 0<=x.N/\x.N<(p.AE.length:Int)/\idx s.AX x.N=some false else x.N=0
section
variable {p:AI} {f m:Nat}
theorem jJ {q:AI} {sz ow us:List Int} (h1:ow.length=p.AD.length) (h2:us.length=p.AE.length):ROut p none ⟨q,sz,ow,us,true⟩:=⟨rfl,h1,h2⟩
open Classical in
theorem tailR_eq (hp:SmP p) (hall:∀ d∈p.AE,okD d=true) (hm:3000001<=m) (hv:RVis p f (eV m)) (hv':RVis p f (eV (m - 1))) {s:VS} (hs:WS p s) {n z:Int} {x:AW} (hx:x∈p.AD)
 (hun:∀ AX,unm ⟨s.sz.set n.toNat z,s.AT.set n.toNat true,AX⟩<=f) (hz:0<=z/\z+69+80*f<=100000):
 ∃ L,tailR m ⟨p,s.sz,ob s.AT,ob s.AX,false⟩ n z 1 x=some L/\ROut p (if x.AU.all (okE z)=true/\kF p s x z then rest p f s n z x else none) L:=by
 obtain⟨op,nn,ar,ks⟩:=x
 obtain⟨g1,g2,g3⟩:=hp.args _ hx
 dsimp only at g1 g2 g3
 obtain⟨m',rfl⟩:∃ k,m=k+1:=⟨m - 1,by omega⟩
 simp only [Nat.add_sub_cancel]at hv'
 have e1:=rn1 (AA:=m'+1) (by omega) (op:=op) (nn:=nn) (ks:=ks) (z:=z) ar [] (m'+1) (by omega) (by simp;omega) g3
 simp only [a1p,a0Y,a0q]at e1
 have hsets:(ob s.AT).set n.toNat 1=ob (s.AT.set n.toNat true):=ob_set.symm
 have hl1:((ob s.AT).set n.toNat 1).length=p.AD.length:=by simp [jG,hs.AT]
 have hl2:(ob s.AX).length=p.AE.length:=by rw [jG,hs.AX]
 rw [tailR]
 dsimp only
 rw [e1,bsm]
 have good:∀ (zz:Int) (s1:VS),0<=zz->zz+80*f<=100000->WS p s1->unm s1<=f->∃ L,jI (eV (m'+1)) ⟨op,nn,ar,ks⟩ zz (m'+1) 0 p.AF p.AD p.AE p.AG s1.sz (ob s1.AT) (ob s1.AX) false=some L/\ROut p (cO (vis p f) s1 (ks.map fun k=>(k,zz))) L:=fun zz s1 a b c d=>by
  have:=rk2 hv (op:=op) (nn:=nn) (ar:=ar) (z:=zz) ⟨a,b⟩ ks [] (m'+1) s1 (by omega) (by simp;omega) c d
  simpa only [a1p,a0Y,a0q] using this
 have w1:=(tF hs (p:=p) (i:=n.toNat) (j:=0) (z:=z)).1
 have hne4:op≠4->rest p f s n z ⟨op,nn,ar,ks⟩=cO (vis p f) ⟨s.sz.set n.toNat z,s.AT.set n.toNat true,s.AX⟩ (ks.map fun k=>(k,z)):=fun h=>by rw [rest,a2e h]
 by_cases o2:op=2\/op=6\/op=8
 ·have hb:((if op=2 then some (decide (op=2)) else if op=6 then some (decide (op=6)) else some (decide (op=8))):Option Bool)=some true:=by
   rcases o2 with rfl | rfl | rfl <;> rfl
  have hk:kF p s ⟨op,nn,ar,ks⟩ z ↔ (0<=nn/\nn<z):=by unfold kF;rw [a2f o2]
  rw [hb,bsm,a2a];cases hall2:ar.all (okE z)with
  | false=>
   rw [a0n,a2a,bsm];dsimp only
   rw [rL,a2e (fun q=>by cases q.1)]
   exact⟨_,rfl,jJ hl1 hl2⟩
  | true=>
   rw [a0o,a1Z];by_cases n0:nn<0
   ·rw [a2f n0,bsm];dsimp only
    rw [rL,a2e (fun q=>by have:=hk.1 q.2;omega)]
    exact⟨_,rfl,jJ hl1 hl2⟩
   ·rw [a2e n0,bsm];dsimp only
    by_cases n1:z<=nn
    ·rw [a2c n1,rL,a2e (fun q=>by have:=hk.1 q.2;omega)]
     exact⟨_,rfl,jJ hl1 hl2⟩
    ·rw [a2b n1,a2f ⟨rfl,hk.2 ⟨by omega,by omega⟩⟩,hne4 (by omega),hsets];exact good z ⟨s.sz.set n.toNat z,s.AT.set n.toNat true,s.AX⟩ hz.1 (by omega) w1 (hun _)
 ·have hb:((if op=2 then some (decide (op=2)) else if op=6 then some (decide (op=6)) else some (decide (op=8))):Option Bool)=some false:=by
   rw [a2e (by omega),a2e (by omega),a2b (by omega)]
  rw [hb,bsm,a1Z];by_cases o4:op=4
  ·subst o4;have hk:kF p s ⟨4,nn,ar,ks⟩ z ↔ (0<=nn/\nn<(p.AE.length:Int)/\idx s.AX nn=some false):=by unfold kF;rw [a2e o2,a2f rfl]
   rw [a2f rfl];by_cases n0:nn<0
   ·rw [a2f n0,bsm,bsm];dsimp only
    rw [a2e (fun q=>by have:=hk.1 q.2;omega)]
    exact⟨_,rfl,jJ hl1 hl2⟩
   ·rw [a2e n0];by_cases n1:(p.AE.length:Int)<=nn
    ·rw [a2f n1,bsm,bsm];dsimp only
     rw [a2e (fun q=>by have:=hk.1 q.2;omega)]
     exact⟨_,rfl,jJ hl1 hl2⟩
    ·rw [a2e n1];obtain⟨b,hbb⟩:=fT (xs:=s.AX) (show 0<=nn by omega) (by rw [hs.AX];omega)
     obtain⟨d,hd⟩:=fT (xs:=p.AE) (show 0<=nn by omega) (by omega)
     have hok:=hall d (gI hd);have hsm:=hp.AX d (gI hd);obtain⟨k1,k2,k3,_,_⟩:=gU hok;have hown:0<=own d/\own d<=60:=by unfold own;omega
     rw [aDy hbb,bsm];cases b with
     | true=>
      rw [a2f rfl,a2f (by omega),bsm,bsm];dsimp only
      rw [a2e (fun q=>by have:=(hk.1 q.2).2.2;rw [hbb]at this;cases this)]
      exact⟨_,rfl,jJ hl1 hl2⟩
     | false=>
      have hkk:kF p s ⟨4,nn,ar,ks⟩ z:=hk.2 ⟨by omega,by omega,hbb⟩
      rw [a2e a0m,a2e (by omega),bsm,aQ (by omega),bsm,bsm,hd,bsm,rown_eq (by omega) (by omega),bsm,aQ (by omega),bsm,bsm];have hsetd:(ob s.AX).set nn.toNat (0+1)=ob (s.AX.set nn.toNat true):=ob_set.symm;have w2:=(tF hs (p:=p) (i:=n.toNat) (j:=nn.toNat) (z:=z)).2;rw [hsets,hsetd];cases hall2:ar.all (okE z)with
      | false=>
       rw [a0n,rdef_bad (by omega) rfl,bsm,bsm];dsimp only
       rw [rL,a2e (fun q=>by cases q.1)]
       exact⟨_,rfl,jJ (by rw [<- hsets];exact hl1) (by rw [jG];simp [hs.AX])⟩
      | true=>
       rw [a0o,a2f ⟨rfl,hkk⟩];obtain⟨L,h1,h2⟩:=rdef hv' hok hsm (by omega) (z:=z+own d) ⟨by omega,by omega⟩ w2 (hun (s.AX.set nn.toNat true))
       rw [show(⟨⟨p.AF,p.AD,p.AE,p.AG⟩,s.sz.set n.toNat z,ob (s.AT.set n.toNat true),ob (s.AX.set nn.toNat true),false⟩:Ah)=⟨p,s.sz.set n.toNat z,ob (s.AT.set n.toNat true),ob (s.AX.set nn.toNat true),false⟩from rfl,h1,bsm,bsm];dsimp only
       have hres:rest p f s n z ⟨4,nn,ar,ks⟩=((cO (vis p f) ⟨s.sz.set n.toNat z,s.AT.set n.toNat true,s.AX.set nn.toNat true⟩ (d.AP.map fun r=>(r.AV,z+own d+brs d.AN r.AY))).bind fun s1=>cO (vis p f) s1 (d.AR.map fun y=>(y.AV,z+own d))).bind fun s2=>cO (vis p f) s2 (ks.map fun k=>(k,z+own d)):=by
        rw [rest,a2f rfl];dsimp only;rw [hd,bsm,a2f hok,Option.bind_assoc]
       rw [hres];cases hc:(cO (vis p f) ⟨s.sz.set n.toNat z,s.AT.set n.toNat true,s.AX.set nn.toNat true⟩ (d.AP.map fun r=>(r.AV,z+own d+brs d.AN r.AY))).bind fun s1=>cO (vis p f) s1 (d.AR.map fun y=>(y.AV,z+own d))with
       | none=>
        rw [hc]at h2;obtain⟨q1,q2,q3⟩:=h2;rw [q1,rL];exact⟨_,rfl,rfl,q2,q3⟩
       | some s2=>
        rw [hc]at h2;have h2:L=_:=h2;subst h2;obtain⟨s1,a1,a2⟩:=bind_some hc;obtain⟨b1,b2⟩:=mD (lA p f) _ _ _ w2 (hun _) a1;have:=hun (s.AX.set nn.toNat true);obtain⟨c1,c2⟩:=mD (lA p f) _ _ _ b1 (by omega) a2
        rw [bsm];exact good (z+own d) s2 (by omega) (by omega) c1 (by omega)
  ·have hk:kF p s ⟨op,nn,ar,ks⟩ z ↔ nn=0:=by unfold kF;rw [a2e o2,a2e o4]
   rw [a2e o4];cases hall2:ar.all (okE z)with
   | false=>
    rw [a0n,a2a,bsm];dsimp only
    rw [rL,a2e (fun q=>by cases q.1)]
    exact⟨_,rfl,jJ hl1 hl2⟩
   | true=>
    rw [a0o,a1Z,bsm];dsimp only
    by_cases n1:nn≠0
    ·rw [a2c n1,rL,a2e (fun q=>n1 (hk.1 q.2))];exact⟨_,rfl,jJ hl1 hl2⟩
    ·rw [a2b n1,a2f ⟨rfl,hk.2 (by omega)⟩,hne4 o4,hsets];exact good z ⟨s.sz.set n.toNat z,s.AT.set n.toNat true,s.AX⟩ hz.1 (by omega) w1 (hun _)
theorem aK0 {op:Int} {k c:Nat} (h:shp op=some (k,c)):vR op=some (if c=1 then -1 else if c=2 then 1 else 0,(k:Int),true):=by
 unfold shp at h
 split at h
 ·rename_i h1;cases h;rcases h1 with rfl | rfl <;> rfl
 split at h
 ·rename_i h1;cases h;subst h1;rfl
 split at h
 ·rename_i h1;cases h;subst h1;rfl
 split at h
 ·rename_i h1;cases h;subst h1;rfl
 split at h
 ·rename_i h1;cases h;rcases h1 with rfl | rfl <;> rfl
 split at h
 ·rename_i h1;cases h;subst h1;rfl
 ·cases h
theorem aJ6 {op:Int} (h:shp op=none):vR op=some (0,0,false):=by
 unfold shp at h
 rw [vR]
 split at h;· cases h
 split at h;· cases h
 split at h;· cases h
 split at h;· cases h
 split at h;· cases h
 split at h;· cases h
 rename_i h1 h2 h3 h4 h5 h6
 rw [a2e (by omega),bsm,a2b (by omega),a1Z,a2e h3,a2e h2,a2e h4,a2e h6,a2e (by omega),bsm,a2b (by omega),a1Z]
def sH (c:Nat) (l:Nat):Prop:=if c=1 then l<=3 else if c=2 then l=1 else l=0
theorem aCp {s:VS} {x:AW} {z:Int} {k c:Nat} (h:shp x.Op=some (k,c)):okM p s x z c ↔ kF p s x z/\sH c x.AU.length:=by
 have h0:=h
 unfold shp at h
 unfold kF sH
 split at h
 ·rename_i h1;cases h;rw [a2e (by omega),a2e (by omega)];simp [okM]
 split at h
 ·rename_i h1;cases h;rw [a2e (by omega),a2e (by omega)];simp [okM]
 split at h
 ·rename_i h1;cases h;rw [a2f (.inl h1)];simp [okM]
 split at h
 ·rename_i h1;cases h;rw [a2e (by omega),a2e (by omega)];simp [okM]
 split at h
 ·rename_i h1;cases h;rw [a2f (.inr h1)];simp [okM]
 split at h
 ·rename_i h1;cases h;rw [a2e (by omega),a2f h1];simp [okM]
 ·cases h
open Classical in
theorem rnode_go (hp:SmP p) (hall:∀ d∈p.AE,okD d=true) (hm:3000001<=m) (hv:RVis p f (eV m)) (hv':RVis p f (eV (m - 1))) {s:VS} (hs:WS p s) {n z:Int} (hu:unm s<=f+1) (hz:0<=z/\z+69+80*f<=100000) (h:0<=n/\n<(p.AD.length:Int)/\idx s.AT n=some false):
 ∃ L,eV (m+1) ⟨p,s.sz,ob s.AT,ob s.AX,false⟩ n z=some L/\ROut p (vis p (f+1) s n z) L:=by
 obtain⟨x,hx⟩:=fT h.1 h.2.1
 obtain⟨v1,v2⟩:=vis_go (f:=f) (z:=z) h hx
 have hun:∀ AX,unm ⟨s.sz.set n.toNat z,s.AT.set n.toNat true,AX⟩<=f:=fun AX=>by
  have:=aCW (p:=p) (z:=z) (AX:=AX) h.1 h.2.2;omega
 obtain⟨b,hb⟩:=fT (xs:=s.sz) h.1 (by rw [hs.sz];exact h.2.1)
 have hl1:((ob s.AT).set n.toNat 1).length=p.AD.length:=by simp [jG,hs.AT]
 have hl2:(ob s.AX).length=p.AE.length:=by rw [jG,hs.AX]
 have hgo:=tailR_eq hp hall hm hv hv' hs (n:=n) (z:=z) (gI hx) hun hz
 rw [eV]
 dsimp only
 rw [a2e (by omega),a2e (by omega),aDy h.2.2,bsm,a2e a0m,a2e (by omega),bsm,aQ (by omega),bsm,bsm,hb,bsm,hx,bsm]
 cases hsh:shp x.Op with
 | none=>
  rw [aJ6 hsh,bsm];dsimp only
  rw [a0n,a2a,bsm,bsm,v2 (by rintro⟨⟨k,c,g,_⟩,_⟩;rw [hsh]at g;cases g)];exact⟨_,rfl,jJ hl1 hl2⟩
 | some kc=>
  obtain⟨k,c⟩:=kc;rw [aK0 hsh,bsm];dsimp only
  rw [a0o,a1Z];by_cases hk:(x.AM.length:Int)≠(k:Int)
  ·rw [a2f hk,bsm,bsm,v2 (by rintro⟨⟨k',c',g,g2,_⟩,_⟩;rw [hsh]at g;cases g;omega)];exact⟨_,rfl,jJ hl1 hl2⟩
  ·rw [a2e hk];have hfin:(if x.AU.all (okE z)=true/\kF p s x z then rest p f s n z x else none)=vis p (f+1) s n z\/¬ sH c x.AU.length:=by
    by_cases ha:sH c x.AU.length
    ·left
     by_cases hq:x.AU.all (okE z)=true/\kF p s x z
     ·rw [a2f hq,v1 ⟨⟨k,c,hsh,by omega,(aCp hsh).2 ⟨hq.2,ha⟩⟩,hq.1⟩]
     ·rw [a2e hq,v2];rintro⟨⟨k',c',g,_,g3⟩,g4⟩
      rw [hsh]at g;cases g
      exact hq ⟨g4,((aCp hsh).1 g3).1⟩
    ·exact .inr ha
   have hbad:¬ sH c x.AU.length->vis p (f+1) s n z=none:=fun ha=>v2 (by
    rintro⟨⟨k',c',g,_,g3⟩,_⟩
    rw [hsh]at g;cases g
    exact ha ((aCp hsh).1 g3).2)
   obtain⟨L,e1,e2⟩:=hgo;by_cases ha:sH c x.AU.length
   ·rw [hfin.resolve_right (fun q=>q ha)]at e2;refine⟨L,?_,e2⟩;rw [<- e1];unfold sH at ha;by_cases c1:c=1
    ·rw [a2f c1]at ha ⊢;rw [a2f (by omega),a2e (by omega),a2e (by omega),bsm];rfl
    ·rw [a2e c1]at ha ⊢;by_cases c2:c=2
     ·rw [a2f c2]at ha ⊢;rw [a2e (by omega),a2f (by omega),a2e (by omega),bsm];rfl
     ·rw [a2e c2]at ha ⊢;rw [a2e (by omega),a2f (by omega),a2e (by omega),bsm];rfl
   ·rw [hbad ha];refine⟨⟨p,s.sz.set n.toNat z,(ob s.AT).set n.toNat 1,ob s.AX,true⟩,?_,jJ hl1 hl2⟩;unfold sH at ha;by_cases c1:c=1
    ·rw [a2f c1]at ha ⊢;rw [a2f (by omega),a2f (by omega),bsm,bsm];rfl
    ·rw [a2e c1]at ha ⊢;by_cases c2:c=2
     ·rw [a2f c2]at ha ⊢;rw [a2e (by omega),a2f (by omega),a2f (by omega),bsm,bsm];rfl
     ·rw [a2e c2]at ha ⊢;rw [a2e (by omega),a2f (by omega),a2f (by omega),bsm,bsm];rfl
theorem aHs {s:VS} (hs:WS p s) {n z:Int} (h:¬ (0<=n/\n<(p.AD.length:Int)/\idx s.AT n=some false)):∃ L,eV (m+1) ⟨p,s.sz,ob s.AT,ob s.AX,false⟩ n z=some L/\ROut p none L:=by
 have hl1:(ob s.AT).length=p.AD.length:=by rw [jG,hs.AT]
 have hl2:(ob s.AX).length=p.AE.length:=by rw [jG,hs.AX]
 refine⟨⟨p,s.sz,ob s.AT,ob s.AX,true⟩,?_,jJ hl1 hl2⟩
 rw [eV]
 dsimp only
 by_cases h0:n<0
 ·rw [a2f h0]
 ·rw [a2e h0];by_cases h1:(p.AD.length:Int)<=n
  ·rw [a2f h1]
  ·rw [a2e h1];obtain⟨b,hb⟩:=fT (xs:=s.AT) (show 0<=n by omega) (by rw [hs.AT];omega)
   cases b with
   | false=>exact absurd ⟨by omega,by omega,hb⟩ h
   | true=>rw [aDy hb,bsm,a2f rfl,a2f (by omega)]
end
theorem rvis {p:AI} (hp:SmP p) (hall:∀ d∈p.AE,okD d=true) (f:Nat):∀ g,3000003+2*f<=g->RVis p f (eV g):=by
 induction f with
 | zero=>
  intro g hg;obtain⟨g,rfl⟩:∃ k,g=k+1:=⟨g - 1,by omega⟩
  refine⟨fun s n z hs hu h0 h1=>?_⟩
  have h:¬ (0<=n/\n<(p.AD.length:Int)/\idx s.AT n=some false):=fun q=>by have:=aG8 q.2.2;omega
  rw [aAZ h];exact aHs hs h
 | succ f ih=>
  intro g hg;obtain⟨g,rfl⟩:∃ k,g=k+1:=⟨g - 1,by omega⟩
  refine⟨fun s n z hs hu h0 h1=>?_⟩
  by_cases h:0<=n/\n<(p.AD.length:Int)/\idx s.AT n=some false
  ·exact rnode_go hp hall (m:=g) (by omega) (ih g (by omega)) (ih (g - 1) (by omega)) hs hu ⟨h0,by omega⟩ h
  ·rw [aAZ h];exact aHs hs h
open Go.SX Go.SW Go.Dt
abbrev F:Nat:=1000000000
theorem aGu:∀ x y:List UInt8,Op.bytesLess x y=(!(Op.bytesLess y x || decide (y=x)))
 | [],[]=>rfl
 | [],b :: y=>by simp [Op.bytesLess]
 | a :: x,[]=>by simp [Op.bytesLess]
 | a :: x,b :: y=>by
  have ih:=aGu x y;simp only [Op.bytesLess,ih];by_cases h1:a<b
  ·have h2:¬ b<a:=fun h=>by have:=UInt8.lt_trans h1 h;exact absurd this (by simp)
   have h3:b≠a:=fun h=>by subst h;exact absurd h1 (by simp)
   simp [h1,h2,h3]
  ·by_cases h2:b<a
   ·have h3:a≠b:=fun h=>by subst h;exact absurd h2 (by simp)
    simp [h1,h2,h3]
   ·have h3:a=b:=by
     have a1:=UInt8.not_lt.1 h1;have a2:=UInt8.not_lt.1 h2
     exact UInt8.le_antisymm a2 a1
    subst h3;simp
theorem slt_sle (a b:ByteArray):slt a b=!sle b a:=by
 have he:decide (b=a)=decide (b.toList=a.toList):=by
  rw [decide_eq_decide];exact⟨fun h=>by rw [h],fun h=>(by have:=(aBq (i:=b) (j:=a));rw [beq_iff_eq.2 h]at this;exact of_decide_eq_true this.symm)⟩
 unfold sle slt
 rw [he];exact aGu _ _
theorem aFK (s:ByteArray):∀ (k:Nat) (i:Int),qV s k i=iL s k i
 | 0,_=>rfl
 | k+1,i=>by
  rw [qV,iL];simp only [aFK s k]
theorem aGh {s:ByteArray} (hs:s.size<=2000000):∀ (k i:Nat),s.size<k+i->i<=s.size->iL s k (i:Int)=some (.inr false)\/iL s k (i:Int)=some (.inl ())
 | 0,i,h,h2=>by omega
 | k+1,i,h,h2=>by
  rw [iL];by_cases hi:i<s.size
  ·have hx:sidx s (i:Int)=some ((s[i]'hi).toNat:Int):=by
    unfold sidx;rw [a2f (by omega)];simp [hi]
   rw [a2f (by omega),hx,bsm];by_cases c1:((s[i]'hi).toNat:Int)<97
   ·rw [a2f c1];exact .inl rfl
   ·rw [a2e c1,bsm];by_cases c2:122<((s[i]'hi).toNat:Int)
    ·rw [a2f c2];exact .inl rfl
    ·rw [a2e c2,aQ (by omega),bsm];exact aGh hs k (i+1) (by omega) (by omega)
  ·rw [a2e (by omega)];exact .inr rfl
theorem aFH {s:ByteArray} (hs:s.size<=2000000):∀ (k k' i:Nat),s.size<k+i->s.size<k'+i->i<=s.size->iL s k (i:Int)=iL s k' (i:Int)
 | 0,_,i,h,_,h2=>by omega
 | _,0,i,_,h,h2=>by omega
 | k+1,k'+1,i,h,h',h2=>by
  rw [iL,iL];by_cases hi:i<s.size
  ·have e:=aFH hs k k' (i+1) (by omega) (by omega) (by omega)
   have e2:((i+1:Nat):Int)=(i:Int)+1:=by omega
   rw [e2]at e;simp only [aQ (i:=(i:Int)+1) (by omega),bsm,e]
  ·rw [a2e (by omega),a2e (by omega)]
open Classical in
theorem has_loop {a:ByteArray} (AC:List ByteArray):∀ (AB:List ByteArray) (k:Nat),AC.length<k->AB.length+AC.length<=3000000->pV (AB++AC) a k AB.length=some (if a∈AC then .inr true else .inl ()):=by
 induction AC with
 | nil=>
  intro AB k hk _;obtain _ | k:=k
  ·omega
  rw [pV,a2e (by simp),a2e (by simp)]
 | cons e AC ih=>
  intro AB k hk hB;obtain _ | k:=k
  ·omega
  simp only [a0U]at hk hB;rw [pV,a2f (bA _ _ _),bC,bsm];by_cases he:e=a
  ·rw [a2f he,a2f (by simp [he])];rfl
  ·have hm:(a∈e :: AC) ↔ a∈AC:=by simp [Ne.symm he]
   rw [a2e he,aQ (by omega),bsm,bJ AB AC e,aV AB e,ih (AB++[e]) k (by omega) (by simp;omega)];by_cases hs:a∈AC
   ·rw [a2f hs,a2f (hm.2 hs)]
   ·rw [a2e hs,a2e (fun q=>hs (hm.1 q))]
open Classical in
theorem rD {f:Nat} {l:List ByteArray} {a:ByteArray} (hf:3900000<=f) (h:l.length<=3000000):yV f l a=some (decide (a∈l)):=by
 have:=has_loop (a:=a) l [] f (by omega) (by simp;omega)
 simp only [a1p,a0Y,a0q]at this
 rw [yV,this,bsm]
 by_cases hs:a∈l
 ·rw [a2f hs];simp [hs]
 ·rw [a2e hs];simp [hs]
theorem upd_get {g:aL ByteArray Bool} {k s:ByteArray}:(aL.upd g k true).get s=if s=k then some true else g.get s:=rfl
theorem aEW {f:Nat} (hf:3900000<=f) {s:ByteArray} (hs:s.size<=2000000):∃ b,sW F s=some b/\uJ f s=some b:=by
 have hl:=aGh hs F 0 (by show s.size<1000000000+0;omega) (by omega)
 have hle:=aFH hs f F 0 (by omega) (by show s.size<1000000000+0;omega) (by omega)
 simp only [a0q]at hl hle
 rw [sW,uJ,aFK,hle]
 by_cases c1:(s.size:Int)<1
 ·rw [a2f c1];refine⟨false,?_,rfl⟩;rcases hl with h | h <;> rw [h,bsm]
  dsimp only
  rw [a2e (by omega)];rfl
 ·rw [a2e c1];by_cases c2:8<(s.size:Int)
  ·rw [a2f c2];refine⟨false,?_,rfl⟩;rcases hl with h | h <;> rw [h,bsm]
   dsimp only
   rw [a2f (by omega),a2e (by omega)];rfl
  ·rw [a2e c2];rcases hl with h | h
   ·rw [h];exact⟨false,rfl,rfl⟩
   ·rw [h,bsm,bsm];dsimp only
    rw [a2f (by omega),a2f (by omega),rD hf (by simp),bsm];refine⟨_,?_,rfl⟩;rw [aBe,bsm,bsm];congr 2
    simp only [upd_get,aL.none,a1i,List.not_mem_nil,or_false]
    repeat' split
    all_goals simp_all
def nm (s:ByteArray):Bool:=(sW F s).getD false
theorem nm_p {s:ByteArray} (hs:s.size<=2000000):sW F s=some (nm s):=by
 obtain⟨b,h,_⟩:=aEW (f:=F) (by decide) hs;unfold nm;rw [h];rfl
theorem nm_r {f:Nat} {s:ByteArray} (hs:s.size<=2000000) (hf:3900000<=f:=by decide):uJ f s=some (nm s):=by
 obtain⟨b,h,h2⟩:=aEW hf hs;unfold nm;rw [h,h2];rfl
def okF:Option ByteArray->List ByteArray->Bool
 | _,[]=>true
 | q,s :: l=>nm s && (match q with | none=>true | some q=>slt q s) && okF (some s) l
theorem aGs {α:Type} {AB AC:List α} {y:α} (h:0<AB.length):∃ q,AB.getLast? =some q/\idx (AB++y :: AC) ((AB.length:Int) - 1)=some q:=by
 have hne:AB≠[]:=fun e=>by rw [e]at h;simp at h
 have hd:=List.dropLast_concat_getLast hne
 generalize AB.dropLast=d,AB.getLast hne=q at hd
 subst hd
 refine⟨q,by simp,?_⟩
 rw [show(((d++[q]).length:Int) - 1)=(d.length:Int)from by simp]
 exact jU (by simp)
theorem fl1 {nodes:List AW} {Aa:List AO} {mn:Int} (AC:List ByteArray):∀ (AB:List ByteArray) (k:Nat),AC.length<k->AB.length+AC.length<=3000000->(∀ x∈AC,x.size<=2000000) ->
 mM F ⟨AB++AC,nodes,Aa,mn⟩ k AB.length=some (if okF AB.getLast? AC=true then .inl () else .inr (.inr flaw)):=by
 induction AC with
 | nil=>
  intro AB k hk _ _;obtain _ | k:=k
  ·omega
  rw [mM,a2e (by simp),a2f (by rfl)]
 | cons e AC ih=>
  intro AB k hk hB hx;obtain _ | k:=k
  ·omega
  simp only [a0U]at hk hB;have hgl:(AB++[e]).getLast? =some e:=by simp
  rw [mM,a2f (bA _ _ _)];dsimp only
  rw [bC,bsm,nm_p (hx e (.head _)),bsm];have hst:okF AB.getLast? (e :: AC)=(nm e && (match AB.getLast? with | none=>true | some q=>slt q e) && okF (some e) AC):=by
   cases AB.getLast? <;> rfl
  cases hn:nm e with
  | false=>rw [hst,hn,Bool.false_and,Bool.false_and];rfl
  | true=>
   rw [a2a];rw [hn,a0p]at hst;have hnext:=ih (AB++[e]) k (by omega) (by simp;omega) (fun x h=>hx x (.tail _ h))
   rw [hgl]at hnext;by_cases h0:(AB.length:Int)=0
   ·have:AB=[]:=a0z (by omega)
    subst this;have hst:okF ([]:List ByteArray).getLast? (e :: AC)=okF (some e) AC:=by rw [hst];rfl
    rw [a2f h0,eR,bsm,hst];dsimp only
    rw [bsm];dsimp only
    rw [aQ (by simp),bsm,bJ [] AC e,aV [] e,hnext]
   ·obtain⟨q,h1,h2⟩:=aGs (AB:=AB) (AC:=AC) (y:=e) (by omega)
    have hst:okF AB.getLast? (e :: AC)=(slt q e && okF (some e) AC):=by rw [hst,h1]
    rw [a2e h0,aQ (by omega),bsm,h2,bsm,hst];cases hl:slt q e with
    | false=>rfl
    | true=>
     rw [eR,bsm,a0p];dsimp only
     rw [bsm];dsimp only
     rw [aQ (by omega),bsm,bJ AB AC e,aV AB e,hnext]
theorem fr_bad {f:Nat} {p:AI} (AC:List ByteArray):∀ (AB:List ByteArray) (k:Nat),p.AF=AB++AC->AC.length<k->AB.length+AC.length<=3000000->jE f p k AB.length true=some true:=by
 induction AC with
 | nil=>
  intro AB k he hk _;obtain _ | k:=k
  ·omega
  rw [jE,he,a2e (by simp)]
 | cons e AC ih=>
  intro AB k he hk hB;obtain _ | k:=k
  ·omega
  simp only [a0U]at hk hB;rw [jE,he,a2f (bA _ _ _),a2a,bsm,aQ (by omega),bsm,aV AB e];exact ih (AB++[e]) k (by rw [he];simp) (by omega) (by simp;omega)
theorem fr1 {f:Nat} (hf:3900000<=f) {p:AI} (AC:List ByteArray):∀ (AB:List ByteArray) (k:Nat),p.AF=AB++AC->AC.length<k->AB.length+AC.length<=3000000->(∀ x∈AC,x.size<=2000000) ->
 jE f p k AB.length false=some (!okF AB.getLast? AC):=by
 induction AC with
 | nil=>
  intro AB k he hk _ _;obtain _ | k:=k
  ·omega
  rw [jE,he,a2e (by simp)];rfl
 | cons e AC ih=>
  intro AB k he hk hB hx;obtain _ | k:=k
  ·omega
  simp only [a0U]at hk hB;have hgl:(AB++[e]).getLast? =some e:=by simp
  have hst:okF AB.getLast? (e :: AC)=(nm e && (match AB.getLast? with | none=>true | some q=>slt q e) && okF (some e) AC):=by
   cases AB.getLast? <;> rfl
  have hnext:=ih (AB++[e]) k (by rw [he];simp) (by omega) (by simp;omega) (fun x h=>hx x (.tail _ h))
  have hbadn:=fr_bad (f:=f) (p:=p) AC (AB++[e]) k (by rw [he];simp) (by omega) (by simp;omega)
  rw [hgl]at hnext;rw [jE,he,a2f (bA _ _ _),a1Z,bC,bsm,nm_r (hx e (.head _)) hf,bsm,hst];cases hn:nm e with
  | false=>
   rw [a0n,a2a,bsm,aQ (by omega),bsm,aV AB e,hbadn];rfl
  | true=>
   rw [a0o,a1Z,a0p];by_cases h0:0<(AB.length:Int)
   ·obtain⟨q,h1,h2⟩:=aGs (AB:=AB) (AC:=AC) (y:=e) (by omega)
    have hst2:(match AB.getLast? with | none=>true | some q=>slt q e)=!sle e q:=by rw [h1];exact slt_sle q e
    rw [hst2,a2f h0,bsm,aQ (by omega),bsm,h2,bsm,bsm,aQ (by omega),bsm,aV AB e];cases hl:sle e q with
    | true=>rw [hbadn];rfl
    | false=>rw [hnext];rfl
   ·have:AB=[]:=a0z (by omega)
    subst this;rw [a2e h0,bsm,aQ (by simp),bsm,aV [] e,hnext];simp
open Go.SX Go.SW Go.Dt
def start (p:AI):VS:=⟨List.replicate p.AD.length 0,List.replicate p.AD.length false,List.replicate p.AE.length false⟩
open Classical in
noncomputable def dZ (p:AI):Option VS:=
 if p.AF.length<=12/\p.AD.length<=60/\p.AE.length<=12/\okF none p.AF=true then
  (vis p p.AD.length (start p) p.AG p.AF.length).bind fun s=>if s.AT.all id=true/\s.AX.all id=true then some s else none
 else none
theorem vP {p:AI}:WS p (start p):=⟨by simp [start],by simp [start],by simp [start]⟩
theorem vL {p:AI}:unm (start p)=p.AD.length:=by simp [unm,start,List.countP_replicate]
def GD (p:AI) (s:VS):Prop:=∀ i:Nat,s.AX[i]? =some true->∃ d,p.AE[i]? =some d/\okD d=true
theorem xV {p:AI} {g:VS->Int->Int->Option VS} (h:∀ s n z s',g s n z=some s'->GD p s->GD p s'):∀ (l:List (Int × Int)) (s s':VS),cO g s l=some s'->GD p s->GD p s'
 | [],s,s',e,h0=>by cases e;exact h0
 | x :: l,s,s',e,h0=>by
  obtain⟨s1,e1,e2⟩:=bind_some e;exact xV h l s1 s' e2 (h _ _ _ _ e1 h0)
theorem vis_gd {p:AI} (f:Nat):∀ (s:VS) (n z:Int) (s':VS),vis p f s n z=some s'->GD p s->GD p s':=by
 induction f with
 | zero=>intro s n z s' h;simp [vis]at h
 | succ f ih=>
  intro s n z s' h h0;simp only [vis]at h;split at h
  ·obtain⟨x,_,h⟩:=bind_some h;split at h
   ·split at h
    ·obtain⟨d,hd,h⟩:=bind_some h;split at h
     ·rename_i hok;obtain⟨s1,e1,h⟩:=bind_some h;obtain⟨s2,e2,e3⟩:=bind_some h;refine xV ih _ _ _ e3 (xV ih _ _ _ e2 (xV ih _ _ _ e1 ?_));intro i hi;by_cases hn:x.N.toNat=i
      ·obtain⟨j,hj,hj2,_⟩:=mO hd;rw [<- hn,hj];simp only [a0r];exact⟨d,hj2,hok⟩
      ·simp only [a0O hn]at hi;exact h0 i hi
     ·cases h
    ·exact xV ih _ _ _ h h0
   ·cases h
  ·cases h
theorem aCq {p:AI} {s:VS} (h:dZ p=some s):∀ d∈p.AE,okD d=true:=by
 unfold dZ at h
 split at h
 ·obtain⟨s1,h1,h2⟩:=bind_some h;split at h2
  ·rename_i hc;cases h2;have hg:=vis_gd _ _ _ _ _ h1 (fun i hi=>by simp [start,a0M]at hi)
   have hw:=((lA p p.AD.length).out _ _ _ _ vP (by rw [vL];exact a1I _) h1).1
   intro d hd;obtain⟨i,hi⟩:=a1j.1 hd;have hlt:=(a0K.1 hi).1;have hlt2:i<s.AX.length:=by rw [hw.AX];exact hlt
   have ht:s.AX[i]=true:=a0t.1 hc.2 _ (a0S hlt2);obtain⟨d',h3,h4⟩:=hg i (by rw [a0I hlt2,ht])
   rw [hi]at h3;cases h3;exact h4
  ·cases h2
 ·cases h
theorem aJF (AC:List Bool):∀ (AB:List Bool) (k:Nat),AC.length<k->AB.length+AC.length<=3000000->∃ r,pP (AB++AC) false k AB.length=some r/\((AC.all id=false/\∃ i:Int,r= .inr i/\0<=i)\/(AC.all id=true/\r= .inl ())):=by
 induction AC with
 | nil=>
  intro AB k hk _;obtain _ | k:=k
  ·omega
  exact⟨_,by rw [pP,a2e (by simp)], .inr ⟨rfl,rfl⟩⟩
 | cons e AC ih=>
  intro AB k hk hB;obtain _ | k:=k
  ·omega
  simp only [a0U]at hk hB;rw [pP,a2f (bA _ _ _),bC,bsm];cases e with
  | false=>exact⟨_,rfl, .inl ⟨rfl,_,rfl,by omega⟩⟩
  | true=>
   rw [show(false==true)=false from rfl,a1Z,aQ (by omega),bsm,bJ AB AC true,aV AB true];obtain⟨r,h1,h2⟩:=ih (AB++[true]) k (by omega) (by simp;omega)
   exact⟨r,h1,by simpa using h2⟩
theorem aEM {l:List Bool} (h:l.length<=3000000):vX F l false=some (!l.all id):=by
 obtain⟨r,h1,h2⟩:=aJF l [] F (by show l.length<1000000000;omega) (by simp;omega)
 simp only [a1p,a0Y,a0q]at h1
 rw [vX,aBX,h1]
 rcases h2 with⟨h2,i,rfl,h3⟩ | ⟨h2,rfl⟩
 ·rw [h2];simp [h3]
 ·rw [h2];rfl
theorem aB3 {p:AI} (hp:SmP p):tT F p=some (jL p (dZ p)):=by
 obtain⟨fr,nodes,Aa,mn⟩:=p
 have hf:=hp.free;have hn:=hp.nodes;have hd:=hp.Aa
 dsimp only at hf hn hd
 rw [tT]
 dsimp only
 unfold dZ
 dsimp only
 by_cases l1:fr.length<=12
 ·rw [a2f (by omega)];by_cases l2:nodes.length<=60
  ·rw [a2f (by omega)];by_cases l3:Aa.length<=12
   ·rw [a2c (by omega),eR,bsm,bsm];dsimp only
    have e1:mM F ⟨fr,nodes,Aa,mn⟩ F 0=some (if okF none fr=true then .inl () else .inr (.inr flaw)):=fl1 (nodes:=nodes) (Aa:=Aa) (mn:=mn) fr [] F (by show fr.length<1000000000;omega) (by simp;omega) hp.names
    rw [e1,bsm];by_cases hok:okF none fr=true
    ·rw [a2f hok,a2f ⟨l1,l2,l3,hok⟩];dsimp only
     have hmk:∀ {α:Type} (a:α) (k:Nat),k<=60->mk a (k:Int)=some (List.replicate k a):=fun a k hk=>by unfold mk;rw [a2f (by omega)];simp
     rw [hmk 0 _ l2,bsm,hmk false _ l2,bsm,hmk false _ (by omega),bsm];have hv:=pvis hp (b:=1000000000 - nodes.length - 1) (by omega) nodes.length
     rw [show 1000000000 - nodes.length - 1+nodes.length+1=F from by show _=1000000000;omega]at hv
     have hrun:=hv.run (start ⟨fr,nodes,Aa,mn⟩) mn fr.length vP (by rw [vL];exact a1I _) (by omega) (by omega)
     rw [show(⟨⟨fr,nodes,Aa,mn⟩,List.replicate nodes.length 0,List.replicate nodes.length false,List.replicate Aa.length false⟩:Ad)=⟨⟨fr,nodes,Aa,mn⟩,(start ⟨fr,nodes,Aa,mn⟩).sz,(start ⟨fr,nodes,Aa,mn⟩).AT,(start ⟨fr,nodes,Aa,mn⟩).AX⟩from rfl,hrun,bsm];cases hc:vis ⟨fr,nodes,Aa,mn⟩ nodes.length (start ⟨fr,nodes,Aa,mn⟩) mn fr.length with
     | none=>rfl
     | some s=>
      obtain⟨w,_⟩:=(lA _ _).out _ _ _ _ vP (by rw [vL];exact a1I _) hc
      have wm:s.AT.length=nodes.length:=w.AT;have wd:s.AX.length=Aa.length:=w.AX;simp only [jL];rw [bsm,aEM (by omega),bsm];cases hm:s.AT.all id with
      | false=>rw [a2e (fun q=>by cases q.1)];rfl
      | true=>
       rw [a0o,a0n,a2a,aEM (by omega),bsm];cases hm2:s.AX.all id with
       | false=>rw [a2e (fun q=>by cases q.2)];rfl
       | true=>rw [a2f ⟨rfl,rfl⟩];rfl
    ·rw [a2e hok,a2e (fun q=>hok q.2.2.2)];rfl
   ·rw [a2b (by omega),cV,a2e (fun q=>l3 q.2.2.1)];rfl
  ·rw [a2e (by omega),cV,a2e (fun q=>l2 q.2.1)];rfl
 ·rw [a2e (by omega),cV,a2e (fun q=>l1 q.1)];rfl
theorem check_eq {p:AI} (hp:SmP p):vA F p=some (if (dZ p).isSome=true then 0 else 2):=by
 rw [vA,aBQ,show(⟨p.AF,p.AD,p.AE,p.AG⟩:AI)=p from rfl,aB3 hp,bsm]
 cases dZ p with
 | none=>rfl
 | some s=>rfl
theorem aHS {f:Nat} {p:AI} (AC:List AO):∀ (AB:List AO) (k:Nat),p.AE=AB++AC->AC.length<k->AB.length+AC.length<=3000000->kL f p k AB.length true=some true:=by
 induction AC with
 | nil=>
  intro AB k he hk _;obtain _ | k:=k
  ·omega
  rw [kL,he,a2e (by simp)]
 | cons e AC ih=>
  intro AB k he hk hB;obtain _ | k:=k
  ·omega
  simp only [a0U]at hk hB;rw [kL,he,a2f (bA _ _ _),a2a,bsm,aQ (by omega),bsm,aV AB e];exact ih (AB++[e]) k (by rw [he];simp) (by omega) (by simp;omega)
theorem al2 {f:Nat} (hf:3900000<=f) {p:AI} (hp:SmP p) (AC:List AO):∀ (AB:List AO) (k:Nat),p.AE=AB++AC->AC.length<k->AB.length+AC.length<=3000000->kL f p k AB.length false=some (!AC.all okD):=by
 induction AC with
 | nil=>
  intro AB k he hk _;obtain _ | k:=k
  ·omega
  rw [kL,he,a2e (by simp)];rfl
 | cons e AC ih=>
  intro AB k he hk hB;obtain _ | k:=k
  ·omega
  simp only [a0U]at hk hB;have hmem:e∈p.AE:=by rw [he];simp
  rw [kL,he,a2f (bA _ _ _),a1Z,bC,bsm,rdef_eq (by omega) (hp.AX e hmem),bsm,bsm,aQ (by omega),bsm,aV AB e];cases h:okD e with
  | false=>rw [a0n,aHS AC (AB++[e]) k (by rw [he];simp) (by omega) (by simp;omega),show(e :: AC).all okD=(okD e && AC.all okD)from rfl,h];rfl
  | true=>rw [a0o,ih (AB++[e]) k (by rw [he];simp) (by omega) (by simp;omega),show(e :: AC).all okD=(okD e && AC.all okD)from rfl,h,a0p]
theorem aER {L:Ah} (AC:List Int):∀ (AB:List Int) (k:Nat),L.Al=AB++AC->AC.length<k->AB.length+AC.length<=3000000->kD L k AB.length true=some true:=by
 induction AC with
 | nil=>
  intro AB k he hk _;obtain _ | k:=k
  ·omega
  rw [kD,he,a2e (by simp)]
 | cons e AC ih=>
  intro AB k he hk hB;obtain _ | k:=k
  ·omega
  simp only [a0U]at hk hB;rw [kD,he,a2f (bA _ _ _),a2a,bsm,aQ (by omega),bsm,aV AB e];exact ih (AB++[e]) k (by rw [he];simp) (by omega) (by simp;omega)
theorem aDU {L:Ah} (AC:List Int):∀ (AB:List Int) (k:Nat),L.Ak=AB++AC->AC.length<k->AB.length+AC.length<=3000000->kH L k AB.length true=some true:=by
 induction AC with
 | nil=>
  intro AB k he hk _;obtain _ | k:=k
  ·omega
  rw [kH,he,a2e (by simp)]
 | cons e AC ih=>
  intro AB k he hk hB;obtain _ | k:=k
  ·omega
  simp only [a0U]at hk hB;rw [kH,he,a2f (bA _ _ _),a2a,bsm,aQ (by omega),bsm,aV AB e];exact ih (AB++[e]) k (by rw [he];simp) (by omega) (by simp;omega)
theorem al3 {L:Ah} (AC:List Bool):∀ (AB:List Int) (k:Nat),L.Al=AB++ob AC->AC.length<k->AB.length+AC.length<=3000000->kD L k AB.length false=some (!AC.all id):=by
 induction AC with
 | nil=>
  intro AB k he hk _;obtain _ | k:=k
  ·omega
  rw [kD,he,a2e (by simp [ob])];rfl
 | cons e AC ih=>
  intro AB k he hk hB;obtain _ | k:=k
  ·omega
  simp only [a0U]at hk hB;have hob:ob (e :: AC)=(if e=true then 1 else 0) :: ob AC:=rfl
  rw [hob]at he;have he2:=he;rw [bJ]at he2;rw [kD,he,a2f (bA _ _ _),a1Z,bC,bsm,bsm,aQ (by omega),bsm,aV AB (if e=true then 1 else 0)];cases e with
  | false=>
   rw [a2e a0m]at he2 ⊢;rw [a2c (by omega),aER (ob AC) (AB++[0]) k he2 (by rw [jG];omega) (by rw [jG];simp;omega)];rfl
  | true=>
   rw [a2f rfl]at he2 ⊢;rw [a2b (by omega),ih (AB++[1]) k he2 (by omega) (by simp;omega)];simp
theorem al4 {L:Ah} (AC:List Bool):∀ (AB:List Int) (k:Nat),L.Ak=AB++ob AC->AC.length<k->AB.length+AC.length<=3000000->kH L k AB.length false=some (!AC.all id):=by
 induction AC with
 | nil=>
  intro AB k he hk _;obtain _ | k:=k
  ·omega
  rw [kH,he,a2e (by simp [ob])];rfl
 | cons e AC ih=>
  intro AB k he hk hB;obtain _ | k:=k
  ·omega
  simp only [a0U]at hk hB;have hob:ob (e :: AC)=(if e=true then 1 else 0) :: ob AC:=rfl
  rw [hob]at he;have he2:=he;rw [bJ]at he2;rw [kH,he,a2f (bA _ _ _),a1Z,bC,bsm,bsm,aQ (by omega),bsm,aV AB (if e=true then 1 else 0)];cases e with
  | false=>
   rw [a2e a0m]at he2 ⊢;rw [a2c (by omega),aDU (ob AC) (AB++[0]) k he2 (by rw [jG];omega) (by rw [jG];simp;omega)];rfl
  | true=>
   rw [a2f rfl]at he2 ⊢;rw [a2b (by omega),ih (AB++[1]) k he2 (by omega) (by simp;omega)];simp
def AOut (p:AI) (o:Option VS) (L:Ah):Prop:=match o with
 | some s=>L=⟨p,s.sz,ob s.AT,ob s.AX,false⟩
 | none=>L.bad=true
theorem iY {f:Nat} {p:AI} (hp:SmP p) (hfu:3900000<=f:=by decide):∃ L,vC f p=some L/\AOut p (dZ p) L:=by
 have hdefs:dZ p≠none->∀ d∈p.AE,okD d=true:=fun h=>by
  cases hc:dZ p with
  | none=>exact absurd hc h
  | some s=>exact aCq hc
 obtain⟨fr,nodes,Aa,mn⟩:=p
 have hf:=hp.free;have hn:=hp.nodes;have hd:=hp.Aa
 dsimp only at hf hn hd
 rw [vC]
 dsimp only
 have hno:∀ (q:¬ (fr.length<=12/\nodes.length<=60/\Aa.length<=12/\okF none fr=true)),dZ ⟨fr,nodes,Aa,mn⟩=none:=fun q=>by unfold dZ;rw [a2e q]
 by_cases l1:12<fr.length
 ·rw [a2f (by omega),hno (fun q=>by omega)];exact⟨_,rfl,rfl⟩
 ·rw [a2e (by omega)];by_cases l2:60<nodes.length
  ·rw [a2f (by omega),hno (fun q=>by omega)];exact⟨_,rfl,rfl⟩
  ·rw [a2e (by omega)];by_cases l3:12<Aa.length
   ·rw [a2f (by omega),hno (fun q=>by omega)];exact⟨_,rfl,rfl⟩
   ·rw [a2e (by omega)];have e1:jE f ⟨fr,nodes,Aa,mn⟩ f 0 false=some (!okF none fr):=fr1 hfu (p:=⟨fr,nodes,Aa,mn⟩) fr [] f rfl (by omega) (by simp;omega) hp.names
    have hmk:∀ (k:Nat),k<=60->mk (0:Int) (k:Int)=some (List.replicate k 0):=fun k hk=>by unfold mk;rw [a2f (by omega)];simp
    rw [e1,bsm];cases hok:okF none fr with
    | false=>
     have e2:=aHS (f:=f) (p:=⟨fr,nodes,Aa,mn⟩) Aa [] f rfl (by omega) (by simp;omega)
     simp only [a0Y,a0q]at e2;rw [a0n,e2,bsm,hmk _ (by omega),bsm,bsm,hmk _ (by omega),bsm,a2a,hno (fun q=>by rw [hok]at q;cases q.2.2.2)]
     exact⟨_,rfl,rfl⟩
    | true=>
     have e2:=al2 hfu hp (p:=⟨fr,nodes,Aa,mn⟩) Aa [] f rfl (by omega) (by simp;omega)
     simp only [a0Y,a0q]at e2;rw [a0o,e2,bsm,hmk _ (by omega),bsm,bsm,hmk _ (by omega),bsm];cases had:Aa.all okD with
     | false=>
      have:dZ ⟨fr,nodes,Aa,mn⟩=none:=by
       cases hc:dZ ⟨fr,nodes,Aa,mn⟩with
       | none=>rfl
       | some s=>
        have:=a0t.2 (hdefs (by rw [hc];simp))
        dsimp only at this
        rw [had]at this;cases this
      rw [this,a0n,a2a];exact⟨_,rfl,rfl⟩
     | true=>
      rw [a0o,a1Z];have hv:=rvis hp (a0t.1 had) nodes.length f (by omega)
      obtain⟨L,h1,h2⟩:=hv.run (start ⟨fr,nodes,Aa,mn⟩) mn fr.length vP (by rw [vL];exact a1I _) (by omega) (by omega)
      have hst:(⟨⟨fr,nodes,Aa,mn⟩,List.replicate nodes.length 0,List.replicate nodes.length 0,List.replicate Aa.length 0,false⟩:Ah)=⟨⟨fr,nodes,Aa,mn⟩,(start ⟨fr,nodes,Aa,mn⟩).sz,ob (start ⟨fr,nodes,Aa,mn⟩).AT,ob (start ⟨fr,nodes,Aa,mn⟩).AX,false⟩:=by
       simp [start,ob_rep]
      rw [hst,h1,bsm];have hcv:dZ ⟨fr,nodes,Aa,mn⟩=(vis ⟨fr,nodes,Aa,mn⟩ nodes.length (start ⟨fr,nodes,Aa,mn⟩) mn fr.length).bind fun s=>if s.AT.all id=true/\s.AX.all id=true then some s else none:=by
       unfold dZ;rw [a2f ⟨by show fr.length<=12;omega,by show nodes.length<=60;omega,by show Aa.length<=12;omega,hok⟩]
      rw [hcv];cases hc:vis ⟨fr,nodes,Aa,mn⟩ nodes.length (start ⟨fr,nodes,Aa,mn⟩) mn fr.length with
      | none=>
       rw [hc]at h2;obtain⟨g1,g2,g3⟩:=h2;dsimp only at g2 g3
       have e3:=aER (L:=L) L.Al [] f rfl (by rw [g2];omega) (by simp;omega)
       have e4:=aDU (L:=L) L.Ak [] f rfl (by rw [g3];omega) (by simp;omega)
       simp only [a0Y,a0q]at e3 e4;rw [g1,e3,bsm,e4,bsm];exact⟨_,rfl,rfl⟩
      | some s=>
       rw [hc]at h2;have h2:L=_:=h2;subst h2;obtain⟨w,_⟩:=(lA _ _).out _ _ _ _ vP (by rw [vL];exact a1I _) hc
       have wm:s.AT.length=nodes.length:=w.AT;have wd:s.AX.length=Aa.length:=w.AX;have e3:=al3 (L:=⟨⟨fr,nodes,Aa,mn⟩,s.sz,ob s.AT,ob s.AX,false⟩) s.AT [] f rfl (by omega) (by simp;omega)
       simp only [a0Y,a0q]at e3;dsimp only
       rw [e3,bsm,bsm];cases hm:s.AT.all id with
       | false=>
        have e4:=aDU (L:=⟨⟨fr,nodes,Aa,mn⟩,s.sz,ob s.AT,ob s.AX,false⟩) (ob s.AX) [] f rfl (by rw [jG];omega) (by rw [jG];simp;omega)
        simp only [a0Y,a0q]at e4;rw [a0n,e4,bsm,a2e (fun q=>by cases q.1)]
        exact⟨_,rfl,rfl⟩
       | true=>
        have e4:=al4 (L:=⟨⟨fr,nodes,Aa,mn⟩,s.sz,ob s.AT,ob s.AX,false⟩) s.AX [] f rfl (by omega) (by simp;omega)
        simp only [a0Y,a0q]at e4;rw [a0o,e4,bsm];cases hm2:s.AX.all id with
        | false=>rw [a2e (fun q=>by cases q.2)];exact⟨_,rfl,rfl⟩
        | true=>rw [a2f ⟨rfl,rfl⟩];exact⟨_,rfl,rfl⟩
theorem aFn {p:AI} (hp:SmP p):zR F p=some (if (dZ p).isSome=true then 0 else 2):=by
 obtain⟨L,h1,h2⟩:=iY (f:=F) hp
 rw [zR,show(⟨p.AF,p.AD,p.AE,p.AG⟩:AI)=p from rfl,h1,bsm]
 cases hc:dZ p with
 | none=>rw [hc]at h2;have h2:L.bad=true:=h2;rw [h2];rfl
 | some s=>rw [hc]at h2;have h2:L=_:=h2;subst h2;rfl
theorem aFk {f:Nat} {p:AI} (hp:SmP p) {s:VS} (h:dZ p=some s) (hf:3900000<=f:=by decide):aBj f p=some s.sz:=by
 obtain⟨L,h1,h2⟩:=iY hp hf
 rw [h]at h2
 have h2:L=_:=h2
 subst h2
 rw [aBj,show(⟨p.AF,p.AD,p.AE,p.AG⟩:AI)=p from rfl,h1,bsm]
open Go.SX Go.SW Go.Dt
def dN (b:Int):Option Int->List Int->Bool
 | _,[]=>true
 | p,n :: l=>(decide (0<=n/\n<b) && (match p with | none=>true | some q=>decide (q<n))) && dN b (some n) l
def pick (l a:List Int):List Int:=a.map fun i=>(idx l i).getD 0
def upto (n:Int) (k:Nat):List Int:=(List.range k).map fun (i:Nat)=>n+(i:Int)
mutual
def opE (l:List Int):AS->Option AS
 | ⟨op,n,ks⟩=>(if op=2 then idx l n else some n).bind fun m=>(opL l ks).bind fun ks'=>some ⟨op,m,ks'⟩
def opL (l:List Int):List AS->Option (List AS)
 | []=>some []
 | k :: ks=>(opE l k).bind fun k'=>(opL l ks).bind fun ks'=>some (k' :: ks')
end
def eU (op:Int):Bool:=decide (op=4\/op=6\/op=7\/op=8)
def opI (y:Aj) (list tk:List Int):Option Int:=
 if y.Op=2 then idx list y.N else if y.Op=6\/y.Op=8 then idx tk y.N else some y.N
def opN (y:Aj) (list tk:List Int):Option AW:=(opI y list tk).bind fun m=>(opL list y.AU).bind fun a=>some ⟨y.Op,m,a,y.AM⟩
def iI (ch:List Aq):List Int->Option Int
 | []=>some 0
 | c :: js=>(idx ch c).bind fun y=>if 0<=y.Ap/\y.Ap<=3 then(iI ch js).bind fun k=>some (y.Ap+k) else none
structure FS where
 AZ:List Bool
 Ai:List (List Int)
 Ab:List (List Int)
 nd:List AW
def FS.put (s:FS) (n:Int) (l t:List Int) (z:AW):FS:=⟨s.AZ.set n.toNat true,s.Ai.set n.toNat l,s.Ab.set n.toNat t,s.nd.set n.toNat z⟩
def fB (g:FS->Int->List Int->Int->Option FS):FS->List (Option (Int × List Int × Int))->Option FS
 | s,[]=>some s
 | _,none :: _=>none
 | s,some t :: l=>(g s t.1 t.2.1 t.2.2).bind fun s=>fB g s l
def limD (d:AO):Prop:=d.AN.length<=30/\d.AR.length<=30/\d.AP.length<=30
def dV (d:AO):Nat:=d.AN.length+d.AR.length
open Classical in
noncomputable def rV (x:Bool) (d:AO) (ins:List Int) (size:Int) (r:Am):Option (Int × List Int × Int):=
 if x=true->r.AY.length<=3 then(iI d.AN r.AY).bind fun k=>some (r.AV,ins++upto size k.toNat,size+k) else none
def iG (y:Aj) (list tk:List Int):List Int:=if y.Op=6\/y.Op=8 then tk else list
def yY (x:Bool) (y:Aj) (list:List Int):Prop:=
 ((eU y.Op=true\/y.AQ=[])/\dN list.length none y.AQ=true)/\(x=true->y.AU.length<=3/\y.AM.length<=2/\y.AU.all (okE list.length)=true)
open Classical in
noncomputable def mR (x:Bool) (f:AH) (g:FS->Int->List Int->Int->Option FS) (s:FS) (y:Aj) (list tk:List Int) (size:Int):Option FS:=
 if y.Op=4 then
  (idx f.AE y.N).bind fun d=>
  if x=true->limD d then
   (fB g s (d.AP.map (rV x d (tk++upto size (dV d)) (size+dV d)))).bind fun s=>
   (fB g s (d.AR.map fun p=>some (p.AV,tk++upto size (dV d),size+dV d))).bind fun s=>
   fB g s (y.AM.map fun c=>some (c,list++upto size (dV d),size+dV d))
  else none
 else fB g s (y.AM.map fun c=>some (c,iG y list tk,size))
open Classical in
noncomputable def dC (x:Bool) (f:AH):Nat->FS->Int->List Int->Int->Option FS
 | 0,_,_,_,_=>none
 | k+1,s,n,list,size=>
  if 0<=n/\n<(f.AD.length:Int)/\idx s.AZ n=some false then
   (idx f.AD n).bind fun y=>
   if yY x y list then
    (opN y list (pick list y.AQ)).bind fun z=>mR x f (dC x f k) (s.put n list (pick list y.AQ) z) y list (pick list y.AQ) size
   else none
  else none
structure LimF (f:AH):Prop where
 node:∀ y∈f.AD,y.AU.length<=3/\y.AM.length<=2/\∀ l a,opL l y.AU=some a->y.AU.all (okE l.length)=true
 Aa:∀ d∈f.AE,limD d/\∀ r∈d.AP,r.AY.length<=3
open Go.SX Go.SW Go.Dt
theorem opE_eq {l:List Int} {op n:Int} {ks:List AS} {e:AS} (h:opE l ⟨op,n,ks⟩=some e):∃ m ks',e=⟨op,m,ks'⟩/\(if op=2 then idx l n else some n)=some m/\opL l ks=some ks':=by
 rw [opE]at h
 obtain⟨m,e1,h⟩:=bind_some h
 obtain⟨ks',e2,h⟩:=bind_some h
 cases h
 exact⟨m,ks',rfl,e1,e2⟩
theorem aEd {l:List Int} {k:AS} {ks a:List AS} (h:opL l (k :: ks)=some a):∃ k' ks',a=k' :: ks'/\opE l k=some k'/\opL l ks=some ks':=by
 rw [opL]at h
 obtain⟨k',e1,h⟩:=bind_some h
 obtain⟨ks',e2,h⟩:=bind_some h
 cases h
 exact⟨k',ks',rfl,e1,e2⟩
theorem aEL {l:List Int}:∀ {ks a:List AS},opL l ks=some a->a.length=ks.length
 | [],a,h=>by rw [opL]at h;cases h;rfl
 | k :: ks,a,h=>by
  obtain⟨k',ks',rfl,_,h2⟩:=aEd h;simp [aEL h2]
mutual
theorem aFG {l:List Int}:∀ {e e':AS},opE l e=some e'->nE e'=nE e/\dE e'=dE e
 | ⟨op,n,ks⟩,e',h=>by
  obtain⟨m,ks',rfl,_,h2⟩:=opE_eq h;have:=aHf h2;simp only [nE,dE];omega
theorem aHf {l:List Int}:∀ {ks a:List AS},opL l ks=some a->nL a=nL ks/\dL a=dL ks
 | [],a,h=>by rw [opL]at h;cases h;exact⟨rfl,rfl⟩
 | k :: ks,a,h=>by
  obtain⟨k',ks',rfl,h1,h2⟩:=aEd h;have:=aFG h1;have:=aHf h2
  simp only [nL,dL];omega
end
theorem xW {α:Type} {xs:List α} {i:Int} {y:α} (h:idx xs i=some y):0<=i/\i<(xs.length:Int):=by
 obtain⟨j,rfl,hj,_⟩:=mO h
 have:=(a0K.1 hj).1
 omega
def wZ:AW:=⟨0,0,[],[]⟩
def InvF (f:AH) (s:FS):Prop:=∀ (i:Nat) (w:AW),s.nd[i]? =some w->w=wZ\/∃ y l t,f.AD[i]? =some y/\opN y l t=some w
theorem wC {R:FS->Prop} {g:FS->Int->List Int->Int->Option FS} (H:∀ s n l z s',g s n l z=some s'->R s->R s'):∀ (ts:List (Option (Int × List Int × Int))) (s s':FS),fB g s ts=some s'->R s->R s'
 | [],s,s',e,h=>by cases e;exact h
 | none :: ts,s,s',e,h=>by cases e
 | some t :: ts,s,s',e,h=>by
  obtain⟨s1,e1,e2⟩:=bind_some e;exact wC H ts s1 s' e2 (H _ _ _ _ _ e1 h)
theorem uR {x:Bool} {f:AH} {R:FS->Prop} (hp:∀ s n y l t z,idx f.AD n=some y->opN y l t=some z->R s->R (s.put n l t z)):∀ (k:Nat) (s:FS) (n:Int) (l:List Int) (z:Int) (s':FS),dC x f k s n l z=some s'->R s->R s'
 | 0,_,_,_,_,_,h,_=>by cases h
 | k+1,s,n,l,z,s',h,h0=>by
  rw [dC]at h;split at h
  ·obtain⟨y,ey,h⟩:=bind_some h;split at h
   ·obtain⟨w,ew,h⟩:=bind_some h;have h1:=hp s n y l _ w ey ew h0;unfold mR at h;split at h
    ·obtain⟨d,ed,h⟩:=bind_some h;split at h
     ·obtain⟨s1,e1,h⟩:=bind_some h;obtain⟨s2,e2,h⟩:=bind_some h;exact wC (uR hp k) _ _ _ h (wC (uR hp k) _ _ _ e2 (wC (uR hp k) _ _ _ e1 h1))
     ·cases h
    ·exact wC (uR hp k) _ _ _ h h1
   ·cases h
  ·cases h
theorem inv_put {f:AH} {s:FS} {n:Int} {y:Aj} {l t:List Int} {z:AW} (ey:idx f.AD n=some y) (ez:opN y l t=some z) (h:InvF f s):InvF f (s.put n l t z):=by
 intro i w hw
 simp only [FS.put]at hw
 obtain⟨j,rfl,hj,_⟩:=mO ey
 rw [a0r]at hw
 by_cases hn:j=i
 ·subst hn;rw [List.getElem?_set_self']at hw;cases hs:s.nd[j]? with
  | none=>rw [hs]at hw;cases hw
  | some w0=>
   rw [hs]at hw;have hw:z=w:=by simpa using hw
   subst hw;exact .inr ⟨y,l,t,hj,ez⟩
 ·rw [a0O hn]at hw;exact h i w hw
def GN (p:AI) (s:VS):Prop:=∀ i:Nat,s.AT[i]? =some true->∃ y s0 z0,p.AD[i]? =some y/\okN p s0 y z0
theorem zA {p:AI} {g:VS->Int->Int->Option VS} (h:∀ s n z s',g s n z=some s'->GN p s->GN p s'):∀ (l:List (Int × Int)) (s s':VS),cO g s l=some s'->GN p s->GN p s'
 | [],s,s',e,h0=>by cases e;exact h0
 | x :: l,s,s',e,h0=>by
  obtain⟨s1,e1,e2⟩:=bind_some e;exact zA h l s1 s' e2 (h _ _ _ _ e1 h0)
theorem vis_gn {p:AI} (f:Nat):∀ (s:VS) (n z:Int) (s':VS),vis p f s n z=some s'->GN p s->GN p s':=by
 induction f with
 | zero=>intro s n z s' h;simp [vis]at h
 | succ f ih=>
  intro s n z s' h h0;simp only [vis]at h;split at h
  ·obtain⟨x,ex,h⟩:=bind_some h;split at h
   ·rename_i hok;have hput:∀ sz AX,GN p ⟨sz,s.AT.set n.toNat true,AX⟩:=fun sz AX i hi=>by
     by_cases hn:n.toNat=i
     ·obtain⟨j,rfl,hj2,_⟩:=mO ex;rw [<- hn];simp only [a0r];exact⟨x,s,z,hj2,hok⟩
     ·simp only [a0O hn]at hi;exact h0 i hi
    split at h
    ·obtain⟨d,hd,h⟩:=bind_some h;split at h
     ·obtain⟨s1,e1,h⟩:=bind_some h;obtain⟨s2,e2,e3⟩:=bind_some h;exact zA ih _ _ _ e3 (zA ih _ _ _ e2 (zA ih _ _ _ e1 (hput _ _)))
     ·cases h
    ·exact zA ih _ _ _ h (hput _ _)
   ·cases h
  ·cases h
theorem aKq {p:AI} {s:VS} (h:dZ p=some s):∀ (i:Nat) (y:AW),p.AD[i]? =some y->∃ s0 z0,okN p s0 y z0:=by
 unfold dZ at h
 split at h
 ·obtain⟨s1,h1,h2⟩:=bind_some h;split at h2
  ·rename_i hc;cases h2;have hg:=vis_gn _ _ _ _ _ h1 (fun i hi=>by simp [start,a0M]at hi)
   have hw:=((lA p p.AD.length).out _ _ _ _ vP (by rw [vL];exact a1I _) h1).1
   intro i y hi;have hlt:=(a0K.1 hi).1;have hlt2:i<s.AT.length:=by rw [hw.AT];exact hlt
   have ht:s.AT[i]=true:=a0t.1 hc.1 _ (a0S hlt2);obtain⟨y',s0,z0,h3,h4⟩:=hg i (by rw [a0I hlt2,ht])
   rw [hi]at h3;cases h3;exact⟨s0,z0,h4⟩
  ·cases h2
 ·cases h
def gG (f:AH) (s:FS):AI:=⟨f.AF,s.nd,f.AE,f.AG⟩
theorem aHx {p:AI} {s:VS} {y:AW} {z:Int} (h:okN p s y z):y.AU.length<=3/\y.AM.length<=2/\y.AU.all (okE z)=true/\y.Op≠0:=by
 obtain⟨⟨k,c,h1,h2,h3⟩,h4⟩:=h
 have h5:y.AU.length<=3:=by
  unfold okM at h3;split at h3
  ·omega
  ·omega
  ·omega
  ·omega
  ·omega
 refine⟨h5,?_,h4,fun h0=>?_⟩
 ·unfold shp at h1;split at h1
  ·cases h1;omega
  ·split at h1
   ·cases h1;omega
   ·split at h1
    ·cases h1;omega
    ·split at h1
     ·cases h1;omega
     ·split at h1
      ·cases h1;omega
      ·split at h1
       ·cases h1;omega
       ·cases h1
 ·rw [h0]at h1;simp [shp]at h1
def iA (f:AH):FS:=⟨List.replicate f.AD.length false,List.replicate f.AD.length [],List.replicate f.AD.length [],List.replicate f.AD.length wZ⟩
noncomputable def wQ (x:Bool) (f:AH):Option FS:=
 if (f.AD.length<=60/\f.AF.length<=12/\f.AE.length<=12)/\dN f.AF.length none f.AQ=true then dC x f f.AD.length (iA f) f.AG f.AQ f.AF.length else none
noncomputable def iQ (x:Bool) (f:AH):Option FS:=(wQ x f).bind fun s=>if (dZ (gG f s)).isSome=true then some s else none
theorem aGv {x:Bool} {f:AH} {s:FS} (h:wQ x f=some s):InvF f s/\s.nd.length=f.AD.length:=by
 unfold wQ at h
 split at h
 ·refine uR (R:=fun s=>InvF f s/\s.nd.length=f.AD.length) (fun s n y l t z e1 e2 h=>⟨inv_put e1 e2 h.1,by simp only [FS.put,a0Z];exact h.2⟩) _ _ _ _ _ _ h ⟨fun i w hw=> .inl ?_,by simp [iA]⟩
  simp only [iA,a0M]at hw;split at hw
  ·exact(a1V hw).symm
  ·cases hw
 ·cases h
open Go.SX Go.SW Go.Dt
theorem dS {β:Type} {l:List β} (h:l.length<=1000000000):dG l=some l:=a2f h
theorem aAj {α:Type} {z:α} {n:Nat} (h:n<=1000000000):mk z (n:Int)=some (List.replicate n z):=by unfold mk;rw [a2f (by omega),a0r]
structure SmF (f:AH):Prop where
 nodes:f.AD.length<=2000000
 Aa:f.AE.length<=2000000
 free:f.AF.length<=2000000
 names:∀ x∈f.AF,x.size<=2000000
 args:∀ x∈f.AD,x.AU.length<=2000000/\x.AM.length<=2000000/\∀ e∈x.AU,nE e<=2000000
 takes:∀ x∈f.AD,x.AQ.length<=2000000
 AX:∀ d∈f.AE,smD d
 take:f.AQ.length<=2000000
theorem jX {α:Type} {xs:List α} {i:Int} (h0:0<=i) (h1:i<(xs.length:Int)):∃ y,idx xs i=some y:=by
 obtain⟨j,rfl⟩:=Int.eq_ofNat_of_zero_le h0
 exact⟨xs[j],jU (a0I (by omega))⟩
theorem aGU (b:Int):∀ (l:List Int) (q:Int),q<b->dN b (some q) l=true->(l.length:Int)<=b - 1 - q
 | [],q,h,_=>by simp;omega
 | n :: l,q,h,e=>by
  simp only [dN,a0k,a2d]at e;have:=aGU b l n e.1.1.2 e.2;simp only [a0U];omega
theorem aH6 {b:Int} (hb:0<=b):∀ {l:List Int},dN b none l=true->(l.length:Int)<=b
 | [],_=>by simpa using hb
 | n :: l,e=>by
  simp only [dN,a0k,a2d]at e;have:=aGU b l n e.1.1.2 e.2;simp only [a0U];omega
theorem aGF {b:Int}:∀ {l:List Int} {p:Option Int},dN b p l=true->∀ i∈l,0<=i/\i<b
 | [],_,_,i,h=>by cases h
 | n :: l,p,e,i,h=>by
  simp only [dN,a0k,a2d]at e;cases h with
  | head=>exact e.1.1
  | tail _ h=>exact aGF e.2 i h
theorem aIP (AB:List Int):AB=[]\/∃ p q,AB=p++[q]:=by
 rcases List.eq_nil_or_concat AB with h | ⟨p,q,h⟩
 ·exact .inl h
 ·exact .inr ⟨p,q,by simpa using h⟩
theorem aKH {b:Int} (AC:List Int):∀ (AB:List Int) (k:Nat),AC.length<k->AB.length+AC.length<=3000000 ->
 oQ (AB++AC) b k AB.length=some (if dN b AB.getLast? AC=true then .inl () else .inr false):=by
 induction AC with
 | nil=>
  intro AB k hk _;obtain _ | k:=k
  ·omega
  rw [oQ,a2e (by simp)];simp [dN]
 | cons e AC ih=>
  intro AB k hk hB;obtain _ | k:=k
  ·omega
  simp only [a0U]at hk hB;rw [oQ,a2f (bA _ _ _),bC,bsm];have hn:=ih (AB++[e]) k (by omega) (by simp;omega)
  rw [List.getLast?_append,List.getLast?_singleton,Option.some_or]at hn;by_cases c1:e<0
  ·rw [a2f c1,a2e (by simp only [dN,a0k,a2d];omega)];rfl
  rw [a2e c1];by_cases c2:b<=e
  ·rw [a2f c2,a2e (by simp only [dN,a0k,a2d];omega)];rfl
  rw [a2e c2];rcases aIP AB with rfl | ⟨p,q,rfl⟩
  ·rw [a2e (by simp),bsm];dsimp only
   rw [aQ (by simp),bsm,bJ,aV,hn];have:dN b (([]:List Int).getLast?) (e :: AC)=dN b (some e) AC:=by
    simp only [List.getLast?_nil,dN,Bool.and_true];rw [a2c (by omega),a0p]
   rw [this]
  ·rw [a2f (by simp),aQ (by simp at hB ⊢;omega),bsm];have hi:idx (p++[q]++e :: AC) (((p++[q]).length:Int) - 1)=some q:=by
    rw [show(((p++[q]).length:Int) - 1)=(p.length:Int)from by simp,a0u];exact bC _ _ _
   rw [hi,bsm];by_cases c3:e<=q
   ·rw [a2f c3,a2e (by simp [dN];omega)];rfl
   ·rw [a2e c3,bsm];dsimp only
    rw [aQ (by omega),bsm,bJ,aV,hn];have:dN b ((p++[q]).getLast?) (e :: AC)=dN b (some e) AC:=by
     simp only [List.getLast?_append,List.getLast?_singleton,Option.some_or,dN];rw [a2c (by omega),a2c (by omega),a0p,a0p]
    rw [this]
theorem aHm {AA:Nat} {l:List Int} {b:Int} (hf:l.length<AA) (hB:l.length<=3000000):sU AA l b=some (dN b none l):=by
 have h:=aKH (b:=b) l [] AA hf (by simp;omega)
 simp only [a1p,a0Y,a0q]at h
 rw [sU,h,bsm]
 by_cases hr:dN b none l=true
 ·rw [a2f (show dN b ([]:List Int).getLast? l=true from hr)];show some true=_
  rw [hr]
 ·rw [a2e (show ¬ dN b ([]:List Int).getLast? l=true from hr)];show some false=_
  rw [Bool.eq_false_iff.2 hr]
theorem aIi {l:List Int} (AC:List Int):∀ (AB acc:List Int) (k:Nat),AC.length<k->AB.length+AC.length<=3000000->acc.length+AC.length<=1000000000->(∀ i∈AC,0<=i/\i<(l.length:Int)) ->
 pO l (AB++AC) k acc AB.length=some (acc++pick l AC):=by
 induction AC with
 | nil=>
  intro AB acc k hk _ _ _;obtain _ | k:=k
  ·omega
  rw [pO,a2e (by simp)];simp [pick]
 | cons e AC ih=>
  intro AB acc k hk hB hA hi;obtain _ | k:=k
  ·omega
  simp only [a0U]at hk hB hA;obtain⟨y,hy⟩:=jX (hi e (.head _)).1 (hi e (.head _)).2;rw [pO,a2f (bA _ _ _),bC,bsm,hy,bsm,dS (by simp;omega),bsm,aQ (by omega),bsm,bJ,aV,ih (AB++[e]) _ k (by omega) (by simp;omega) (by simp;omega) (fun i h=>hi i (.tail _ h))];simp [pick,hy]
theorem pick_p {AA:Nat} {l a:List Int} (hf:a.length<AA) (hB:a.length<=3000000) (hi:∀ i∈a,0<=i/\i<(l.length:Int)):vV AA l a=some (pick l a):=by
 have h:=aIi (l:=l) a [] [] AA hf (by simp;omega) (by simp;omega) hi
 simp only [a1p,a0Y,a0q]at h
 rw [vV,h,bsm]
theorem pick_len {l a:List Int}:(pick l a).length=a.length:=by simp [pick]
theorem aFY (n:Int) (i:Nat):upto n (i+1)=upto n i++[n+(i:Int)]:=by simp [upto,List.range_succ]
theorem gY {n:Int} {k:Nat}:(upto n k).length=k:=by simp [upto]
theorem aGi {n:Int} {m:Nat} (hn:0<=n/\n<=1000000000) (hm:m<=500000000):∀ (j i k:Nat),i+j=m->j<k->mG n m k (upto n i) i=some (upto n m)
 | 0,i,k+1,h,_=>by
  rw [mG,a2e (by omega),show i=m from by omega]
 | j+1,i,k+1,h,hk=>by
  rw [mG,a2f (by omega),aQ (by omega),bsm,dS (by simp [gY];omega),bsm,aQ (by omega),bsm,<- aFY,show(i:Int)+1=((i+1:Nat):Int)from by omega];exact aGi hn hm j (i+1) k (by omega) (by omega)
theorem aBF {AA:Nat} {n m:Int} (hn:0<=n/\n<=1000000000) (h0:0<=m) (hm:m<=500000000) (hf:m<AA):rA AA n m=some (upto n m.toNat):=by
 obtain⟨m,rfl⟩:=Int.eq_ofNat_of_zero_le h0
 have h:=aGi (m:=m) hn (by omega) m 0 AA (by omega) (by omega)
 rw [a0r]
 rw [rA,show mG n m AA [] 0=_ from h,bsm]
theorem uS {a b:List Int} (h:a.length+b.length<=1000000000):mE a b=some (a++b):=by
 rw [mE,gQ,a1p,dS (by omega),bsm,bsm,dS (by simp;omega),bsm]
theorem aCG (op:Int):qS op=some (eU op):=by
 rw [qS]
 by_cases a:op=4
 ·rw [a2f a,bsm,eU,a2c (by omega)]
 by_cases b:op=6
 ·rw [a2e a,a2f b,bsm,eU,a2c (by omega)]
 by_cases c:op=7
 ·rw [a2e a,a2e b,a2f c,bsm,eU,a2c (by omega)]
 ·rw [a2e a,a2e b,a2e c,bsm,eU];congr 1;rw [decide_eq_decide];omega
theorem aKY {rec:AS->List Int->Option (AS × Bool)} {op n:Int} {l:List Int} {x:Int} (AC:List AS):∀ (AB acc:List AS) (k:Nat),AC.length<k->AB.length+AC.length<=3000000->acc.length+AC.length<=1000000000 ->
 (∀ e∈AC,∃ e' b,rec e l=some (e',b)/\opE l e=if b=true then some e' else none) ->
  ∃ r,lY rec ⟨op,n,AB++AC⟩ l x k AB.length acc=some r/\match opL l AC with | some ks=>r= .inl (acc++ks) | none=>∃ e',r= .inr (e',false):=by
 induction AC with
 | nil=>
  intro AB acc k hk _ _ _;obtain _ | k:=k
  ·omega
  exact⟨_,by rw [lY,a2e (by simp)],by simp [opL]⟩
 | cons e AC ih=>
  intro AB acc k hk hB hA hr;obtain _ | k:=k
  ·omega
  simp only [a0U]at hk hB hA;obtain⟨e',b,h1,h2⟩:=hr e (.head _);rw [lY,a2f (bA _ _ _),bC,bsm,kK,h1,bsm];cases b with
  | true=>
   rw [a2f rfl]at h2;simp only [a2a,kK];rw [dS (by simp;omega),bsm,aQ (by omega),bsm,bJ,aV];obtain⟨r,g1,g2⟩:=ih (AB++[e]) (acc++[e']) k (by omega) (by simp;omega) (by simp;omega) (fun x hx=>hr x (.tail _ hx))
   refine⟨r,g1,?_⟩;rw [opL,h2,bsm];cases ho:opL l AC with
   | none=>rw [ho]at g2;exact g2
   | some ks=>rw [ho]at g2;rw [bsm];dsimp only at g2 ⊢;rw [g2];simp
  | false=>
   rw [a2e (by simp)]at h2;simp only [a1Z];refine⟨_,rfl,?_⟩;rw [opL,h2];exact⟨_,rfl⟩
theorem exp_p (AA:Nat):∀ (e:AS) (l:List Int),nE e<AA->nE e<=2000000->∃ e' b,kN AA e l=some (e',b)/\opE l e=if b=true then some e' else none:=by
 induction AA with
 | zero=>intro e l h;omega
 | succ AA ih=>
  intro ⟨op,n,ks⟩ l hf hB
  simp only [nE]at hf hB;have hlen:=mT ks;have hloop:=fun x=>aKY (rec:=kN AA) (op:=op) (n:=n) (l:=l) (x:=x) ks [] [] AA (by omega) (by simp;omega) (by simp;omega) (fun e he=>ih e l (by have:=gK he;omega) (by have:=gK he;omega))
  simp only [a1p,a0Y,a0q]at hloop;have fin:∀ x,(if op=2 then idx l n else some n)=some x->∃ e' b,((lY (kN AA) ⟨op,n,ks⟩ l x AA 0 []).bind fun o=>match o with
   | Sum.inr r=>some r
   | Sum.inl x2=>some ((⟨op,x,x2⟩:AS),true))=some (e',b)/\opE l ⟨op,n,ks⟩=if b=true then some e' else none:=fun x hx=>by
   obtain⟨r,g1,g2⟩:=hloop x;rw [g1,bsm,opE,hx,bsm];cases ho:opL l ks with
   | none=>rw [ho]at g2;obtain⟨e',rfl⟩:=g2;exact⟨e',false,rfl,rfl⟩
   | some a=>rw [ho]at g2;dsimp only at g2;subst g2;exact⟨_,true,rfl,rfl⟩
  rw [kN];dsimp only
  by_cases o2:op=2
  ·rw [a2f o2];by_cases c1:n<0
   ·rw [a2f c1];refine⟨_,false,rfl,?_⟩;rw [opE,a2f o2,show idx l n=none from by unfold idx;rw [a2e (by omega)]];rfl
   ·rw [a2e c1];by_cases c2:(l.length:Int)<=n
    ·rw [a2f c2];refine⟨_,false,rfl,?_⟩;have:idx l n=none:=by
      cases hi:idx l n with
      | none=>rfl
      | some y=>have:=xW hi;omega
     rw [opE,a2f o2,this];rfl
    ·rw [a2e c2];obtain⟨y,hy⟩:=jX (xs:=l) (i:=n) (by omega) (by omega)
     rw [hy,bsm,bsm];exact fin y (by rw [a2f o2,hy])
  ·rw [a2e o2,bsm];exact fin n (by rw [a2e o2])
theorem aFR {ch:List Aq}:∀ {js:List Int} {k:Int},iI ch js=some k->0<=k/\k<=3*js.length
 | [],k,h=>by cases h;simp
 | c :: js,k,h=>by
  rw [iI]at h;obtain⟨y,_,h⟩:=bind_some h;split at h
  ·rename_i hy;obtain⟨k',h1,h⟩:=bind_some h;cases h;have:=aFR h1;simp only [a0U];omega
  ·cases h
theorem aKI {d:AO} {a nd:Int} (AC:List Int):∀ (AB:List Int) (k:Nat) (w:Int),AC.length<k->AB.length+AC.length<=3000000->0<=w->w+3*AC.length<=1000000000 ->
 kW d ⟨a,AB++AC,nd⟩ k w AB.length=some (match iI d.AN AC with | some m=> .inl (w+m) | none=> .inr (-1)):=by
 induction AC with
 | nil=>
  intro AB k w hk _ _ _;obtain _ | k:=k
  ·omega
  rw [kW,a2e (by simp)];simp [iI]
 | cons e AC ih=>
  intro AB k w hk hB h0 hw;obtain _ | k:=k
  ·omega
  simp only [a0U]at hk hB hw;rw [kW,a2f (bA _ _ _)];dsimp only
  rw [bC,bsm,iI];by_cases c1:e<0
  ·rw [a2f c1,show idx d.AN e=none from by unfold idx;rw [a2e (by omega)]];rfl
  rw [a2e c1];by_cases c2:(d.AN.length:Int)<=e
  ·have:idx d.AN e=none:=by
    cases hi:idx d.AN e with
    | none=>rfl
    | some y=>have:=xW hi;omega
   rw [a2f c2,this];rfl
  rw [a2e c2];obtain⟨y,hy⟩:=jX (xs:=d.AN) (i:=e) (by omega) (by omega)
  simp only [hy,bsm];by_cases c3:y.Ap<0
  ·rw [a2f c3,a2e (by omega)]
  rw [a2e c3];by_cases c4:3<y.Ap
  ·rw [a2f c4,a2e (by omega)]
  rw [a2e c4,a2f (by omega),aQ (by omega),bsm,aQ (by omega),bsm,bJ,aV,ih (AB++[e]) k _ (by omega) (by simp;omega) (by omega) (by omega)];cases iI d.AN AC with
  | none=>rfl
  | some m=>rw [bsm];dsimp only;rw [Int.add_assoc]
theorem aD5 {AA:Nat} {d:AO} {r:Am} (hf:r.AY.length<AA) (hB:r.AY.length<=2000000):nV AA d r=some (match iI d.AN r.AY with | some m=>m | none=>-1):=by
 have h:=aKI (d:=d) (a:=r.At) (nd:=r.AV) r.AY [] AA 0 hf (by simp;omega) (by omega) (by omega)
 simp only [a1p,a0Y,a0q]at h
 rw [nV,h,bsm]
 cases iI d.AN r.AY with
 | none=>rfl
 | some m=>dsimp only;rw [Int.zero_add]
theorem bring_r {AA:Nat} {d:AO} {r:Am} (hf:r.AY.length<AA) (hB:r.AY.length<=2000000):aCm AA d r=some (if r.AY.length<=3 then match iI d.AN r.AY with | some m=>m | none=>-1 else -1):=by
 have hl:∀ (k:Nat) (x i:Int),aA6 d r k x i=kW d r k x i:=fun k=>by
  induction k with
  | zero=>intro x i;rfl
  | succ k ih=>
   intro x i;rw [aA6,kW];simp only [ih]
 rw [aCm]
 by_cases c:3<(r.AY.length:Int)
 ·rw [a2f c,a2e (by omega)]
 ·rw [a2e c,a2f (by omega),<- aD5 hf hB,nV,hl];rfl
theorem aKL {d:AO} (AC:List Am):∀ (AB:List Am) (k:Nat),d.AP=AB++AC->AC.length<k->AB.length+AC.length<=3000000->(∀ r∈AC,r.AY.length<=2000000)->oD d k AB.length AB=some (AB++AC):=by
 induction AC with
 | nil=>
  intro AB k hd hk _ _;obtain _ | k:=k
  ·omega
  rw [oD,hd,a2e (by simp)];simp
 | cons e AC ih=>
  intro AB k hd hk hB hr;obtain _ | k:=k
  ·omega
  simp only [a0U]at hk hB;have:=hr e (.head _);rw [oD,hd,a2f (bA _ _ _),bC,bsm,gQ,a1p,dS (by omega),bsm,bsm,show(⟨e.At,e.AY,e.AV⟩:Am)=e from rfl,dS (by simp;omega),bsm,aQ (by omega),bsm,aV,ih (AB++[e]) k (by rw [hd,bJ]) (by omega) (by simp;omega) (fun x hx=>hr x (.tail _ hx)),<- bJ]
theorem aLl {AA:Nat} {ds:List AO} (AC:List AO):∀ (AB:List AO) (k:Nat),ds=AB++AC->AC.length<k->AB.length+AC.length<=3000000->(∀ d∈AC,smD d)->2000000<AA->oR AA ds k AB AB.length=some (AB++AC):=by
 induction AC with
 | nil=>
  intro AB k hd hk _ _ _;obtain _ | k:=k
  ·omega
  rw [oR,hd,a2e (by simp)];simp
 | cons e AC ih=>
  intro AB k hd hk hB hr hf;obtain _ | k:=k
  ·omega
  simp only [a0U]at hk hB;have hs:=hr e (.head _);obtain⟨s1,s2,s3,s4⟩:=hs;have h2:=aKL (d:=e) e.AP [] AA rfl (by omega) (by simp;omega) s4
  simp only [a1p,a0Y,a0q]at h2;rw [oR,hd,a2f (bA _ _ _),bC,bsm,aAS,a1p,dS (by omega),bsm,bsm,aAN,a1p,dS (by omega),bsm,bsm,h2,bsm,show(⟨e.AN,e.AR,e.AP⟩:AO)=e from rfl,dS (by simp;omega),bsm,bsm,aQ (by omega),bsm,<- hd,aV,ih (AB++[e]) k (by rw [hd,bJ]) (by omega) (by simp;omega) (fun x hx=>hr x (.tail _ hx)) hf,<- bJ,hd]
theorem aEo {AA:Nat} {ds:List AO} (hf:2000000<AA) (hB:ds.length<=2000000) (hs:∀ d∈ds,smD d):uZ AA ds=some ds:=by
 have h:=aLl (AA:=AA) (ds:=ds) ds [] AA rfl (by omega) (by simp;omega) hs hf
 simp only [a1p,a0Y,a0q]at h
 rw [uZ,h,bsm]
open Go.SX Go.SW Go.Dt
def unF (s:FS):Nat:=s.AZ.countP (fun b=>!b)
structure WF (f:AH) (s:FS):Prop where
 AZ:s.AZ.length=f.AD.length
 Ai:s.Ai.length=f.AD.length
 Ab:s.Ab.length=f.AD.length
 nd:s.nd.length=f.AD.length
theorem WF.put {f:AH} {s:FS} {n:Int} {l t:List Int} {z:AW} (h:WF f s):WF f (s.put n l t z):=⟨by simp [FS.put,h.AZ],by simp [FS.put,h.Ai],by simp [FS.put,h.Ab],by simp [FS.put,h.nd]⟩
theorem aBA {x:Bool} {f:AH} {k:Nat} {s s':FS} {n:Int} {l:List Int} {z:Int} (h:dC x f k s n l z=some s') (w:WF f s):WF f s':=uR (R:=WF f) (fun _ _ _ _ _ _ _ _ h=>h.put) k s n l z s' h w
theorem countP_set {l:List Bool}:∀ {i:Nat},l[i]? =some false->(l.set i true).countP (fun b=>!b)+1=l.countP (fun b=>!b):=by
 induction l with
 | nil=>intro i h;simp at h
 | cons b l ih=>
  intro i h;cases i with
  | zero=>simp at h;subst h;simp
  | succ i=>
   have:=ih (i:=i) (by simpa using h)
   simp only [List.set_cons_succ,List.countP_cons];omega
theorem aGC {s:FS} {n:Int} {l t:List Int} {z:AW} (h:idx s.AZ n=some false):unF (s.put n l t z)+1=unF s:=by
 obtain⟨j,rfl,hj,_⟩:=mO h
 simp only [unF,FS.put,a0r]
 exact countP_set hj
theorem unF_pos {s:FS} {n:Int} (h:idx s.AZ n=some false):0<unF s:=a0x.2 ⟨false,gI h,rfl⟩
theorem uK {g:FS->Int->List Int->Int->Option FS} (H:∀ s n l z s',g s n l z=some s'->unF s'<=unF s):∀ (ts:List (Option (Int × List Int × Int))) (s s':FS),fB g s ts=some s'->unF s'<=unF s
 | [],s,s',e=>by cases e;exact a1I _
 | none :: ts,s,s',e=>by cases e
 | some t :: ts,s,s',e=>by
  obtain⟨s1,e1,e2⟩:=bind_some e;exact a1J (uK H ts s1 s' e2) (H _ _ _ _ _ e1)
theorem aAE {x:Bool} {f:AH}:∀ (k:Nat) (s:FS) (n:Int) (l:List Int) (z:Int) (s':FS),dC x f k s n l z=some s'->unF s'+1<=unF s
 | 0,_,_,_,_,_,h=>by cases h
 | k+1,s,n,l,z,s',h=>by
  have ih:∀ s n l z s',dC x f k s n l z=some s'->unF s'<=unF s:=fun s n l z s' h=>by have:=aAE k s n l z s' h;omega
  rw [dC]at h;split at h
  ·rename_i hc;obtain⟨y,ey,h⟩:=bind_some h;split at h
   ·obtain⟨w,ew,h⟩:=bind_some h;have h1:=aGC (l:=l) (t:=pick l y.AQ) (z:=w) hc.2.2;unfold mR at h;split at h
    ·obtain⟨d,ed,h⟩:=bind_some h;split at h
     ·obtain⟨s1,e1,h⟩:=bind_some h;obtain⟨s2,e2,h⟩:=bind_some h;have:=uK ih _ _ _ h;have:=uK ih _ _ _ e2;have:=uK ih _ _ _ e1;omega
     ·cases h
    ·have:=uK ih _ _ _ h;omega
   ·cases h
  ·cases h
def cvP (f:AH) (s:FS):Ae:=⟨f,s.Ai,s.Ab,s.AZ,⟨f.AF,s.nd,f.AE,f.AG⟩⟩
abbrev TupP:=List ByteArray × List Int × List Aj × List AO × Int × List (List Int) × List (List Int) × List Bool × List ByteArray × List AW × List AO × Int
def tupP (f:AH) (s:FS):TupP:=(f.AF,f.AQ,f.AD,f.AE,f.AG,s.Ai,s.Ab,s.AZ,f.AF,s.nd,f.AE,f.AG)
def OutP (f:AH) (o:Option FS) (r:TupP ⊕ (Ae × Bool)):Prop:=match o with
 | some s'=>r= .inl (tupP f s')
 | none=>∃ s',r= .inr (cvP f s',false)
def ResP (f:AH) (o:Option FS) (r:Ae × Bool):Prop:=match o with
 | some s'=>r=(cvP f s',true)
 | none=>∃ s',r=(cvP f s',false)
structure PV (f:AH) (k:Nat) (rec:Ae->Int->List Int->Int->Option (Ae × Bool)):Prop where
 run:∀ (s:FS) (n:Int) (l:List Int) (z:Int),WF f s->unF s<=k->(l.length:Int)<=z->z+6000100*k<=400000000->∃ r,rec (cvP f s) n l z=some r/\ResP f (dC false f k s n l z) r
section
variable {f:AH} {k:Nat} {rec:Ae->Int->List Int->Int->Option (Ae × Bool)}
theorem kidsP (hv:PV f k rec) {l:List Int} {z:Int} (hl:(l.length:Int)<=z) (hz:z+6000100*k<=400000000) (AC:List Int):∀ (AB:List Int) (K:Nat) (s:FS),AC.length<K->AB.length+AC.length<=3000000->WF f s->unF s<=k ->
 ∃ r,nJ rec (AB++AC) l z K AB.length f.AF f.AQ f.AD f.AE f.AG s.Ai s.Ab s.AZ f.AF s.nd f.AE f.AG=some r/\OutP f (fB (dC false f k) s (AC.map fun c=>some (c,l,z))) r:=by
 induction AC with
 | nil=>
  intro AB K s hk _ hs hu;obtain _ | K:=K
  ·omega
  exact⟨.inl (tupP f s),by rw [nJ,a2e (by simp)];rfl,rfl⟩
 | cons e AC ih=>
  intro AB K s hk hB hs hu;obtain _ | K:=K
  ·omega
  simp only [a0U]at hk hB;obtain⟨r,h1,h2⟩:=hv.run s e l z hs hu hl hz;rw [nJ,a2f (bA _ _ _),bC,bsm,show rec (⟨(⟨f.AF,f.AQ,f.AD,f.AE,f.AG⟩:AH),s.Ai,s.Ab,s.AZ,(⟨f.AF,s.nd,f.AE,f.AG⟩:AI)⟩:Ae) e l z=_ from h1,bsm,a1c,fB];dsimp only
  cases hq:dC false f k s e l z with
  | none=>rw [hq]at h2;obtain⟨s',rfl⟩:=h2;exact⟨_,rfl,s',rfl⟩
  | some s1=>
   rw [hq]at h2;have h2:r=(cvP f s1,true):=h2;subst h2;have:=aAE k _ _ _ _ _ hq;obtain⟨r,g1,g2⟩:=ih (AB++[e]) K s1 (by omega) (by simp;omega) (aBA hq hs) (by omega)
   refine⟨r,?_,by rw [bsm];exact g2⟩
   rw [a2a,aQ (by omega),bsm,bJ,aV];exact g1
theorem spotsP (hv:PV f k rec) {d:AO} {l:List Int} {z:Int} (hl:(l.length:Int)<=z) (hz:z+6000100*k<=400000000) (AC:List Ao):∀ (AB:List Ao) (K:Nat) (s:FS),d.AR=AB++AC->AC.length<K->AB.length+AC.length<=3000000->WF f s->unF s<=k ->
 ∃ r,mY rec d z l K AB.length f.AF f.AQ f.AD f.AE f.AG s.Ai s.Ab s.AZ f.AF s.nd f.AE f.AG=some r/\OutP f (fB (dC false f k) s (AC.map fun c=>some (c.AV,l,z))) r:=by
 induction AC with
 | nil=>
  intro AB K s hd hk _ hs hu;obtain _ | K:=K
  ·omega
  exact⟨.inl (tupP f s),by rw [mY,hd,a2e (by simp)];rfl,rfl⟩
 | cons e AC ih=>
  intro AB K s hd hk hB hs hu;obtain _ | K:=K
  ·omega
  simp only [a0U]at hk hB;obtain⟨r,h1,h2⟩:=hv.run s e.AV l z hs hu hl hz;rw [mY,hd,a2f (bA _ _ _),bC,bsm,show rec (⟨(⟨f.AF,f.AQ,f.AD,f.AE,f.AG⟩:AH),s.Ai,s.Ab,s.AZ,(⟨f.AF,s.nd,f.AE,f.AG⟩:AI)⟩:Ae) e.AV l z=_ from h1,bsm,a1c,fB];dsimp only
  cases hq:dC false f k s e.AV l z with
  | none=>rw [hq]at h2;obtain⟨s',rfl⟩:=h2;exact⟨_,rfl,s',rfl⟩
  | some s1=>
   rw [hq]at h2;have h2:r=(cvP f s1,true):=h2;subst h2;have:=aAE k _ _ _ _ _ hq;obtain⟨r,g1,g2⟩:=ih (AB++[e]) K s1 (by rw [hd,bJ]) (by omega) (by simp;omega) (aBA hq hs) (by omega)
   refine⟨r,?_,by rw [bsm];exact g2⟩
   rw [a2a,aQ (by omega),bsm,aV];exact g1
theorem aDs (d:AO) (ins:List Int) (z:Int) (r:Am):rV false d ins z r=(iI d.AN r.AY).bind fun k=>some (r.AV,ins++upto z k.toNat,z+k):=by
 unfold rV;rw [a2f (by intro h;cases h)]
theorem rulesP (hv:PV f k rec) {AA:Nat} (hf:10000000<AA) {d:AO} {l:List Int} {z:Int} (hl:(l.length:Int)<=z) (hz:z+6000000+6000100*k<=400000000) (AC:List Am):∀ (AB:List Am) (K:Nat) (s:FS),d.AP=AB++AC->AC.length<K->AB.length+AC.length<=3000000->(∀ r∈AC,r.AY.length<=2000000)->WF f s->unF s<=k ->
 ∃ r,nD AA rec d z l K AB.length f.AF f.AQ f.AD f.AE f.AG s.Ai s.Ab s.AZ f.AF s.nd f.AE f.AG=some r/\OutP f (fB (dC false f k) s (AC.map (rV false d l z))) r:=by
 induction AC with
 | nil=>
  intro AB K s hd hk _ _ hs hu;obtain _ | K:=K
  ·omega
  exact⟨.inl (tupP f s),by rw [nD,hd,a2e (by simp)];rfl,rfl⟩
 | cons e AC ih=>
  intro AB K s hd hk hB hj hs hu;obtain _ | K:=K
  ·omega
  simp only [a0U]at hk hB;have hje:=hj e (.head _);rw [nD,a2f (by rw [hd];exact bA _ _ _),show idx d.AP (AB.length:Int)=some e from by rw [hd];exact bC _ _ _,bsm,show nV AA (⟨d.AN,d.AR,d.AP⟩:AO) (⟨e.At,e.AY,e.AV⟩:Am)=_ from aD5 (d:=d) (r:=e) (by omega) hje,bsm,a1c];cases hm:iI d.AN e.AY with
  | none=>
   rw [show rV false d l z e=none from by rw [aDs,hm];rfl];exact⟨_,rfl,s,rfl⟩
  | some m=>
   have hml:=aFR hm;rw [show rV false d l z e=some (e.AV,l++upto z m.toNat,z+m)from by rw [aDs,hm,bsm]];obtain⟨r,h1,h2⟩:=hv.run s e.AV (l++upto z m.toNat) (z+m) hs hu (by rw [a0T,gY];omega) (by omega)
   dsimp only
   rw [a2e (by omega),aBF (by omega) hml.1 (by omega) (by omega),bsm,uS (by rw [gY];omega),bsm,aQ (by omega),bsm,show rec (⟨(⟨f.AF,f.AQ,f.AD,f.AE,f.AG⟩:AH),s.Ai,s.Ab,s.AZ,(⟨f.AF,s.nd,f.AE,f.AG⟩:AI)⟩:Ae) e.AV (l++upto z m.toNat) (z+m)=_ from h1,bsm,fB];dsimp only
   cases hq:dC false f k s e.AV (l++upto z m.toNat) (z+m)with
   | none=>rw [hq]at h2;obtain⟨s',rfl⟩:=h2;exact⟨_,rfl,s',rfl⟩
   | some s1=>
    rw [hq]at h2;have h2:r=(cvP f s1,true):=h2;subst h2;have:=aAE k _ _ _ _ _ hq;obtain⟨r,g1,g2⟩:=ih (AB++[e]) K s1 (by rw [hd,bJ]) (by omega) (by simp;omega) (fun r hr=>hj r (.tail _ hr)) (aBA hq hs) (by omega)
    refine⟨r,?_,by rw [bsm];exact g2⟩
    rw [a2a,aQ (by omega),bsm,aV];exact g1
end
theorem aGL {f:AH} {k AA:Nat} (hv:PV f k (eC AA)) (hf:10000000<AA) {l:List Int} {z:Int} (hl:(l.length:Int)<=z) (hz:z+6000100*k<=400000000) {ks:List Int} (hk:ks.length<=2000000) {s:FS} (hs:WF f s) (hu:unF s<=k):
 ∃ r,lN (AA+1) (cvP f s) ks l z=some r/\ResP f (fB (dC false f k) s (ks.map fun c=>some (c,l,z))) r:=by
 obtain⟨r,g1,g2⟩:=kidsP hv hl hz ks [] AA s (by omega) (by simp;omega) hs hu
 rw [lN,show nJ (eC AA) ks l z AA 0 (cvP f s).AH.AF (cvP f s).AH.AQ (cvP f s).AH.AD (cvP f s).AH.AE (cvP f s).AH.AG (cvP f s).Ai (cvP f s).Ab (cvP f s).AZ (cvP f s).AK.AF (cvP f s).AK.AD (cvP f s).AK.AE (cvP f s).AK.AG=_ from g1,bsm]
 cases hq:fB (dC false f k) s (ks.map fun c=>some (c,l,z))with
 | none=>rw [hq]at g2;obtain⟨s',rfl⟩:=g2;exact⟨_,rfl,s',rfl⟩
 | some s'=>rw [hq]at g2;have g2:r= .inl (tupP f s'):=g2;subst g2;exact⟨_,rfl,rfl⟩
open Go.SX Go.SW Go.Dt
theorem visF_k {x:Bool} {f:AH} {k:Nat} {ts:List (Option (Int × List Int × Int))} {s s':FS} (h:fB (dC x f k) s ts=some s') (w:WF f s) (u:unF s<=k):WF f s'/\unF s'<=k:=
 ⟨wC (R:=WF f) (fun _ _ _ _ _ h w=>aBA h w) ts s s' h w,a1J (uK (fun s n l z s' h=>by have:=aAE k s n l z s' h;omega) ts s s' h) u⟩
theorem defP_S {f:AH} {k AA:Nat} (hm:SmF f) (hD:∀ d∈f.AE,d.AN.length<=30/\d.AR.length<=30) (hv1:PV f k (eC (AA+1))) (hv0:PV f k (eC AA)) (hf:10000000<AA) {s:FS} {n:Int} {l tk:List Int} {z:Int} {y:Aj}
 (hl:(l.length:Int)<=z) (ht:(tk.length:Int)<=z) (hz:z+6000100*(k+1)<=400000000) (hy:idx f.AD n=some y) (h4:y.Op=4) (htk:idx s.Ab n=some tk) (hs:WF f s) (hu:unF s<=k):
 ∃ r,rT (AA+2) (cvP f s) n l z=some r/\ResP f (mR false f (dC false f k) s y l tk z) r:=by
 rw [rT,show idx (cvP f s).AH.AD n=some y from hy,bsm]
 unfold mR
 rw [a2f h4]
 by_cases c1:y.N<0
 ·rw [a2f c1,show idx f.AE y.N=none from by unfold idx;rw [a2e (by omega)]];exact⟨_,rfl,s,rfl⟩
 rw [a2e c1]
 by_cases c2:(f.AE.length:Int)<=y.N
 ·have:idx f.AE y.N=none:=by
   cases hi:idx f.AE y.N with
   | none=>rfl
   | some y=>have:=xW hi;omega
  rw [a2f (show((cvP f s).AH.AE.length:Int)<=y.N from c2),this];exact⟨_,rfl,s,rfl⟩
 obtain⟨d,hd⟩:=jX (xs:=f.AE) (i:=y.N) (by omega) (by omega)
 obtain⟨d1,d2⟩:=hD d (gI hd)
 obtain⟨m1,m2,m3,m4⟩:=hm.AX d (gI hd)
 have ho:dV d<=60:=by unfold dV;omega
 have hy2:=(hm.args y (gI hy)).2.1
 rw [a2e (show ¬ ((cvP f s).AH.AE.length:Int)<=y.N from c2),show idx (cvP f s).AH.AE y.N=some d from hd,bsm,show chk ((d.AN.length:Int)+(d.AR.length:Int))=some (dV d:Int)from by rw [aQ (by omega)];simp [dV],bsm,
  aBF (by omega) (by omega) (by omega) (by omega),bsm,a0r,gY,aQ (by omega),bsm,show idx (cvP f s).Ab n=some tk from htk,bsm,uS (by rw [gY];omega),bsm,hd,bsm,a2f (by intro h;cases h)]
 obtain⟨r1,g1,g2⟩:=rulesP hv1 (AA:=AA+1) (by omega) (d:=d) (l:=tk++upto z (dV d)) (z:=z+dV d) (by rw [a0T,gY];omega) (by omega) d.AP [] (AA+1) s rfl (by omega) (by simp;omega) m4 hs hu
 rw [show nD (AA+1) (eC (AA+1)) d (z+dV d) (tk++upto z (dV d)) (AA+1) 0 (cvP f s).AH.AF (cvP f s).AH.AQ (cvP f s).AH.AD (cvP f s).AH.AE (cvP f s).AH.AG (cvP f s).Ai (cvP f s).Ab (cvP f s).AZ (cvP f s).AK.AF (cvP f s).AK.AD (cvP f s).AK.AE (cvP f s).AK.AG=_ from g1,bsm]
 cases hq:fB (dC false f k) s (d.AP.map (rV false d (tk++upto z (dV d)) (z+dV d)))with
 | none=>rw [hq]at g2;obtain⟨s',rfl⟩:=g2;exact⟨_,rfl,s',rfl⟩
 | some s1=>
  rw [hq]at g2;have g2:r1= .inl (tupP f s1):=g2;subst g2;obtain⟨w1,u1⟩:=visF_k hq hs hu;rw [bsm];dsimp only [tupP];obtain⟨r2,q1,q2⟩:=spotsP hv1 (d:=d) (l:=tk++upto z (dV d)) (z:=z+dV d) (by rw [a0T,gY];omega) (by omega) d.AR [] (AA+1) s1 rfl (by omega) (by simp;omega) w1 u1
  rw [show mY (eC (AA+1)) d (z+dV d) (tk++upto z (dV d)) (AA+1) 0 f.AF f.AQ f.AD f.AE f.AG s1.Ai s1.Ab s1.AZ f.AF s1.nd f.AE f.AG=_ from q1,bsm];cases hq2:fB (dC false f k) s1 (d.AR.map fun p=>some (p.AV,tk++upto z (dV d),z+dV d))with
  | none=>rw [hq2]at q2;obtain⟨s',rfl⟩:=q2;exact⟨_,rfl,s',rfl⟩
  | some s2=>
   rw [hq2]at q2;have q2:r2= .inl (tupP f s2):=q2;subst q2;obtain⟨w2,u2⟩:=visF_k hq2 w1 u1;rw [bsm];dsimp only [tupP];obtain⟨r3,p1,p2⟩:=aGL hv0 hf (l:=l++upto z (dV d)) (z:=z+dV d) (by rw [a0T,gY];omega) (by omega) hy2 w2 u2
   rw [uS (by rw [gY];omega),bsm,show lN (AA+1) (⟨(⟨f.AF,f.AQ,f.AD,f.AE,f.AG⟩:AH),s2.Ai,s2.Ab,s2.AZ,(⟨f.AF,s2.nd,f.AE,f.AG⟩:AI)⟩:Ae) y.AM (l++upto z (dV d)) (z+dV d)=_ from p1,bsm];exact⟨_,rfl,p2⟩
theorem argsP {f:AH} {AA:Nat} (hf:10000000<AA) {s:FS} {n:Int} {l tk:List Int} {y:Aj} (AC:List AS):∀ (AB acc:List AS) (K:Nat),y.AU=AB++AC->AC.length<K->AB.length+AC.length<=3000000->acc.length+AC.length<=3000000->(∀ e∈AC,nE e<=2000000) ->
 ∃ r,lX AA (cvP f s) n l y tk K AB.length acc=some r/\match opL l AC with | some a=>r= .inl (acc++a) | none=>∃ s',r= .inr (cvP f s',false):=by
 induction AC with
 | nil=>
  intro AB acc K hd hk _ _ _;obtain _ | K:=K
  ·omega
  exact⟨_,by rw [lX,hd,a2e (by simp)],by simp [opL]⟩
 | cons e AC ih=>
  intro AB acc K hd hk hB hA he;obtain _ | K:=K
  ·omega
  simp only [a0U]at hk hB hA;obtain⟨e',b,h1,h2⟩:=exp_p AA e l (by have:=he e (.head _);omega) (he e (.head _))
  rw [lX,a2f (by rw [hd];exact bA _ _ _),show idx y.AU (AB.length:Int)=some e from by rw [hd];exact bC _ _ _,bsm,kK,h1,bsm];cases b with
  | false=>
   rw [a2e (by simp)]at h2;refine⟨_,rfl,?_⟩;rw [opL,h2];exact⟨⟨s.AZ.set n.toNat true,s.Ai.set n.toNat l,s.Ab.set n.toNat tk,s.nd⟩,rfl⟩
  | true=>
   rw [a2f rfl]at h2;obtain⟨r,g1,g2⟩:=ih (AB++[e]) (acc++[e']) K (by rw [hd,bJ]) (by omega) (by simp;omega) (by simp;omega) (fun x hx=>he x (.tail _ hx))
   refine⟨r,?_,?_⟩
   ·rw [a2a,kK,dS (by simp;omega),bsm,aQ (by omega),bsm,aV];exact g1
   ·rw [opL,h2,bsm];cases ho:opL l AC with
    | none=>rw [ho]at g2;exact g2
    | some a=>rw [ho]at g2;dsimp only at g2 ⊢;rw [g2];simp
def aCS (AA:Nat) (a0:Ae) (a1:Int) (a2:List Int) (a3:Int) (y4:Aj) (y8 x1:List Int) (x3:Int) (y10:List Int):Option (Ae × Bool):=
 (lX AA a0 a1 a2 y4 y8 AA 0 []).bind fun o=>match o with
 | Sum.inr r=>some r
 | Sum.inl x5=>
 (idx a0.AK.AD a1).bind fun y15=>
 if y4.Op=4 then
  ((rT AA) (⟨(⟨a0.AH.AF,a0.AH.AQ,a0.AH.AD,a0.AH.AE,a0.AH.AG⟩:AH),a0.Ai.set a1.toNat a2,a0.Ab.set a1.toNat y8,a0.AZ.set a1.toNat true,(⟨a0.AK.AF,a0.AK.AD.set a1.toNat (⟨y4.Op,x3,x5,y10⟩:AW),a0.AK.AE,a0.AK.AG⟩:AI)⟩:Ae) a1 a2 a3).bind fun y16=>
  some ((⟨(⟨y16.1.AH.AF,y16.1.AH.AQ,y16.1.AH.AD,y16.1.AH.AE,y16.1.AH.AG⟩:AH),y16.1.Ai,y16.1.Ab,y16.1.AZ,(⟨y16.1.AK.AF,y16.1.AK.AD,y16.1.AK.AE,y16.1.AK.AG⟩:AI)⟩:Ae),y16.2)
 else
  ((lN AA) (⟨(⟨a0.AH.AF,a0.AH.AQ,a0.AH.AD,a0.AH.AE,a0.AH.AG⟩:AH),a0.Ai.set a1.toNat a2,a0.Ab.set a1.toNat y8,a0.AZ.set a1.toNat true,(⟨a0.AK.AF,a0.AK.AD.set a1.toNat (⟨y4.Op,x3,x5,y10⟩:AW),a0.AK.AE,a0.AK.AG⟩:AI)⟩:Ae) y4.AM x1 a3).bind fun y17=>
  some ((⟨(⟨y17.1.AH.AF,y17.1.AH.AQ,y17.1.AH.AD,y17.1.AH.AE,y17.1.AH.AG⟩:AH),y17.1.Ai,y17.1.Ab,y17.1.AZ,(⟨y17.1.AK.AF,y17.1.AK.AD,y17.1.AK.AE,y17.1.AK.AG⟩:AI)⟩:Ae),y17.2)
theorem aEr {α:Type} {xs:List α} {n:Int} {y v:α} (h:idx xs n=some y):idx (xs.set n.toNat v) n=some v:=by
 obtain⟨j,rfl,hj,hlt⟩:=mO h
 rw [a0r]
 exact jU (by rw [List.getElem?_set_self hlt])
theorem aGK {f:AH} {k AA:Nat} (hm:SmF f) (hD:∀ d∈f.AE,d.AN.length<=30/\d.AR.length<=30) (hv2:PV f k (eC (AA+1))) (hv0:PV f k (eC AA)) (hf:10000000<AA) {s:FS} {n:Int} {l tk:List Int} {z m:Int} {y:Aj}
 (hl:(l.length:Int)<=z) (ht:(tk.length:Int)<=z) (hz:z+6000100*(k+1)<=400000000) (hy:idx f.AD n=some y) (hs:WF f s) (hsn:idx s.AZ n=some false) (hu:unF s<=k+1) (hI:opI y l tk=some m):
 ∃ r,aCS (AA+2) (cvP f s) n l z y tk (iG y l tk) m y.AM=some r/\ResP f ((opN y l tk).bind fun w=>mR false f (dC false f k) (s.put n l tk w) y l tk z) r:=by
 obtain⟨a1,a2,a3⟩:=hm.args y (gI hy)
 obtain⟨r,g1,g2⟩:=argsP (f:=f) (s:=s) (n:=n) (l:=l) (tk:=tk) (y:=y) (AA:=AA+2) (by omega) y.AU [] [] (AA+2) rfl (by omega) (by simp;omega) (by simp;omega) a3
 simp only [a0Y,a0q,a1p]at g1 g2
 unfold aCS
 rw [g1,bsm,opN,hI,bsm]
 cases ho:opL l y.AU with
 | none=>rw [ho]at g2;obtain⟨s',rfl⟩:=g2;exact⟨_,rfl,s',rfl⟩
 | some a=>
  rw [ho]at g2;dsimp only at g2
  subst g2;have hin:=xW hy;obtain⟨w0,hw0⟩:=jX (xs:=s.nd) (i:=n) hin.1 (by rw [hs.nd];exact hin.2)
  obtain⟨t0,ht0⟩:=jX (xs:=s.Ab) (i:=n) hin.1 (by rw [hs.Ab];exact hin.2)
  have hp:=aGC (l:=l) (t:=tk) (z:=(⟨y.Op,m,a,y.AM⟩:AW)) hsn;rw [bsm,bsm];dsimp only
  rw [show idx (cvP f s).AK.AD n=some w0 from hw0,bsm];by_cases h4:y.Op=4
  ·obtain⟨r,q1,q2⟩:=defP_S hm hD hv2 hv0 hf (s:=s.put n l tk ⟨y.Op,m,a,y.AM⟩) (n:=n) (l:=l) (tk:=tk) hl ht hz hy h4 (aEr ht0) hs.put (by omega)
   rw [a2f h4,show rT (AA+2) (⟨(⟨(cvP f s).AH.AF,(cvP f s).AH.AQ,(cvP f s).AH.AD,(cvP f s).AH.AE,(cvP f s).AH.AG⟩:AH),(cvP f s).Ai.set n.toNat l,(cvP f s).Ab.set n.toNat tk,(cvP f s).AZ.set n.toNat true,(⟨(cvP f s).AK.AF,(cvP f s).AK.AD.set n.toNat (⟨y.Op,m,a,y.AM⟩:AW),(cvP f s).AK.AE,(cvP f s).AK.AG⟩:AI)⟩:Ae) n l z=_ from q1,bsm];exact⟨_,rfl,q2⟩
  ·have hw:(iG y l tk).length<=z:=by unfold iG;split <;> omega
   obtain⟨r,q1,q2⟩:=aGL hv2 (by omega) (l:=iG y l tk) (z:=z) hw (by omega) a2 (s:=s.put n l tk ⟨y.Op,m,a,y.AM⟩) hs.put (by omega)
   rw [a2e h4,show lN (AA+2) (⟨(⟨(cvP f s).AH.AF,(cvP f s).AH.AQ,(cvP f s).AH.AD,(cvP f s).AH.AE,(cvP f s).AH.AG⟩:AH),(cvP f s).Ai.set n.toNat l,(cvP f s).Ab.set n.toNat tk,(cvP f s).AZ.set n.toNat true,(⟨(cvP f s).AK.AF,(cvP f s).AK.AD.set n.toNat (⟨y.Op,m,a,y.AM⟩:AW),(cvP f s).AK.AE,(cvP f s).AK.AG⟩:AI)⟩:Ae) y.AM (iG y l tk) z=_ from q1,bsm];refine⟨_,rfl,?_⟩;unfold mR;rw [a2e h4];exact q2
theorem pnode {f:AH} {k AA:Nat} (hm:SmF f) (hD:∀ d∈f.AE,d.AN.length<=30/\d.AR.length<=30) (hv2:PV f k (eC (AA+1))) (hv0:PV f k (eC AA)) (hf:10000000<AA):PV f (k+1) (eC (AA+3)):=by
 refine⟨fun s n l z hs hu hl hz=>?_⟩
 rw [eC]
 by_cases c1:n<0
 ·rw [a2f c1,dC,a2e (by omega)];exact⟨_,rfl,s,rfl⟩
 rw [a2e c1]
 by_cases c2:(f.AD.length:Int)<=n
 ·rw [a2f (show((cvP f s).AH.AD.length:Int)<=n from c2),dC,a2e (by omega)];exact⟨_,rfl,s,rfl⟩
 rw [a2e (show ¬ ((cvP f s).AH.AD.length:Int)<=n from c2)]
 obtain⟨q,hq⟩:=jX (xs:=s.AZ) (i:=n) (by omega) (by rw [hs.AZ];omega)
 obtain⟨l0,hl0⟩:=jX (xs:=s.Ai) (i:=n) (by omega) (by rw [hs.Ai];omega)
 obtain⟨t0,ht0⟩:=jX (xs:=s.Ab) (i:=n) (by omega) (by rw [hs.Ab];omega)
 obtain⟨y,hy⟩:=jX (xs:=f.AD) (i:=n) (by omega) (by omega)
 rw [show idx (cvP f s).AZ n=some q from hq,bsm]
 cases q with
 | true=>
  rw [a2a,dC,a2e (by rw [hq];rintro⟨_,_,h⟩;cases h)];exact⟨_,rfl,s,rfl⟩
 | false=>
  have hfv:yY false y l->dC false f (k+1) s n l z=(opN y l (pick l y.AQ)).bind fun w=>mR false f (dC false f k) (s.put n l (pick l y.AQ) w) y l (pick l y.AQ) z:=fun h=>by
   rw [dC,a2f ⟨by omega,by omega,hq⟩,hy,bsm,a2f h]
  have hfn:¬ yY false y l->dC false f (k+1) s n l z=none:=fun h=>by
   rw [dC,a2f ⟨by omega,by omega,hq⟩,hy,bsm,a2e h]
  have hT:=hm.takes y (gI hy);obtain⟨a1,a2,a3⟩:=hm.args y (gI hy);rw [a1Z,bsm,show idx (cvP f s).Ai n=some l0 from hl0,bsm,show idx (cvP f s).AH.AD n=some y from hy,bsm,aCG,bsm,aHm (l:=y.AQ) (b:=l.length) (by omega) (by omega)];by_cases hr:dN l.length none y.AQ=true
  ·have fin:(eU y.Op=true\/y.AQ=[])->∃ r,((vV (AA+2) l y.AQ).bind fun y8=>
    (idx (cvP f s).Ab n).bind fun y9=>
    (gQ y.AM).bind fun y10=>
    ((if y.Op=6 then
      some (decide (y.Op=6))
    else
     some (decide (y.Op=8))).bind fun x2=>
    bif x2 then
     (idx ((cvP f s).Ab.set n.toNat y8) n).bind fun y11=>
     some y11
    else
     some l).bind fun x1=>
    ((if y.Op=2 then
      some (decide (y.Op=2))
    else
     if y.Op=6 then
      some (decide (y.Op=6))
     else
      some (decide (y.Op=8))).bind fun x4=>
    bif x4 then
     if y.N<0 then
      (some ((⟨(⟨(cvP f s).AH.AF,(cvP f s).AH.AQ,(cvP f s).AH.AD,(cvP f s).AH.AE,(cvP f s).AH.AG⟩:AH),(cvP f s).Ai.set n.toNat l,(cvP f s).Ab.set n.toNat y8,(cvP f s).AZ.set n.toNat true,(⟨(cvP f s).AK.AF,(cvP f s).AK.AD,(cvP f s).AK.AE,(cvP f s).AK.AG⟩:AI)⟩:Ae),false)).bind fun r=>some (Sum.inr r)
     else
      if (x1.length:Int)<=y.N then
       (some ((⟨(⟨(cvP f s).AH.AF,(cvP f s).AH.AQ,(cvP f s).AH.AD,(cvP f s).AH.AE,(cvP f s).AH.AG⟩:AH),(cvP f s).Ai.set n.toNat l,(cvP f s).Ab.set n.toNat y8,(cvP f s).AZ.set n.toNat true,(⟨(cvP f s).AK.AF,(cvP f s).AK.AD,(cvP f s).AK.AE,(cvP f s).AK.AG⟩:AI)⟩:Ae),false)).bind fun r=>some (Sum.inr r)
      else
       (idx x1 y.N).bind fun y12=>
       some (Sum.inl y12)
    else
     some (Sum.inl y.N)).bind fun o=>match o with
    | Sum.inr r=>some r
    | Sum.inl x3=>aCS (AA+2) (cvP f s) n l z y y8 x1 x3 y10)=some r/\ResP f (dC false f (k+1) s n l z) r:=fun hk=>by
    rw [hfv ⟨⟨hk,hr⟩,fun h=>by cases h⟩]
    have hpl:(pick l y.AQ).length<=l.length:=by
     rw [pick_len];have:=aH6 (b:=l.length) (by omega) hr;omega
    rw [pick_p (by omega) (by omega) (aGF hr),bsm,show idx (cvP f s).Ab n=some t0 from ht0,bsm,gQ,a1p,dS (by omega),bsm,bsm,
     show(if y.Op=6 then some (decide (y.Op=6)) else some (decide (y.Op=8)):Option Bool)=some (decide (y.Op=6\/y.Op=8))from by
      by_cases h6:y.Op=6
      ·rw [a2f h6,a2c h6,a2c (.inl h6)]
      ·rw [a2e h6];congr 1;rw [decide_eq_decide];omega,bsm,
     show(bif decide (y.Op=6\/y.Op=8)then(idx ((cvP f s).Ab.set n.toNat (pick l y.AQ)) n).bind fun y11=>some y11 else some l:Option (List Int))=some (iG y l (pick l y.AQ))from by
      unfold iG;by_cases h6:y.Op=6\/y.Op=8
      ·rw [a2c h6,a2a,a2f h6,show idx ((cvP f s).Ab.set n.toNat (pick l y.AQ)) n=some (pick l y.AQ)from aEr ht0,bsm]
      ·rw [a2b h6,a1Z,a2e h6],bsm,
     show(if y.Op=2 then some (decide (y.Op=2)) else some (decide (y.Op=6\/y.Op=8)):Option Bool)=some (decide (y.Op=2\/y.Op=6\/y.Op=8))from by
      by_cases h2:y.Op=2
      ·rw [a2f h2,a2c h2,a2c (.inl h2)]
      ·rw [a2e h2];congr 1;rw [decide_eq_decide];omega,bsm]
    by_cases hx:y.Op=2\/y.Op=6\/y.Op=8
    ·have hI:opI y l (pick l y.AQ)=idx (iG y l (pick l y.AQ)) y.N:=by
      unfold opI iG;by_cases h2:y.Op=2
      ·rw [a2f h2,a2e (by omega)]
      ·rw [a2e h2,a2f (by omega),a2f (by omega)]
     rw [a2c hx,a2a];by_cases e1:y.N<0
     ·rw [a2f e1,opN,hI,show idx (iG y l (pick l y.AQ)) y.N=none from by unfold idx;rw [a2e (by omega)]];exact⟨_,rfl,⟨s.AZ.set n.toNat true,s.Ai.set n.toNat l,s.Ab.set n.toNat (pick l y.AQ),s.nd⟩,rfl⟩
     ·rw [a2e e1];by_cases e2:((iG y l (pick l y.AQ)).length:Int)<=y.N
      ·have:idx (iG y l (pick l y.AQ)) y.N=none:=by
        cases hi:idx (iG y l (pick l y.AQ)) y.N with
        | none=>rfl
        | some y=>have:=xW hi;omega
       rw [a2f e2,opN,hI,this];exact⟨_,rfl,⟨s.AZ.set n.toNat true,s.Ai.set n.toNat l,s.Ab.set n.toNat (pick l y.AQ),s.nd⟩,rfl⟩
      ·obtain⟨m,hmm⟩:=jX (xs:=iG y l (pick l y.AQ)) (i:=y.N) (by omega) (by omega)
       rw [a2e e2,hmm,bsm,bsm];exact aGK hm hD hv2 hv0 hf hl (by omega) (by omega) hy hs hq hu (by rw [hI,hmm])
    ·rw [a2b hx,a1Z,bsm];exact aGK hm hD hv2 hv0 hf hl (by omega) (by omega) hy hs hq hu (by unfold opI;rw [a2e (by omega),a2e (by omega)])
   cases ht:eU y.Op with
   | false=>
    rw [a0n,a2a];by_cases hk:y.AQ=[]
    ·rw [a2e (by rw [hk];simp),hr,bsm,a2a,bsm];exact fin (.inr hk)
    ·have hno:¬ yY false y l:=fun h=>by
      rcases h.1.1 with h | h
      ·rw [ht]at h;cases h
      ·exact hk h
     rw [a2f (by have:=List.length_pos_iff.2 hk;omega),hfn hno];exact⟨_,rfl,⟨s.AZ.set n.toNat true,s.Ai.set n.toNat l,s.Ab,s.nd⟩,rfl⟩
   | true=>
    rw [a0o,a1Z,hr,bsm,a2a,bsm];exact fin (.inl ht)
  ·have hrf:dN l.length none y.AQ=false:=Bool.eq_false_iff.2 hr;rw [hfn (fun h=>hr h.1.2)];cases ht:eU y.Op with
   | false=>
    rw [a0n,a2a];by_cases hk:y.AQ=[]
    ·rw [a2e (by rw [hk];simp),hrf,bsm,a1Z];exact⟨_,rfl,⟨s.AZ.set n.toNat true,s.Ai.set n.toNat l,s.Ab,s.nd⟩,rfl⟩
    ·rw [a2f (by have:=List.length_pos_iff.2 hk;omega)];exact⟨_,rfl,⟨s.AZ.set n.toNat true,s.Ai.set n.toNat l,s.Ab,s.nd⟩,rfl⟩
   | true=>
    rw [a0o,a1Z,hrf,bsm,a1Z];exact⟨_,rfl,⟨s.AZ.set n.toNat true,s.Ai.set n.toNat l,s.Ab,s.nd⟩,rfl⟩
theorem pnode0 {f:AH} {AA:Nat}:PV f 0 (eC (AA+1)):=by
 refine⟨fun s n l z hs hu hl hz=>?_⟩
 rw [eC,dC]
 by_cases c1:n<0
 ·rw [a2f c1];exact⟨_,rfl,s,rfl⟩
 rw [a2e c1]
 by_cases c2:(f.AD.length:Int)<=n
 ·rw [a2f (show((cvP f s).AH.AD.length:Int)<=n from c2)];exact⟨_,rfl,s,rfl⟩
 rw [a2e (show ¬ ((cvP f s).AH.AD.length:Int)<=n from c2)]
 obtain⟨q,hq⟩:=jX (xs:=s.AZ) (i:=n) (by omega) (by rw [hs.AZ];omega)
 rw [show idx (cvP f s).AZ n=some q from hq,bsm]
 cases q with
 | true=>exact⟨_,rfl,s,rfl⟩
 | false=>have:=unF_pos hq;omega
theorem pvisF {f:AH} (hm:SmF f) (hD:∀ d∈f.AE,d.AN.length<=30/\d.AR.length<=30):∀ (k AA:Nat),10000000+3*k<AA->PV f k (eC AA)
 | 0,AA+1,_=>pnode0
 | k+1,AA+3,h=>pnode hm hD (pvisF hm hD k (AA+1) (by omega)) (pvisF hm hD k AA (by omega)) (by omega)
open Go.SX Go.SW Go.Dt
theorem aGl {p:AI} {sz:List Int} {AT AX:List Bool} (hl:sz.length=p.AD.length) (hB:sz.length<=1000):∀ (d i k:Nat),i+d=sz.length->d<k->mA ⟨p,sz,AT,AX⟩ p (fun x=>sP x.1 x.2) k (sz.take i) i=some sz
 | 0,i,k,h,hk=>by
  obtain _ | k:=k
  ·omega
  rw [mA,a2e (by omega),a1z (by omega)]
 | d+1,i,k,h,hk=>by
  obtain _ | k:=k
  ·omega
  have hi:i<sz.length:=by omega
  rw [mA,a2f (by omega)];dsimp only
  rw [sP,show idx sz (i:Int)=some sz[i]from jU (a0I hi),bsm,bsm];have hr:dG (sz.take i++[sz[i]])=some (sz.take (i+1)):=by
   have:sz.take i++[sz[i]]=sz.take (i+1):=by rw [List.take_add_one,a0I hi];rfl
   rw [this];unfold dG;rw [a2f (by simp;omega)]
  rw [hr,bsm,aQ (by omega),bsm];exact aGl hl hB d (i+1) k (by omega) (by omega)
theorem aGt {p:AI} (hp:SmP p) {s:VS} (h:dZ p=some s) (hl:s.sz.length=p.AD.length) (hB:p.AD.length<=60):wH F p=some (s.sz,0):=by
 have e:=aGl (p:=p) (sz:=s.sz) (AT:=s.AT) (AX:=s.AX) hl (by omega) s.sz.length 0 F (by omega) (by rw [hl];show _<1000000000;omega)
 rw [List.take_zero]at e
 rw [wH,aBT,aBp,show(⟨p.AF,p.AD,p.AE,p.AG⟩:AI)=p from rfl,aB3 hp,bsm,h]
 simp only [jL]
 rw [zK]
 have e':mA ⟨p,s.sz,s.AT,s.AX⟩ p (fun x=>sP x.1 x.2) F [] 0=some s.sz:=e
 rw [e',bsm,bsm,bsm,bsm]
abbrev E:=List (Option (Int × Int))
def chs (m:Int) (d:AO):E:=(List.range d.AN.length).map fun c:Nat=>some (m,(c:Int))
def inE (e:E) (m:Int) (d:AO):E:=e++chs m d++List.replicate d.AR.length none
def ruE (e:E) (m:Int) (d:AO) (r:Am):E:=inE e m d++List.replicate (brs d.AN r.AY).toNat none
def subs (p:AI) (x:AW) (e:E):List (Int × E):=
 if x.Op=4 then match idx p.AE x.N with
  | some d=>d.AP.map (fun r=>(r.AV,ruE e x.N d r))++(d.AR.map (fun y=>(y.AV,inE e x.N d))++x.AM.map (fun k=>(k,inE e x.N d)))
  | none=>[]
 else x.AM.map (fun k=>(k,e))
def okT (p:AI) (x:AW) (size:Int):Prop:=
 ((x.Op=1\/x.Op=7)/\x.AM.length=0)\/((x.Op=3\/x.Op=5)/\x.AM.length=2)\/(x.Op=2/\x.AU.length<=3/\x.AM.length=0/\0<=x.N/\x.N<size)\/((x.Op=6\/x.Op=8)/\x.AM.length=1)\/(x.Op=4/\x.AM.length=1/\0<=x.N/\∃ d,idx p.AE x.N=some d/\okD d=true)
def Tr (p:AI):Nat->Int × E->Prop
 | 0,_=>False
 | h+1,q=>∃ x,idx p.AD q.1=some x/\0<=q.1/\okT p x q.2.length/\∀ k∈subs p x q.2,Tr p h k
structure Chg (s s':VS) (N:List (Int × E)) (D:List (Int × Int)):Prop where
 nn:(N.map (·.1)).Nodup
 dn:(D.map (·.1)).Nodup
 new:∀ q∈N,idx s.AT q.1=some false/\idx s'.AT q.1=some true/\idx s'.sz q.1=some (q.2.length:Int)
 newd:∀ q∈D,idx s.AX q.1=some false/\idx s'.AX q.1=some true
 old:∀ i,i ∉ N.map (·.1)->idx s'.AT i=idx s.AT i/\idx s'.sz i=idx s.sz i
 oldd:∀ i,i ∉ D.map (·.1)->idx s'.AX i=idx s.AX i
 ls:s'.sz.length=s.sz.length
 lm:s'.AT.length=s.AT.length
theorem Chg.nil {s:VS}:Chg s s [] []:=⟨List.nodup_nil,List.nodup_nil,fun i h=>(by cases h),fun i h=>(by cases h),fun i _=>⟨rfl,rfl⟩,fun i _=>rfl,rfl,rfl⟩
theorem Chg.trans {s s1 s2:VS} {N N':List (Int × E)} {D D':List (Int × Int)} (h:Chg s s1 N D) (k:Chg s1 s2 N' D'):Chg s s2 (N++N') (D++D'):=by
 have hd:∀ i∈N.map (·.1),i ∉ N'.map (·.1):=fun i hi hi'=>by
  obtain⟨q,hq,rfl⟩:=a1k.1 hi;obtain⟨q',hq',e⟩:=a1k.1 hi';have a:=(h.new q hq).2.1;have b:=(k.new q' hq').1;rw [e,a]at b;cases b
 have hdd:∀ i∈D.map (·.1),i ∉ D'.map (·.1):=fun i hi hi'=>by
  obtain⟨q,hq,rfl⟩:=a1k.1 hi;obtain⟨q',hq',e⟩:=a1k.1 hi';have a:=(h.newd q hq).2;have b:=(k.newd q' hq').1;rw [e,a]at b;cases b
 refine⟨?_,?_,fun q hq=>?_,fun q hq=>?_,fun i hi=>?_,fun i hi=>?_,by rw [k.ls,h.ls],by rw [k.lm,h.lm]⟩
 ·rw [a1a];exact a1q.2 ⟨h.nn,k.nn,fun a ha b hb e=>hd a ha (e ▸ hb)⟩
 ·rw [a1a];exact a1q.2 ⟨h.dn,k.dn,fun a ha b hb e=>hdd a ha (e ▸ hb)⟩
 ·rcases a1f.1 hq with hq | hq
  ·have o:=k.old q.1 (hd _ (a1k.2 ⟨q,hq,rfl⟩));obtain⟨a,b,c⟩:=h.new q hq;exact⟨a,by rw [o.1,b],by rw [o.2,c]⟩
  ·have o:=h.old q.1 (fun z=>hd _ z (a1k.2 ⟨q,hq,rfl⟩))
   obtain⟨a,b,c⟩:=k.new q hq;exact⟨by rw [<- o.1,a],b,c⟩
 ·rcases a1f.1 hq with hq | hq
  ·have o:=k.oldd q.1 (hdd _ (a1k.2 ⟨q,hq,rfl⟩));obtain⟨a,b⟩:=h.newd q hq;exact⟨a,by rw [o,b]⟩
  ·have o:=h.oldd q.1 (fun z=>hdd _ z (a1k.2 ⟨q,hq,rfl⟩))
   obtain⟨a,b⟩:=k.newd q hq;exact⟨by rw [<- o,a],b⟩
 ·rw [a1a,a1f,not_or]at hi;have a:=h.old i hi.1;have b:=k.old i hi.2;exact⟨by rw [b.1,a.1],by rw [b.2,a.2]⟩
 ·rw [a1a,a1f,not_or]at hi;rw [k.oldd i hi.2,h.oldd i hi.1]
def mark (s:VS) (n z:Int) (x:AW):VS:=⟨s.sz.set n.toNat z,s.AT.set n.toNat true,if x.Op=4 then s.AX.set x.N.toNat true else s.AX⟩
theorem aDG {g:VS->Int->Int->Option VS}:∀ (l m:List (Int × Int)) (s:VS),cO g s (l++m)=(cO g s l).bind fun s=>cO g s m
 | [],m,s=>rfl
 | x :: l,m,s=>by
  simp only [a0w,cO];cases g s x.1 x.2 with
  | none=>rfl
  | some s1=>exact aDG l m s1
theorem sN {α:Type} {l:List α} {n:Int} {b:α} (h0:0<=n) (h:n<l.length):idx (l.set n.toNat b) n=some b:=by
 have:idx (l.set n.toNat b) (n.toNat:Int)=some b:=jU (by rw [a0N,a2f rfl,a2f (by omega)])
 rwa [a0s h0]at this
theorem sL {α:Type} {l:List α} {n i:Int} {b:α} (h0:0<=n) (h:i≠n):idx (l.set n.toNat b) i=idx l i:=by
 unfold idx
 split
 ·rename_i hi;exact a0O (by omega)
 ·rfl
theorem eT {α:Type} {l:List α} {n:Int} {a:α} (h:idx l n=some a):0<=n/\n<l.length:=by
 by_cases c:0<=n/\n<l.length
 ·exact c
 ·rw [aCt c]at h;cases h
open Go.SX Go.SW Go.Dt
def chD (d:AO) (z:Int):List (Int × Int):=d.AP.map (fun r=>(r.AV,z+own d+brs d.AN r.AY))++d.AR.map (fun y=>(y.AV,z+own d))
def gE (p:AI) (x:AW) (z:Int):List (Int × Int):=
 if x.Op=4 then match idx p.AE x.N with
  | some d=>chD d z++x.AM.map (fun k=>(k,z+own d))
  | none=>[]
 else x.AM.map (fun k=>(k,z))
structure Ok1 (p:AI) (x:AW) (z:Int):Prop where
 def_:x.Op=4->∃ d,idx p.AE x.N=some d/\okD d=true
 name:x.Op=2\/x.Op=6\/x.Op=8->0<=x.N/\x.N<z
 args:x.AU.all (okE z)=true
 la:x.AU.length<=3
 lk:x.AM.length<=2
 stop:x.Op=7->x.AM=[]
structure gZ (p:AI) (sz:List Int) (rk:Int->Nat) (i:Int) (x:AW) (z:Int):Prop where
 node:idx p.AD i=some x
 size:idx sz i=some z
 ok:Ok1 p x z
 pos:0<=z
 below:∀ c∈gE p x z,idx sz c.1=some c.2/\rk c.1<rk i/\∃ y,idx p.AD c.1=some y
def Nw (s s':VS) (i:Int):Prop:=idx s.AT i=some false/\idx s'.AT i=some true
structure Kp (s s':VS):Prop where
 old:∀ i,idx s.AT i=some true->idx s'.AT i=some true/\idx s'.sz i=idx s.sz i
 lm:s'.AT.length=s.AT.length
theorem Kp.refl {s:VS}:Kp s s:=⟨fun _ h=>⟨h,rfl⟩,rfl⟩
theorem Kp.trans {a b c:VS} (h:Kp a b) (k:Kp b c):Kp a c:=⟨fun i hi=>⟨(k.old i (h.old i hi).1).1,((k.old i (h.old i hi).1).2).trans (h.old i hi).2⟩,k.lm.trans h.lm⟩
theorem aDv {l m:List Bool} (h:m.length=l.length) {i:Int} (hi:idx m i=some true):idx l i=some true\/idx l i=some false:=by
 have h1:=eT hi
 obtain⟨b,hb⟩:=fT (xs:=l) h1.1 (by omega)
 cases b
 ·exact .inr hb
 ·exact .inl hb
structure Vo (p:AI) (f:Nat) (Z:Int) (s s':VS) (rk:Int->Nat):Prop where
 kp:Kp s s'
 good:∀ i,Nw s s' i->rk i<f/\∃ x z,gZ p s'.sz rk i x z/\z+100*(rk i:Int)<=Z/\∀ c∈gE p x z,Nw s s' c.1
theorem aGO {p:AI} {f:Nat} {zm:Int} (ih:∀ s s' n z,s.sz.length=s.AT.length->0<=z->vis p f s n z=some s'->s'.sz.length=s'.AT.length/\∃ rk,Vo p f (z+100*f) s s' rk/\Nw s s' n/\idx s'.sz n=some z):
 ∀ (l:List (Int × Int)) (s s':VS),s.sz.length=s.AT.length->(∀ c∈l,0<=c.2/\c.2<=zm)->cO (vis p f) s l=some s'->s'.sz.length=s'.AT.length/\∃ rk,Vo p f (zm+100*f) s s' rk/\∀ c∈l,Nw s s' c.1/\idx s'.sz c.1=some c.2
 | [],s,s',hs,_,h=>by
  cases h;exact⟨hs,fun _=>0,⟨.refl,fun i hi=>by have:=hi.1.symm.trans hi.2;cases this⟩,fun c hc=>by cases hc⟩
 | c :: l,s,s',hs,hz,h=>by
  obtain⟨s1,e1,e2⟩:=bind_some h;obtain⟨l1,rk1,v1,n1,z1⟩:=ih s s1 c.1 c.2 hs (hz c (.head _)).1 e1;have hzc:=(hz c (.head _)).2;obtain⟨l2,rk2,v2,n2⟩:=aGO ih l s1 s' l1 (fun c hc=>hz c (.tail _ hc)) e2
  refine⟨l2,fun i=>if idx s1.AT i=some true then rk1 i else rk2 i,⟨v1.kp.trans v2.kp,fun i hi=>?_⟩,fun c' hc'=>?_⟩
  ·by_cases hm:idx s1.AT i=some true
   ·obtain⟨h1,x,z,g,hZ,hb⟩:=v1.good i ⟨hi.1,hm⟩;rw [a2f hm];refine⟨h1,x,z,⟨g.node,(v2.kp.old i hm).2.trans g.size,g.ok,g.pos,fun c hc=>?_⟩,by omega,fun c hc=>?_⟩
    ·have hc1:=(hb c hc).2;obtain⟨q1,q2,q3⟩:=g.below c hc;refine⟨(v2.kp.old c.1 hc1).2.trans q1,?_,q3⟩;simp only [a2f hm,a2f hc1];exact q2
    ·exact⟨(hb c hc).1,(v2.kp.old c.1 (hb c hc).2).1⟩
   ·have hm2:idx s1.AT i=some false:=by
     rcases aDv v2.kp.lm hi.2 with h | h
     ·exact absurd h hm
     ·exact h
    obtain⟨h1,x,z,g,hZ,hb⟩:=v2.good i ⟨hm2,hi.2⟩;rw [a2e hm];refine⟨h1,x,z,⟨g.node,g.size,g.ok,g.pos,fun c hc=>?_⟩,hZ,fun c hc=>?_⟩
    ·have hc1:=(hb c hc).1;obtain⟨q1,q2,q3⟩:=g.below c hc;refine⟨q1,?_,q3⟩;simp only [a2e hm,hc1,a1W,Bool.false_eq_true,if_false];exact q2
    ·refine⟨?_,(hb c hc).2⟩;rcases aDv (l:=s.AT) (m:=s'.AT) (v2.kp.lm.trans v1.kp.lm) (hb c hc).2 with h | h
     ·have:=(v1.kp.old _ h).1.symm.trans (hb c hc).1;cases this
     ·exact h
  ·rcases a1i.1 hc' with rfl | hc'
   ·exact⟨⟨n1.1,(v2.kp.old _ n1.2).1⟩,(v2.kp.old _ n1.2).2.trans z1⟩
   ·obtain⟨h1,h2⟩:=n2 c' hc';refine⟨⟨?_,h1.2⟩,h2⟩;rcases aDv (l:=s.AT) (m:=s'.AT) (v2.kp.lm.trans v1.kp.lm) h1.2 with h | h
    ·have:=(v1.kp.old _ h).1.symm.trans h1.1;cases this
    ·exact h
theorem aCA (d:AO):0<=own d:=by unfold own;omega
theorem chs2_pos {p:AI} {x:AW} {z:Int} (hz:0<=z) (hd:x.Op=4->∃ d,idx p.AE x.N=some d/\okD d=true):∀ c∈gE p x z,0<=c.2/\c.2<=z+69:=by
 intro c hc
 unfold gE at hc
 split at hc
 ·rename_i h4;obtain⟨d,e,ok⟩:=hd h4;rw [e]at hc;simp only [chD,a1f,a1k]at hc;have:=aCA d;have hl:=gU ok;have ho:own d<=60:=by unfold own;omega
  rcases hc with(⟨r,hr,rfl⟩ | ⟨y,hy,rfl⟩) | ⟨k,hk,rfl⟩
  ·have b:=wK (ch:=d.AN) (js:=r.AY) (hl.2.2.2.2 r hr).2;have:=(hl.2.2.2.2 r hr).1;simp only;omega
  ·simp only;omega
  ·simp only;omega
 ·simp only [a1k]at hc;obtain⟨k,_,rfl⟩:=hc;simp only;omega
theorem okN_ok1 {p:AI} {s:VS} {x:AW} {z:Int} (h:okN p s x z) (hd:x.Op=4->∃ d,idx p.AE x.N=some d/\okD d=true):Ok1 p x z:=by
 have ⟨la,lk,aa,_⟩:=aHx h
 refine⟨hd,fun ho=>?_,aa,la,lk,fun o7=>?_⟩
 rotate_left
 ·obtain⟨⟨k,c,hs,hk,_⟩,_⟩:=h;rw [o7]at hs;simp [shp]at hs;obtain⟨rfl,rfl⟩:=hs;exact a0z hk
 obtain⟨⟨k,c,hs,_,hm⟩,_⟩:=h
 rcases ho with ho | ho | ho <;> rw [ho]at hs <;> simp [shp]at hs <;> obtain⟨rfl,rfl⟩:=hs <;> exact hm.1
theorem yI {p:AI} {f:Nat} {s s':VS} {n z:Int} (h:vis p (f+1) s n z=some s'):
 ∃ x,idx p.AD n=some x/\idx s.AT n=some false/\okN p s x z/\(x.Op=4->∃ d,idx p.AE x.N=some d/\okD d=true)/\cO (vis p f) (mark s n z x) (gE p x z)=some s':=by
 simp only [vis]at h
 split at h
 ·rename_i h1;obtain⟨x,ex,h⟩:=bind_some h;split at h
  ·rename_i h2;refine⟨x,ex,h1.2.2,h2,?_⟩;split at h
   ·rename_i h4;obtain⟨d,ed,h⟩:=bind_some h;split at h
    ·rename_i h5;refine⟨fun _=>⟨d,ed,h5⟩,?_⟩
     simp only [mark,gE,a2f h4,ed,chD];rw [a0u,aDG];obtain⟨s1,e1,h⟩:=bind_some h;rw [e1,bsm,aDG];exact h
    ·cases h
   ·rename_i h4;refine⟨fun q=>absurd q h4,?_⟩
    simp only [mark,gE,a2e h4];exact h
  ·cases h
 ·cases h
theorem vis_vo {p:AI}:∀ (f:Nat) (s s':VS) (n z:Int),s.sz.length=s.AT.length->0<=z->vis p f s n z=some s'->s'.sz.length=s'.AT.length/\∃ rk,Vo p f (z+100*f) s s' rk/\Nw s s' n/\idx s'.sz n=some z
 | 0,s,s',n,z,_,_,h=>by simp [vis]at h
 | f+1,s,s',n,z,hs,hz,h=>by
  obtain⟨x,ex,hm,ok,hd,hl⟩:=yI h;have h0:=eT hm;have hml:(mark s n z x).AT.length=s.AT.length:=by simp [mark]
  obtain⟨l2,rk,v,hc⟩:=aGO (p:=p) (f:=f) (zm:=z+69) (fun s s' n z=>vis_vo f s s' n z) (gE p x z) (mark s n z x) s' (by simp [mark,hs]) (chs2_pos hz hd) hl
  have e1:idx (mark s n z x).AT n=some true:=sN h0.1 h0.2;have e2:idx (mark s n z x).sz n=some z:=sN h0.1 (by omega)
  have e3:∀ i,i≠n->idx (mark s n z x).AT i=idx s.AT i/\idx (mark s n z x).sz i=idx s.sz i:=fun i hi=>⟨sL h0.1 hi,sL h0.1 hi⟩
  have hn:=v.kp.old n e1;have hw:∀ i,Nw (mark s n z x) s' i->Nw s s' i/\i≠n:=fun i hi=>by
   have hne:i≠n:=fun q=>by subst q;have:=e1.symm.trans hi.1;cases this
   exact⟨⟨(e3 i hne).1.symm.trans hi.1,hi.2⟩,hne⟩
  refine⟨l2,fun i=>if i=n then f else rk i,⟨⟨fun i hi=>?_,v.kp.lm.trans hml⟩,fun i hi=>?_⟩,⟨hm,hn.1⟩,hn.2.trans e2⟩
  ·have hne:i≠n:=fun q=>by subst q;have:=hm.symm.trans hi;cases this
   have:=v.kp.old i ((e3 i hne).1.trans hi);exact⟨this.1,this.2.trans (e3 i hne).2⟩
  ·by_cases hne:i=n
   ·subst hne;rw [a2f rfl];refine⟨a1M f,x,z,⟨ex,hn.2.trans e2,okN_ok1 ok hd,hz,fun c hcm=>?_⟩,by omega,fun c hcm=>(hw _ (hc c hcm).1).1⟩
    obtain⟨q1,q2⟩:=hc c hcm;obtain⟨q3,y,_,g,_,_⟩:=v.good _ q1;refine⟨q2,?_,y,g.node⟩;rw [a2f rfl,a2e (hw _ q1).2];exact q3
   ·have hi':Nw (mark s n z x) s' i:=⟨(e3 i hne).1.trans hi.1,hi.2⟩;obtain⟨q1,y,w,g,hZ,hb⟩:=v.good i hi';rw [a2e hne];refine⟨Nat.lt_succ_of_lt q1,y,w,⟨g.node,g.size,g.ok,g.pos,fun c hcm=>?_⟩,by omega,fun c hcm=>(hw _ (hb c hcm)).1⟩
    obtain⟨r1,r2,r3⟩:=g.below c hcm;refine⟨r1,?_,r3⟩;rw [a2e hne,a2e (hw _ (hb c hcm)).2];exact r2
structure Fm (p:AI) (sz:List Int) (rk:Int->Nat):Prop where
 len:sz.length=p.AD.length
 n60:p.AD.length<=60
 f12:p.AF.length<=12
 d12:p.AE.length<=12
 good:∀ i,0<=i->i<(p.AD.length:Int)->rk i<60/\∃ x z,gZ p sz rk i x z/\z<=6012
 main:idx sz p.AG=some (p.AF.length:Int)
 oks:∀ d∈p.AE,okD d=true
theorem fm_of {p:AI} {s:VS} (h:dZ p=some s):∃ rk,Fm p s.sz rk:=by
 have hd:=aCq h
 unfold dZ at h
 split at h
 ·rename_i h1;obtain⟨s1,e1,h⟩:=bind_some h;split at h
  ·rename_i h2;cases h;obtain⟨l,rk,v,hn,hz⟩:=vis_vo _ _ _ _ _ (by simp [start]) (by omega) e1
   have hlm:s.AT.length=p.AD.length:=by rw [v.kp.lm];simp [start]
   refine⟨rk,by rw [l,hlm],h1.2.1,h1.1,h1.2.2.1,fun i h0 hi=>?_,hz,hd⟩
   have hs:idx (start p).AT i=some false:=by
    rw [start];simp only
    obtain⟨b,hb⟩:=fT (xs:=List.replicate p.AD.length false) h0 (by simpa using hi)
    rw [hb];have:=gI hb;rw [List.eq_of_mem_replicate this]
   have ht:idx s.AT i=some true:=by
    obtain⟨b,hb⟩:=fT (xs:=s.AT) h0 (by omega)
    have:=a0t.1 h2.1 b (gI hb);cases b
    ·cases this
    ·exact hb
   obtain⟨q,x,z,g,hZ,_⟩:=v.good i ⟨hs,ht⟩;exact⟨by omega,x,z,g,by omega⟩
  ·cases h
 ·cases h
open Go.SX Go.SW Go.Dt
abbrev Srt (l:List Int):Prop:=l.Pairwise (·<·)
theorem aD4:∀ {l m:List Int},Srt l->Srt m->(∀ i,i∈l ↔ i∈m)->l=m
 | [],[],_,_,_=>rfl
 | [],b :: m,_,_,h=>by have:=(h b).2 (.head _);cases this
 | a :: l,[],_,_,h=>by have:=(h a).1 (.head _);cases this
 | a :: l,b :: m,h1,h2,h=>by
  obtain⟨h1a,h1'⟩:=a1t.1 h1;obtain⟨h2a,h2'⟩:=a1t.1 h2;have e:a=b:=by
   have q1:a=b\/b<a:=by
    rcases a1i.1 ((h a).1 (.head _))with q | q
    ·exact .inl q
    ·exact .inr (h2a a q)
   have q2:b=a\/a<b:=by
    rcases a1i.1 ((h b).2 (.head _))with q | q
    ·exact .inl q
    ·exact .inr (h1a b q)
   omega
  subst e;refine congrArg (a :: ·) (aD4 h1' h2' fun i=>?_)
  constructor
  ·intro hi;rcases a1i.1 ((h i).1 (.tail _ hi))with q | q
   ·have:=h1a i hi;omega
   ·exact q
  ·intro hi;rcases a1i.1 ((h i).2 (.tail _ hi))with q | q
   ·have:=h2a i hi;omega
   ·exact q
theorem uU:∀ {l:List Int} {a b:Int},Srt l->(∀ i∈l,a<=i/\i<b)->(l.length:Int)<=max 0 (b - a)
 | [],a,b,_,_=>by simp;omega
 | x :: l,a,b,h,hb=>by
  obtain⟨h1,h2⟩:=a1t.1 h;have:=uU (a:=x+1) (b:=b) h2 fun i hi=>⟨by have:=h1 i hi;omega,(hb i (.tail _ hi)).2⟩
  have:=hb x (.head _);simp only [a0U];omega
mutual
def nmE:AS->List Int
 | ⟨op,n,ks⟩=>(if op=2 then [n] else [])++nmL ks
def nmL:List AS->List Int
 | []=>[]
 | k :: ks=>nmE k++nmL ks
end
def nmO (x:AW):List Int:=if x.Op=2\/x.Op=6\/x.Op=8 then [x.N] else []
def nmN (x:AW):List Int:=nmO x++nmL x.AU
def kd (p:AI) (x:AW):List Int:=
 if x.Op=4 then match idx p.AE x.N with
  | some d=>(d.AP.map (·.AV)++d.AR.map (·.AV))++x.AM
  | none=>[]
 else x.AM
theorem uN {p:AI} {x:AW} {z m:Int} (h:m∈kd p x):∃ w,(m,w)∈gE p x z:=by
 unfold kd at h;unfold gE
 split at h
 ·rename_i h4;rw [a2f h4];cases e:idx p.AE x.N with
  | none=>rw [e]at h;cases h
  | some d=>
   rw [e]at h;simp only [a1f,a1k]at h;simp only [chD,a1f,a1k];rcases h with(⟨r,hr,rfl⟩ | ⟨y,hy,rfl⟩) | h
   ·exact⟨_, .inl (.inl ⟨r,hr,rfl⟩)⟩
   ·exact⟨_, .inl (.inr ⟨y,hy,rfl⟩)⟩
   ·exact⟨_, .inr ⟨m,h,rfl⟩⟩
 ·rename_i h4;rw [a2e h4];exact⟨z,a1k.2 ⟨m,h,rfl⟩⟩
inductive Rch (p:AI):Int->Int->Prop
 | refl (n:Int):Rch p n n
 | step {n m k:Int} {x:AW} (h:idx p.AD n=some x) (hm:m∈kd p x) (r:Rch p m k):Rch p n k
def Occ (p:AI) (n i:Int):Prop:=∃ k x,Rch p n k/\idx p.AD k=some x/\i∈nmN x
theorem aEn {p:AI} {n k:Int} {x:AW} (h:idx p.AD n=some x):Rch p n k ↔ k=n\/∃ m∈kd p x,Rch p m k:=by
 constructor
 ·intro r;cases r with
  | refl=>exact .inl rfl
  | step h1 hm r=>rw [h]at h1;cases h1;exact .inr ⟨_,hm,r⟩
 ·rintro(rfl | ⟨m,hm,r⟩)
  ·exact .refl _
  ·exact .step h hm r
theorem aBZ {p:AI} {n i:Int} {x:AW} (h:idx p.AD n=some x):Occ p n i ↔ i∈nmN x\/∃ m∈kd p x,Occ p m i:=by
 constructor
 ·rintro⟨k,y,r,hy,hi⟩
  rcases(aEn h).1 r with rfl | ⟨m,hm,r⟩
  ·rw [h]at hy;cases hy;exact .inl hi
  ·exact .inr ⟨m,hm,k,y,r,hy,hi⟩
 ·rintro(hi | ⟨m,hm,k,y,r,hy,hi⟩)
  ·exact⟨n,x, .refl _,h,hi⟩
  ·exact⟨k,y, .step h hm r,hy,hi⟩
def Has (g:aL Int Bool) (S:Int->Prop):Prop:=∀ i,(S i->g.get i=some true)/\(¬ S i->g.get i=none)
theorem Has.congr {g:aL Int Bool} {S U:Int->Prop} (h:Has g S) (e:∀ i,S i ↔ U i):Has g U:=fun i=>⟨fun hi=>(h i).1 ((e i).2 hi),fun hi=>(h i).2 fun q=>hi ((e i).1 q)⟩
theorem aCJ {g:aL Int Bool} {S:Int->Prop} (h:Has g S) (n:Int):Has (aL.upd g n true) (fun i=>S i\/i=n):=fun i=>by
 have e:(aL.upd g n true).get i=if i=n then some true else g.get i:=rfl
 rw [e]
 constructor
 ·rintro(hi | rfl)
  ·split
   ·rfl
   ·exact(h i).1 hi
  ·rw [a2f rfl]
 ·intro hi;rw [a2e (fun q=>hi (.inr q))];exact(h i).2 fun q=>hi (.inl q)
theorem has_none:Has (aL.none:aL Int Bool) (fun _=>False):=fun i=>⟨fun h=>h.elim,fun _=>rfl⟩
theorem aIH {rec:aL Int Bool->AS->Option (aL Int Bool)} {op n:Int} (AC:List AS):∀ (AB:List AS) (k:Nat) (g:aL Int Bool) (S:Int->Prop),AC.length<k->AB.length+AC.length<=3000000 ->
 (∀ e∈AC,∀ g S,Has g S->∃ g',rec g e=some g'/\Has g' (fun i=>S i\/i∈nmE e))->Has g S->∃ g',lV rec ⟨op,n,AB++AC⟩ k AB.length g=some g'/\Has g' (fun i=>S i\/i∈nmL AC):=by
 induction AC with
 | nil=>
  intro AB k g S hk _ _ h;obtain _ | k:=k
  ·omega
  rw [lV,a2e (by simp)];exact⟨g,rfl,h.congr fun i=>by simp [nmL]⟩
 | cons e AC ih=>
  intro AB k g S hk hB hr h;obtain _ | k:=k
  ·omega
  simp only [a0U]at hk hB;obtain⟨g1,e1,h1⟩:=hr e (.head _) g S h;obtain⟨g2,e2,h2⟩:=ih (AB++[e]) k g1 _ (by omega) (by simp;omega) (fun x hx=>hr x (.tail _ hx)) h1
  refine⟨g2,?_,h2.congr fun i=>by simp only [nmL,a1f];exact or_assoc⟩
  rw [lV,a2f (bA _ _ _),bC,bsm,kK,e1,bsm,aQ (by omega),bsm,bJ,aV,e2]
theorem asks_p (AA:Nat):∀ (e:AS) (g:aL Int Bool) (S:Int->Prop),nE e<AA->nE e<=2000000->Has g S->∃ g',kU AA g e=some g'/\Has g' (fun i=>S i\/i∈nmE e):=by
 induction AA with
 | zero=>intro e g S h;omega
 | succ AA ih=>
  intro ⟨op,n,ks⟩ g S hf hB h
  simp only [nE]at hf hB;have hlen:=mT ks;have step:∀ g1 S1,Has g1 S1->∃ g',lV (kU AA) ⟨op,n,ks⟩ AA 0 g1=some g'/\Has g' (fun i=>S1 i\/i∈nmL ks):=fun g1 S1 h1=>by
   have:=aIH (rec:=kU AA) (op:=op) (n:=n) ks [] AA g1 S1 (by omega) (by simp;omega) (fun e he g S hg=>ih e g S (by have:=gK he;omega) (by have:=gK he;omega) hg) h1
   simpa using this
  rw [kU];dsimp only
  by_cases o2:op=2
  ·obtain⟨g',e1,h1⟩:=step _ _ (aCJ h n);rw [a2f o2,bsm,e1];exact⟨g',rfl,h1.congr fun i=>by simp only [nmE,a2f o2,a1f,a1o];exact or_assoc⟩
  ·obtain⟨g',e1,h1⟩:=step _ _ h;rw [a2e o2,bsm,e1];exact⟨g',rfl,h1.congr fun i=>by simp only [nmE,a2e o2,a1p]⟩
theorem asksL_p {AA:Nat} {op nn:Int} {ks:List Int} (hf:2000000<AA) (AC:List AS):∀ (AB:List AS) (k:Nat) (g:aL Int Bool) (S:Int->Prop),AC.length<k->AB.length+AC.length<=3000000->(∀ e∈AC,nE e<=2000000)->Has g S ->
 ∃ g',mP AA ⟨op,nn,AB++AC,ks⟩ k AB.length g=some g'/\Has g' (fun i=>S i\/i∈nmL AC):=by
 induction AC with
 | nil=>
  intro AB k g S hk _ _ h;obtain _ | k:=k
  ·omega
  rw [mP,a2e (by simp)];exact⟨g,rfl,h.congr fun i=>by simp [nmL]⟩
 | cons e AC ih=>
  intro AB k g S hk hB hr h;obtain _ | k:=k
  ·omega
  simp only [a0U]at hk hB;have he:=hr e (.head _);obtain⟨g1,e1,h1⟩:=asks_p AA e g S (by omega) he h
  obtain⟨g2,e2,h2⟩:=ih (AB++[e]) k g1 _ (by omega) (by simp;omega) (fun x hx=>hr x (.tail _ hx)) h1
  refine⟨g2,?_,h2.congr fun i=>by simp only [nmL,a1f];exact or_assoc⟩
  rw [mP,a2f (bA _ _ _),bC,bsm,kK,e1,bsm,aQ (by omega),bsm,bJ,aV,e2]
theorem kind_p (op:Int):∃ v u1 u2,iR op=some v/\eA 207 (.agg #[]) v=some (u1,decide (op=2))/\eA 208 (.agg #[]) v=some (u2,decide (op=6\/op=8)):=by
 by_cases h:shp op=none
 ·refine⟨.nilIface, .agg #[], .agg #[],aGr h,?_,?_⟩
  ·have h2:op≠2:=fun q=>by subst q;simp [shp]at h
   rw [a2b h2];rfl
  ·have h2:¬ (op=6\/op=8):=fun q=>by rcases q with rfl | rfl <;> simp [shp]at h
   rw [a2b h2];rfl
 ·have:op=1\/op=7\/op=3\/op=2\/op=5\/op=6\/op=8\/op=4:=by
   unfold shp at h;by_cases a1:op=1\/op=7
   ·omega
   ·rw [a2e a1]at h;by_cases a2:op=3
    ·omega
    ·rw [a2e a2]at h;by_cases a3:op=2
     ·omega
     ·rw [a2e a3]at h;by_cases a4:op=5
      ·omega
      ·rw [a2e a4]at h;by_cases a5:op=6\/op=8
       ·omega
       ·rw [a2e a5]at h;by_cases a6:op=4
        ·omega
        ·rw [a2e a6]at h;exact absurd rfl h
  rcases this with rfl | rfl | rfl | rfl | rfl | rfl | rfl | rfl <;> exact⟨_,_,_,rfl,rfl,rfl⟩
theorem b1_p {L:Ad} {AA:Nat} {n:Int} {x:AW} (hx:idx L.p.AD n=some x) (hf:3000000<AA) (hl:x.AU.length<=2000000) (ha:∀ e∈x.AU,nE e<=2000000) {g:aL Int Bool} {S:Int->Prop} (h:Has g S):
 ∃ g',rY AA L n g=some g'/\Has g' (fun i=>S i\/i∈nmN x):=by
 obtain⟨v,u1,u2,e1,e2,e3⟩:=kind_p x.Op
 have step:∀ g1 S1,Has g1 S1->∃ g',mP AA x AA 0 g1=some g'/\Has g' (fun i=>S1 i\/i∈nmL x.AU):=fun g1 S1 h1=>by
  have:=asksL_p (AA:=AA) (op:=x.Op) (nn:=x.N) (ks:=x.AM) (by omega) x.AU [] AA g1 S1 (by omega) (by simp;omega) ha h1
  simpa using this
 unfold rY
 rw [hx,bsm,e1,bsm,e2,bsm]
 dsimp only
 rw [e3,bsm]
 dsimp only
 by_cases o2:x.Op=2
 ·obtain⟨g',q1,q2⟩:=step _ _ (aCJ h x.N);rw [a2c o2,a2a,bsm,q1];exact⟨g',rfl,q2.congr fun i=>by simp only [nmN,nmO,a2f (show x.Op=2\/x.Op=6\/x.Op=8 from .inl o2),a1f,a1o];exact or_assoc⟩
 ·rw [a2b o2,a1Z];by_cases o6:x.Op=6\/x.Op=8
  ·obtain⟨g',q1,q2⟩:=step _ _ (aCJ h x.N);rw [a2c o6,a2a,bsm,q1];exact⟨g',rfl,q2.congr fun i=>by simp only [nmN,nmO,a2f (show x.Op=2\/x.Op=6\/x.Op=8 from .inr o6),a1f,a1o];exact or_assoc⟩
  ·obtain⟨g',q1,q2⟩:=step _ _ h;rw [a2b o6,a1Z,bsm,q1];exact⟨g',rfl,q2.congr fun i=>by simp only [nmN,nmO,a2e (show ¬ (x.Op=2\/x.Op=6\/x.Op=8)from fun q=>q.elim o2 o6),a1p]⟩
abbrev YN (L:Ad) (AA:Nat):Int->aL Int Bool->Option (aL Int Bool):=fun (x:Int) (t:aL Int Bool)=>rY AA L x t
abbrev RecB:=Int->(Int->aL Int Bool->Option (aL Int Bool))->aL Int Bool->Ad->Option (aL Int Bool × Bool)
def Vis1 (p:AI) (rec:RecB) (Y:Int->aL Int Bool->Option (aL Int Bool)) (L:Ad) (m:Int):Prop:=∀ g S,Has g S->∃ g',rec m Y g L=some (g',true)/\Has g' (fun i=>S i\/Occ p m i)
variable {p:AI} {rec:RecB} {Y:Int->aL Int Bool->Option (aL Int Bool)} {L:Ad}
theorem bl1 {ch:List Aq} {sp:List Ao} (AC:List Am):∀ (AB:List Am) (k:Nat) (g:aL Int Bool) (S:Int->Prop),AC.length<k->AB.length+AC.length<=3000000->(∀ r∈AC,Vis1 p rec Y L r.AV)->Has g S ->
 ∃ g',qG rec Y L ⟨ch,sp,AB++AC⟩ k AB.length g=some (.inl g')/\Has g' (fun i=>S i\/∃ m∈AC.map (·.AV),Occ p m i):=by
 induction AC with
 | nil=>
  intro AB k g S hk _ _ h;obtain _ | k:=k
  ·omega
  rw [qG,a2e (by simp)];exact⟨g,rfl,h.congr fun i=>by simp⟩
 | cons e AC ih=>
  intro AB k g S hk hB hr h;obtain _ | k:=k
  ·omega
  simp only [a0U]at hk hB;obtain⟨g1,e1,h1⟩:=hr e (.head _) g S h;obtain⟨g2,e2,h2⟩:=ih (AB++[e]) k g1 _ (by omega) (by simp;omega) (fun x hx=>hr x (.tail _ hx)) h1
  refine⟨g2,?_,h2.congr fun i=>by simp only [a1c,a1i,exists_eq_or_imp];exact or_assoc⟩
  rw [qG,a2f (bA _ _ _),bC,bsm,e1,bsm];dsimp only
  rw [a2a,aQ (by omega),bsm,bJ,aV,e2]
theorem bl2 {ch:List Aq} {ru:List Am} (AC:List Ao):∀ (AB:List Ao) (k:Nat) (g:aL Int Bool) (S:Int->Prop),AC.length<k->AB.length+AC.length<=3000000->(∀ r∈AC,Vis1 p rec Y L r.AV)->Has g S ->
 ∃ g',pN rec Y L ⟨ch,AB++AC,ru⟩ k AB.length g=some (.inl g')/\Has g' (fun i=>S i\/∃ m∈AC.map (·.AV),Occ p m i):=by
 induction AC with
 | nil=>
  intro AB k g S hk _ _ h;obtain _ | k:=k
  ·omega
  rw [pN,a2e (by simp)];exact⟨g,rfl,h.congr fun i=>by simp⟩
 | cons e AC ih=>
  intro AB k g S hk hB hr h;obtain _ | k:=k
  ·omega
  simp only [a0U]at hk hB;obtain⟨g1,e1,h1⟩:=hr e (.head _) g S h;obtain⟨g2,e2,h2⟩:=ih (AB++[e]) k g1 _ (by omega) (by simp;omega) (fun x hx=>hr x (.tail _ hx)) h1
  refine⟨g2,?_,h2.congr fun i=>by simp only [a1c,a1i,exists_eq_or_imp];exact or_assoc⟩
  rw [pN,a2f (bA _ _ _),bC,bsm,e1,bsm];dsimp only
  rw [a2a,aQ (by omega),bsm,bJ,aV,e2]
theorem bl3 {op nn:Int} {ar:List AS} (AC:List Int):∀ (AB:List Int) (k:Nat) (g:aL Int Bool) (S:Int->Prop),AC.length<k->AB.length+AC.length<=3000000->(∀ r∈AC,Vis1 p rec Y L r)->Has g S ->
 ∃ g',pY rec Y L ⟨op,nn,ar,AB++AC⟩ k AB.length g=some (.inl g')/\Has g' (fun i=>S i\/∃ m∈AC,Occ p m i):=by
 induction AC with
 | nil=>
  intro AB k g S hk _ _ h;obtain _ | k:=k
  ·omega
  rw [pY,a2e (by simp)];exact⟨g,rfl,h.congr fun i=>by simp⟩
 | cons e AC ih=>
  intro AB k g S hk hB hr h;obtain _ | k:=k
  ·omega
  simp only [a0U]at hk hB;obtain⟨g1,e1,h1⟩:=hr e (.head _) g S h;obtain⟨g2,e2,h2⟩:=ih (AB++[e]) k g1 _ (by omega) (by simp;omega) (fun x hx=>hr x (.tail _ hx)) h1
  refine⟨g2,?_,h2.congr fun i=>by simp only [a1i,exists_eq_or_imp];exact or_assoc⟩
  rw [pY,a2f (bA _ _ _),bC,bsm,e1,bsm];dsimp only
  rw [a2a,aQ (by omega),bsm,bJ,aV,e2]
theorem okE_le {z:Int} {e:AS} (h:okE z e=true):nE e<=60:=by
 simp only [okE,a0k,a2d]at h
 exact h.2
theorem Ok1.exps {x:AW} {z:Int} (h:Ok1 p x z):∀ e∈x.AU,nE e<=60:=fun e he=>okE_le (a0t.1 h.args e he)
theorem below_p {sz:List Int} {rk:Int->Nat} (hp:Fm p sz rk) (hL:L.p=p) {f2:Nat} (hf2:3000000<f2):∀ (r AA:Nat) (n:Int) (x:AW) (z:Int),gZ p sz rk n x z->rk n<r->3000000+r<=AA->Vis1 p (iF AA) (YN L f2) L n:=by
 intro r
 induction r with
 | zero=>intro AA n x z _ h;omega
 | succ r ih=>
  intro AA n x z G hr hf g S h;obtain _ | AA:=AA
  ·omega
  have hx:idx L.p.AD n=some x:=by rw [hL];exact G.node
  obtain⟨g1,e1,h1⟩:=b1_p (L:=L) (AA:=f2) hx hf2 (by have:=G.ok.la;omega) (fun e he=>by have:=G.ok.exps e he;omega) h
  have sub:∀ m∈kd p x,Vis1 p (iF AA) (YN L f2) L m:=fun m hm=>by
   obtain⟨w,hw⟩:=uN (z:=z) hm;obtain⟨q1,q2,y,q3⟩:=G.below _ hw;have hm0:=eT q1;obtain⟨_,x',z',G',_⟩:=hp.good m hm0.1 (by have:=hp.len;omega)
   exact ih AA m x' z' G' (by simp only at q2;omega) (by omega)
  have e1':YN L f2 n g=some g1:=e1;rw [iF,e1',bsm,hx,bsm];by_cases o4:x.Op=4
  ·rw [a2f o4];obtain⟨d,ed,okd⟩:=G.ok.def_ o4;have hlim:=gU okd;have ed':idx L.p.AE x.N=some d:=by rw [hL];exact ed
   have sub':=sub;simp only [kd,a2f o4,ed]at sub;obtain⟨g2,e2,h2⟩:=bl1 (ch:=d.AN) (sp:=d.AR) d.AP [] AA g1 _ (by omega) (by simp;omega) (fun q hq=>sub q.AV (a1g _ (a1g _ (a1k.2 ⟨q,hq,rfl⟩)))) h1
   obtain⟨g3,e3,h3⟩:=bl2 (ch:=d.AN) (ru:=d.AP) d.AR [] AA g2 _ (by omega) (by simp;omega) (fun q hq=>sub q.AV (a1g _ (a1h _ (a1k.2 ⟨q,hq,rfl⟩)))) h2
   obtain⟨g4,e4,h4⟩:=bl3 (op:=x.Op) (nn:=x.N) (ar:=x.AU) x.AM [] AA g3 _ (by have:=G.ok.lk;omega) (by have:=G.ok.lk;simp;omega) (fun q hq=>sub q (a1h _ hq)) h3
   simp only [a1p,a0Y,a0q]at e2 e3 e4;rw [ed',bsm,e2,bsm];dsimp only
   rw [bsm,e3,bsm];dsimp only
   rw [show(⟨x.Op,x.N,x.AU,x.AM⟩:AW)=x from rfl]at e4;rw [e4,bsm];dsimp only
   refine⟨g4,rfl,h4.congr fun i=>?_⟩
   rw [aBZ G.node];simp only [kd,a2f o4,ed,a1f];constructor
   ·rintro((((h | h) | ⟨m,hm,h⟩) | ⟨m,hm,h⟩) | ⟨m,hm,h⟩)
    ·exact .inl h
    ·exact .inr (.inl h)
    ·exact .inr (.inr ⟨m, .inl (.inl hm),h⟩)
    ·exact .inr (.inr ⟨m, .inl (.inr hm),h⟩)
    ·exact .inr (.inr ⟨m, .inr hm,h⟩)
   ·rintro(h | h | ⟨m,(hm | hm) | hm,h⟩)
    ·exact .inl (.inl (.inl (.inl h)))
    ·exact .inl (.inl (.inl (.inr h)))
    ·exact .inl (.inl (.inr ⟨m,hm,h⟩))
    ·exact .inl (.inr ⟨m,hm,h⟩)
    ·exact .inr ⟨m,hm,h⟩
  ·rw [a2e o4,bsm];dsimp only
   simp only [kd,a2e o4]at sub;obtain⟨g4,e4,h4⟩:=bl3 (op:=x.Op) (nn:=x.N) (ar:=x.AU) x.AM [] AA g1 _ (by have:=G.ok.lk;omega) (by have:=G.ok.lk;simp;omega) (fun q hq=>sub q hq) h1
   simp only [a1p,a0Y,a0q]at e4;rw [show(⟨x.Op,x.N,x.AU,x.AM⟩:AW)=x from rfl]at e4;rw [e4,bsm];dsimp only
   refine⟨g4,rfl,h4.congr fun i=>?_⟩
   rw [aBZ G.node];simp only [kd,a2e o4];exact or_assoc
theorem aCB {g:aL Int Bool} {S:Int->Prop} (h:Has g S) {z:Nat} (hz:z<=1000000):∀ (d i k:Nat) (acc:List Int),i+d=z->d<k->Srt acc->(∀ a∈acc,a<(i:Int))->acc.length<=i ->
 ∃ l,oS g z k acc i=some l/\Srt l/\∀ a,a∈l ↔ a∈acc\/((i:Int)<=a/\a<(z:Int)/\S a)
 | 0,i,k,acc,hi,hk,hs,ha,hl=>by
  obtain _ | k:=k
  ·omega
  rw [oS,a2e (by omega)];exact⟨acc,rfl,hs,fun a=>⟨.inl,fun q=>q.elim id fun q=>by omega⟩⟩
 | d+1,i,k,acc,hi,hk,hs,ha,hl=>by
  obtain _ | k:=k
  ·omega
  rw [oS,a2f (by omega)];by_cases hS:S (i:Int)
  ·rw [(h _).1 hS,a1S,a2a,dS (by simp;omega),bsm,bsm,aQ (by omega),bsm];obtain⟨l,e,q1,q2⟩:=aCB h hz d (i+1) k (acc++[(i:Int)]) (by omega) (by omega)
    (a1s.2 ⟨hs,a1v _ _,fun a ha' b hb=>by rw [a1o.1 hb];exact ha a ha'⟩)
    (fun a ha'=>by rcases a1f.1 ha' with q | q
                   ·have:=ha a q;omega
                   ·rw [a1o.1 q];omega) (by simp;omega)
   refine⟨l,e,q1,fun a=>?_⟩
   rw [q2,a1f,a1o];constructor
   ·rintro((q | rfl) | ⟨h1,h2,h3⟩)
    ·exact .inl q
    ·exact .inr ⟨by omega,by omega,hS⟩
    ·exact .inr ⟨by omega,h2,h3⟩
   ·rintro(q | ⟨h1,h2,h3⟩)
    ·exact .inl (.inl q)
    ·by_cases e0:a=(i:Int)
     ·exact .inl (.inr e0)
     ·exact .inr ⟨by omega,h2,h3⟩
  ·rw [(h _).2 hS,Option.getD_none,a1Z,bsm,aQ (by omega),bsm];obtain⟨l,e,q1,q2⟩:=aCB h hz d (i+1) k acc (by omega) (by omega) hs (fun a ha'=>by have:=ha a ha';omega) (by omega)
   refine⟨l,e,q1,fun a=>?_⟩
   rw [q2];constructor
   ·rintro(q | ⟨h1,h2,h3⟩)
    ·exact .inl q
    ·exact .inr ⟨by omega,h2,h3⟩
   ·rintro(q | ⟨h1,h2,h3⟩)
    ·exact .inl q
    ·by_cases e0:a=(i:Int)
     ·subst e0;exact absurd h3 hS
     ·exact .inr ⟨by omega,h2,h3⟩
def tC (p:AI) (n z:Int) (l:List Int):Prop:=Srt l/\∀ i,i∈l ↔ 0<=i/\i<z/\Occ p n i
theorem tC.uniq {n z:Int} {l m:List Int} (h:tC p n z l) (k:tC p n z m):l=m:=aD4 h.1 k.1 fun i=>(h.2 i).trans (k.2 i).symm
theorem needs_p {sz:List Int} {rk:Int->Nat} (hp:Fm p sz rk) {AT AX:List Bool} {n:Int} {x:AW} {z:Int} (G:gZ p sz rk n x z) (hz:z<=1000000):∃ l,uY F ⟨p,sz,AT,AX⟩ n=some l/\tC p n z l:=by
 have hn:=eT G.node
 obtain⟨hr,_⟩:=hp.good n hn.1 hn.2
 obtain⟨g,e1,h1⟩:=below_p (L:=⟨p,sz,AT,AX⟩) hp rfl (f2:=F) (by decide) 60 F n x z G hr (by decide) aL.none _ has_none
 have h0:=G.pos
 obtain⟨l,e2,q1,q2⟩:=aCB h1 (z:=z.toNat) (by omega) z.toNat 0 F [] (by omega) (by unfold F;omega) .nil (fun a h=>by cases h) (a1R _)
 refine⟨l,?_,q1,fun i=>?_⟩
 ·unfold uY aBG aBu;rw [bsm];dsimp only
  rw [e1,bsm,bsm,G.size,bsm];rw [a0s h0,a0q]at e2;rw [e2,bsm]
 ·rw [q2,a0s h0];simp only [List.not_mem_nil,false_or,a0q]
open Go.SX Go.SW Go.Dt
theorem add_scan {n:Int} (AC:List Int):∀ (AB:List Int) (k:Nat),AC.length<k->AB.length+AC.length<=900000000->(∀ a∈AB,a<n)->Srt (AB++AC) ->
 ∃ A B,AB++AC=A++B/\(∀ a∈A,a<n)/\(∀ b∈B,n<=b)/\aAy (AB++AC) n k AB.length=some (A.length:Int):=by
 induction AC with
 | nil=>
  intro AB k hk _ hp _;obtain _ | k:=k
  ·omega
  rw [aAy,a2e (by simp)];exact⟨AB,[],rfl,hp,fun b h=>(by cases h),rfl⟩
 | cons e AC ih=>
  intro AB k hk hB hp hs;obtain _ | k:=k
  ·omega
  simp only [a0U]at hk hB;rw [aAy,a2f (bA _ _ _),bC,bsm];by_cases he:e<n
  ·rw [a2f he,aQ (by omega),bsm,bJ,aV];exact ih (AB++[e]) k (by omega) (by simp;omega) (fun a ha=>by
    rcases a1f.1 ha with q | q
    ·exact hp a q
    ·rw [a1o.1 q];exact he) (by rw [a0u];exact hs)
  ·rw [a2e he];refine⟨AB,e :: AC,rfl,hp,fun b hb=>?_,rfl⟩
   rcases a1i.1 hb with rfl | hb
   ·omega
   ·have:=(a1t.1 (a1s.1 hs).2.1).1 b hb;omega
theorem add_r {AA:Nat} {l:List Int} {n:Int} (hf:l.length<AA) (hB:l.length<=900000000) (hs:Srt l):∃ m,kB AA l n=some m/\Srt m/\∀ i,i∈m ↔ i∈l\/i=n:=by
 obtain⟨A,B,e,hA,hB2,h⟩:=add_scan (n:=n) l [] AA (by omega) (by simp;omega) (fun a h=>by cases h) hs
 simp only [a1p,a0Y,a0q]at e h
 have hs':=hs
 rw [e]at hs'
 obtain⟨sA,sB,sAB⟩:=a1s.1 hs'
 have hl:l.length=A.length+B.length:=by rw [e,a0T]
 have go:Srt (A++(n :: B))->(n ∉ B)->∃ m,((slc l (A.length:Int) (l.length:Int)).bind fun y3=>(dG ([n]++y3)).bind fun z2=>(slc l 0 (A.length:Int)).bind fun y4=>(dG (([]:List Int)++y4)).bind fun z3=>(dG (z3++z2)).bind fun z4=>some z4)=some m/\Srt m/\∀ i,i∈m ↔ i∈l\/i=n:=by
  intro hsm hn;have e1:slc l (A.length:Int) (l.length:Int)=some B:=by
   unfold slc;rw [a2f (by omega),a0r,a0r,a1y,e,List.drop_left]
  have e2:slc l 0 (A.length:Int)=some A:=by
   unfold slc;rw [a2f (by omega)];simp [e]
  rw [e1,bsm,dS (by simp;omega),bsm,e2,bsm,dS (by simp;omega),bsm,dS (by simp;omega),bsm];refine⟨_,rfl,hsm,fun i=>?_⟩
  rw [e];simp only [a1p,a0w,a1f,a1i];constructor
  ·rintro(q | q | q)
   ·exact .inl (.inl q)
   ·exact .inr q
   ·exact .inl (.inr q)
  ·rintro((q | q) | q)
   ·exact .inl q
   ·exact .inr (.inr q)
   ·exact .inr (.inl q)
 unfold kB
 rw [h,bsm]
 cases B with
 | nil=>
  rw [a2e (by simp at hl;omega),bsm];dsimp only
  exact go (a1s.2 ⟨sA,a1v _ _,fun a ha b hb=>by rw [a1o.1 hb];exact hA a ha⟩) (by simp)
 | cons b B=>
  have hb:=hB2 b (.head _);have ib:idx l (A.length:Int)=some b:=by rw [e];exact bC A B b
  rw [a2f (by simp at hl;omega),ib,bsm];by_cases hbn:b=n
  ·rw [a2f hbn,bsm,bsm];dsimp only
   refine⟨l,rfl,hs,fun i=>⟨.inl,fun q=>q.elim id fun q=>?_⟩⟩
   rw [q,<- hbn,e];exact a1h _ (.head _)
  ·rw [a2e hbn,bsm];dsimp only
   have hlt:∀ c∈b :: B,n<c:=fun c hc=>by
    rcases a1i.1 hc with rfl | hc
    ·omega
    ·have:=(a1t.1 sB).1 c hc;omega
   exact go (a1s.2 ⟨sA,a1t.2 ⟨hlt,sB⟩,fun a ha c hc=>by
    rcases a1i.1 hc with rfl | hc
    ·exact hA a ha
    ·exact sAB a ha c hc⟩) (fun q=>by have:=hlt n q;omega)
theorem kidsR1 {ch:List Aq} {sp:List Ao} (AC:List Am):∀ (AB:List Am) (acc:List Int) (k:Nat),AC.length<k->AB.length+AC.length<=3000000->acc.length+AC.length<=900000000 ->
 zD ⟨ch,sp,AB++AC⟩ k acc AB.length=some (acc++AC.map (·.AV)):=by
 induction AC with
 | nil=>
  intro AB acc k hk _ _;obtain _ | k:=k
  ·omega
  rw [zD,a2e (by simp)];simp
 | cons e AC ih=>
  intro AB acc k hk hB hA;obtain _ | k:=k
  ·omega
  simp only [a0U]at hk hB hA;rw [zD,a2f (bA _ _ _),bC,bsm,dS (by simp;omega),bsm,aQ (by omega),bsm,bJ,aV,ih (AB++[e]) (acc++[e.AV]) k (by omega) (by simp;omega) (by simp;omega)];simp
theorem kidsR2 {ch:List Aq} {ru:List Am} (AC:List Ao):∀ (AB:List Ao) (acc:List Int) (k:Nat),AC.length<k->AB.length+AC.length<=3000000->acc.length+AC.length<=900000000 ->
 aAs ⟨ch,AB++AC,ru⟩ k acc AB.length=some (acc++AC.map (·.AV)):=by
 induction AC with
 | nil=>
  intro AB acc k hk _ _;obtain _ | k:=k
  ·omega
  rw [aAs,a2e (by simp)];simp
 | cons e AC ih=>
  intro AB acc k hk hB hA;obtain _ | k:=k
  ·omega
  simp only [a0U]at hk hB hA;rw [aAs,a2f (bA _ _ _),bC,bsm,dS (by simp;omega),bsm,aQ (by omega),bsm,bJ,aV,ih (AB++[e]) (acc++[e.AV]) k (by omega) (by simp;omega) (by simp;omega)];simp
theorem kids_r {p:AI} {n:Int} {x:AW} {z:Int} {AA:Nat} (hx:idx p.AD n=some x) (ok:Ok1 p x z) (hf:3000<AA):aCk AA p n=some (kd p x)/\(kd p x).length<=62:=by
 have:=ok.lk
 unfold aCk kd
 rw [hx,bsm]
 by_cases o4:x.Op=4
 ·obtain⟨d,ed,okd⟩:=ok.def_ o4;have hl:=gU okd;rw [a2f o4,a2f o4,ed];dsimp only
  rw [bsm];have e1:=kidsR1 (ch:=d.AN) (sp:=d.AR) d.AP [] [] AA (by omega) (by simp;omega) (by simp;omega)
  have e2:=kidsR2 (ch:=d.AN) (ru:=d.AP) d.AR [] (d.AP.map (·.AV)) AA (by omega) (by simp;omega) (by simp;omega)
  simp only [a1p,a0Y,a0q]at e1 e2;rw [e1,bsm,e2,bsm,dS (by simp;omega),bsm];exact⟨rfl,by simp;omega⟩
 ·rw [a2e o4,a2e o4,bsm,dS (by simp;omega),bsm];exact⟨rfl,by omega⟩
theorem aFF {p:AI} {sz:List Int} {rk:Int->Nat} (hp:Fm p sz rk) {n k:Int} (r:Rch p n k):(0<=n/\n<(p.AD.length:Int))->0<=k/\k<(p.AD.length:Int):=by
 induction r with
 | refl n=>exact id
 | step h hm _ ih=>
  intro hn;apply ih
  obtain⟨_,x,z,G,_⟩:=hp.good _ hn.1 hn.2;have hx:=G.node;rw [h]at hx;cases hx
  obtain⟨w,hw⟩:=uN (z:=z) hm;obtain⟨q1,_⟩:=G.below _ hw;have:=eT q1;have:=hp.len;simp only at *;omega
def Bel (p:AI) (rec:AI->List Int->Int->Option (List Int)) (m:Int):Prop:=∀ out,Srt out->(∀ i∈out,0<=i/\i<(p.AD.length:Int))->∃ l,rec p out m=some l/\Srt l/\∀ i,i∈l ↔ i∈out\/Rch p m i
theorem belR {p:AI} {rec:AI->List Int->Int->Option (List Int)} (hg:∀ m k,m∈(List.range p.AD.length).map (fun i:Nat=>(i:Int))->Rch p m k->0<=k/\k<(p.AD.length:Int)) (AC:List Int):∀ (AB out:List Int) (k:Nat),AC.length<k->AB.length+AC.length<=3000000 ->
 (∀ m∈AC,Bel p rec m/\m∈(List.range p.AD.length).map (fun i:Nat=>(i:Int)))->Srt out->(∀ i∈out,0<=i/\i<(p.AD.length:Int))->∃ l,xM rec p (AB++AC) k out AB.length=some l/\Srt l/\∀ i,i∈l ↔ i∈out\/∃ m∈AC,Rch p m i:=by
 induction AC with
 | nil=>
  intro AB out k hk _ _ hs _;obtain _ | k:=k
  ·omega
  rw [xM,a2e (by simp)];exact⟨out,rfl,hs,fun i=>by simp⟩
 | cons e AC ih=>
  intro AB out k hk hB hr hs ho;obtain _ | k:=k
  ·omega
  simp only [a0U]at hk hB;obtain⟨h1,h2⟩:=hr e (.head _);obtain⟨l1,e1,s1,m1⟩:=h1 out hs ho;obtain⟨l2,e2,s2,m2⟩:=ih (AB++[e]) l1 k (by omega) (by simp;omega) (fun m hm=>hr m (.tail _ hm)) s1 (fun i hi=>by
   rcases(m1 i).1 hi with q | q
   ·exact ho i q
   ·exact hg e i h2 q)
  refine⟨l2,?_,s2,fun i=>?_⟩
  ·rw [xM,a2f (bA _ _ _),bC,bsm];rw [show(⟨p.AF,p.AD,p.AE,p.AG⟩:AI)=p from rfl,e1,bsm,aQ (by omega),bsm,bJ,aV,e2]
  ·rw [m2,m1];simp only [a1i,exists_eq_or_imp];exact or_assoc
theorem below_r {p:AI} {sz:List Int} {rk:Int->Nat} (hp:Fm p sz rk):∀ (r AA:Nat) (n:Int) (x:AW) (z:Int),gZ p sz rk n x z->rk n<r->3000000+r<=AA->Bel p (xG AA) n:=by
 intro r
 induction r with
 | zero=>intro AA n x z _ h;omega
 | succ r ih=>
  intro AA n x z G hr hf out hs ho;obtain _ | AA:=AA
  ·omega
  have hn:=eT G.node;have h60:=hp.n60;have hl:=uU hs ho;obtain⟨l1,e1,s1,m1⟩:=add_r (AA:=AA) (n:=n) (by omega) (by omega) hs
  obtain⟨e2,hk⟩:=kids_r (AA:=AA) G.node G.ok (by omega)
  have sub:∀ m∈kd p x,Bel p (xG AA) m/\m∈(List.range p.AD.length).map (fun i:Nat=>(i:Int)):=fun m hm=>by
   obtain⟨w,hw⟩:=uN (z:=z) hm;obtain⟨q1,q2,y,q3⟩:=G.below _ hw;have hm0:=eT q1;have:=hp.len;obtain⟨_,x',z',G',_⟩:=hp.good m hm0.1 (by simp only at *;omega)
   refine⟨ih AA m x' z' G' (by simp only at q2;omega) (by omega),a1k.2 ⟨m.toNat,a1n.2 (by simp only at *;omega),by simp only at *;omega⟩⟩
  obtain⟨l2,e3,s2,m2⟩:=belR (fun m k hm hr=>by
   obtain⟨j,hj,rfl⟩:=a1k.1 hm;have:=a1n.1 hj;exact aFF hp hr ⟨by omega,by omega⟩) (kd p x) [] l1 AA (by omega) (by simp;omega) sub s1 (fun i hi=>by
    rcases(m1 i).1 hi with q | q
    ·exact ho i q
    ·rw [q];exact hn)
  simp only [a1p,a0Y,a0q]at e3;refine⟨l2,?_,s2,fun i=>?_⟩
  ·rw [xG,e1,bsm,show(⟨p.AF,p.AD,p.AE,p.AG⟩:AI)=p from rfl,e2,bsm,e3,bsm]
  ·rw [m2,m1,aEn G.node];exact or_assoc
theorem nm_in {s:Int}:(∀ (e:AS),fE s e=true->∀ i∈nmE e,0<=i/\i<s)/\∀ (ks:List AS),fL s ks=true->∀ i∈nmL ks,0<=i/\i<s:=⟨go,goL⟩
where
 go:∀ (e:AS),fE s e=true->∀ i∈nmE e,0<=i/\i<s
  | ⟨op,n,ks⟩,h,i,hi=>by
   simp only [fE,a0k]at h;simp only [nmE,a1f]at hi;rcases hi with hi | hi
   ·split at hi
    ·rename_i o2;rw [a1o.1 hi];have h1:=h.1;simp [loc,o2]at h1;omega
    ·cases hi
   ·exact goL ks h.2 i hi
 goL:∀ (ks:List AS),fL s ks=true->∀ i∈nmL ks,0<=i/\i<s
  | [],_,i,hi=>by cases hi
  | k :: ks,h,i,hi=>by
   simp only [fL,a0k]at h;simp only [nmL,a1f]at hi;rcases hi with hi | hi
   ·exact go k h.1 i hi
   ·exact goL ks h.2 i hi
theorem aHn {s:Int}:∀ {ks:List AS},ks.all (okE s)=true->∀ i∈nmL ks,0<=i/\i<s
 | [],_,i,hi=>by cases hi
 | k :: ks,h,i,hi=>by
  simp only [List.all_cons,a0k]at h;simp only [nmL,a1f]at hi;rcases hi with hi | hi
  ·have h1:=h.1;simp only [okE,a0k]at h1;exact nm_in.1 k h1.1.1 i hi
  ·exact aHn h.2 i hi
theorem Ok1.names {p:AI} {x:AW} {z:Int} (h:Ok1 p x z):∀ i∈nmN x,0<=i/\i<z:=by
 intro i hi
 simp only [nmN,a1f]at hi
 rcases hi with hi | hi
 ·unfold nmO at hi;split at hi
  ·rename_i o;rw [a1o.1 hi];exact h.name o
  ·cases hi
 ·exact aHn h.args i hi
def AddR (z:Int) (o:Option (List Int)) (out ns:List Int):Prop:=∃ l,o=some l/\Srt l/\(∀ i,i∈l ↔ i∈out\/(i∈ns/\i<z))/\∀ i∈l,0<=i/\i<z
theorem aId {rec:List Int->AS->Int->Option (List Int)} {op n z:Int} (AC:List AS):∀ (AB:List AS) (out:List Int) (k:Nat),AC.length<k->AB.length+AC.length<=3000000 ->
 (∀ e∈AC,∀ out,Srt out->(∀ i∈out,0<=i/\i<z)->AddR z (rec out e z) out (nmE e))->Srt out->(∀ i∈out,0<=i/\i<z)->AddR z (uF rec ⟨op,n,AB++AC⟩ z k out AB.length) out (nmL AC):=by
 induction AC with
 | nil=>
  intro AB out k hk _ _ hs ho;obtain _ | k:=k
  ·omega
  rw [uF,a2e (by simp)];exact⟨out,rfl,hs,fun i=>by simp [nmL],ho⟩
 | cons e AC ih=>
  intro AB out k hk hB hr hs ho;obtain _ | k:=k
  ·omega
  simp only [a0U]at hk hB;obtain⟨l1,e1,s1,m1,b1⟩:=hr e (.head _) out hs ho;obtain⟨l2,e2,s2,m2,b2⟩:=ih (AB++[e]) l1 k (by omega) (by simp;omega) (fun x hx=>hr x (.tail _ hx)) s1 b1
  refine⟨l2,?_,s2,fun i=>?_,b2⟩
  ·rw [uF,a2f (bA _ _ _),bC,bsm,e1,bsm,aQ (by omega),bsm,bJ,aV,e2]
  ·rw [m2,m1];simp only [nmL,a1f];constructor
   ·rintro((q | ⟨q,r⟩) | ⟨q,r⟩)
    ·exact .inl q
    ·exact .inr ⟨.inl q,r⟩
    ·exact .inr ⟨.inr q,r⟩
   ·rintro(q | ⟨q | q,r⟩)
    ·exact .inl (.inl q)
    ·exact .inl (.inr ⟨q,r⟩)
    ·exact .inr ⟨q,r⟩
theorem aH5 {AA:Nat} {z n:Int} {out:List Int} (hz:z<=1000000) (hf:1000001<AA) (hs:Srt out) (ho:∀ i∈out,0<=i/\i<z) (h0:0<=n) (hn:n<z):AddR z (kB AA out n) out [n]:=by
 have hl:=uU hs ho
 obtain⟨l,e,s1,m⟩:=add_r (AA:=AA) (l:=out) (n:=n) (by omega) (by omega) hs
 refine⟨l,e,s1,fun i=>?_,fun i hi=>?_⟩
 ·rw [m,a1o];constructor
  ·rintro(q | rfl)
   ·exact .inl q
   ·exact .inr ⟨rfl,hn⟩
  ·rintro(q | ⟨q,_⟩)
   ·exact .inl q
   ·exact .inr q
 ·rcases(m i).1 hi with q | rfl
  ·exact ho i q
  ·exact⟨h0,hn⟩
theorem need_r {z w:Int} (hz:z<=1000000) (AA:Nat):∀ (e:AS) (out:List Int),1000001+nE e<AA->nE e<=2000000->fE w e=true->Srt out->(∀ i∈out,0<=i/\i<z)->AddR z (uG AA out e z) out (nmE e):=by
 induction AA with
 | zero=>intro e out h;omega
 | succ AA ih=>
  intro ⟨op,n,ks⟩ out hf hB hok hs ho
  simp only [nE]at hf hB;simp only [fE,a0k]at hok;have hlen:=mT ks;have hfl:∀ e∈ks,fE w e=true:=fun e he=>by
   have:=hok.2;clear ih hf hB hlen hok;induction ks with
   | nil=>cases he
   | cons k ks ih=>
    simp only [fL,a0k]at this;rcases a1i.1 he with rfl | he
    ·exact this.1
    ·exact ih he this.2
  have step:∀ o1,Srt o1->(∀ i∈o1,0<=i/\i<z)->AddR z (uF (uG AA) ⟨op,n,ks⟩ z AA o1 0) o1 (nmL ks):=fun o1 h1 h2=>by
   have:=aId (rec:=uG AA) (op:=op) (n:=n) (z:=z) ks [] o1 AA (by omega) (by simp;omega) (fun e he out hs ho=>ih e out (by have:=gK he;omega) (by have:=gK he;omega) (hfl e he) hs ho) h1 h2
   simpa using this
  rw [uG];dsimp only
  by_cases o2:op=2
  ·rw [a2f o2];have h1:=hok.1;simp [loc,o2]at h1;by_cases hn:n<z
   ·obtain⟨l1,e1,s1,m1,b1⟩:=aH5 (AA:=AA) hz (by omega) hs ho h1.1 hn
    obtain⟨l2,e2,s2,m2,b2⟩:=step l1 s1 b1;rw [a2f hn,e1,bsm,bsm,e2,bsm];refine⟨l2,rfl,s2,fun i=>?_,b2⟩
    rw [m2,m1];simp only [nmE,a2f o2,a1f];constructor
    ·rintro((q | ⟨q,r⟩) | ⟨q,r⟩)
     ·exact .inl q
     ·exact .inr ⟨.inl q,r⟩
     ·exact .inr ⟨.inr q,r⟩
    ·rintro(q | ⟨q | q,r⟩)
     ·exact .inl (.inl q)
     ·exact .inl (.inr ⟨q,r⟩)
     ·exact .inr ⟨q,r⟩
   ·obtain⟨l2,e2,s2,m2,b2⟩:=step out hs ho;rw [a2e hn,bsm,e2,bsm];refine⟨l2,rfl,s2,fun i=>?_,b2⟩
    rw [m2];simp only [nmE,a2f o2,a1f,a1o];constructor
    ·rintro(q | ⟨q,r⟩)
     ·exact .inl q
     ·exact .inr ⟨.inr q,r⟩
    ·rintro(q | ⟨q | q,r⟩)
     ·exact .inl q
     ·subst q;exact absurd r hn
     ·exact .inr ⟨q,r⟩
  ·obtain⟨l2,e2,s2,m2,b2⟩:=step out hs ho;rw [a2e o2,bsm,e2,bsm];exact⟨l2,rfl,s2,fun i=>by rw [m2];simp only [nmE,a2e o2,a1p],b2⟩
theorem needs2 {z w:Int} (hz:z<=1000000) {AA:Nat} (hf:4000000<AA) {op nn:Int} {ks:List Int} (AC:List AS):∀ (AB:List AS) (out:List Int) (k:Nat),AC.length<k->AB.length+AC.length<=3000000->AC.all (okE w)=true->Srt out->(∀ i∈out,0<=i/\i<z) ->
 AddR z (qW AA z ⟨op,nn,AB++AC,ks⟩ k out AB.length) out (nmL AC):=by
 induction AC with
 | nil=>
  intro AB out k hk _ _ hs ho;obtain _ | k:=k
  ·omega
  rw [qW,a2e (by simp)];exact⟨out,rfl,hs,fun i=>by simp [nmL],ho⟩
 | cons e AC ih=>
  intro AB out k hk hB hr hs ho;obtain _ | k:=k
  ·omega
  simp only [a0U]at hk hB;simp only [List.all_cons,a0k]at hr;have h1:=hr.1;simp only [okE,a0k,a2d]at h1;obtain⟨l1,e1,s1,m1,b1⟩:=need_r hz AA e out (by omega) (by omega) h1.1.1 hs ho
  obtain⟨l2,e2,s2,m2,b2⟩:=ih (AB++[e]) l1 k (by omega) (by simp;omega) hr.2 s1 b1
  refine⟨l2,?_,s2,fun i=>?_,b2⟩
  ·rw [qW,a2f (bA _ _ _),bC,bsm,e1,bsm,aQ (by omega),bsm,bJ,aV,e2]
  ·rw [m2,m1];simp only [nmL,a1f];constructor
   ·rintro((q | ⟨q,r⟩) | ⟨q,r⟩)
    ·exact .inl q
    ·exact .inr ⟨.inl q,r⟩
    ·exact .inr ⟨.inr q,r⟩
   ·rintro(q | ⟨q | q,r⟩)
    ·exact .inl (.inl q)
    ·exact .inl (.inr ⟨q,r⟩)
    ·exact .inr ⟨q,r⟩
theorem node_r {p:AI} {x:AW} {z w:Int} (ok:Ok1 p x w) (hz:z<=1000000) {AA:Nat} (hf:4000000<AA) {out:List Int} (hs:Srt out) (ho:∀ i∈out,0<=i/\i<z):
 AddR z ((if x.Op=2 then
  if x.N<z then
   (kB AA out x.N).bind fun y6=>
   some y6
  else
   some out
 else
  if x.Op=6 then
   if x.N<z then
    (kB AA out x.N).bind fun y7=>
    some y7
   else
    some out
  else
   if x.Op=8 then
    if x.N<z then
     (kB AA out x.N).bind fun y8=>
     some y8
    else
     some out
   else
    some out).bind fun x7=>
 qW AA z x AA x7 0) out (nmN x):=by
 have step:∀ o1,Srt o1->(∀ i∈o1,0<=i/\i<z)->AddR z (qW AA z x AA o1 0) o1 (nmL x.AU):=fun o1 h1 h2=>by
  have:=needs2 (w:=w) hz hf (op:=x.Op) (nn:=x.N) (ks:=x.AM) x.AU [] o1 AA (by have:=ok.la;omega) (by have:=ok.la;simp;omega) ok.args h1 h2
  simpa using this
 have yes:x.Op=2\/x.Op=6\/x.Op=8->AddR z ((if x.N<z then(kB AA out x.N).bind fun y6=>some y6 else some out).bind fun x7=>qW AA z x AA x7 0) out (nmN x):=fun o=>by
  have hn0:=(ok.name o).1;by_cases hn:x.N<z
  ·obtain⟨l1,e1,s1,m1,b1⟩:=aH5 (AA:=AA) hz (by omega) hs ho hn0 hn
   obtain⟨l2,e2,s2,m2,b2⟩:=step l1 s1 b1;rw [a2f hn,e1,bsm,bsm,e2];refine⟨l2,rfl,s2,fun i=>?_,b2⟩
   rw [m2,m1];simp only [nmN,nmO,a2f o,a1f];constructor
   ·rintro((q | ⟨q,r⟩) | ⟨q,r⟩)
    ·exact .inl q
    ·exact .inr ⟨.inl q,r⟩
    ·exact .inr ⟨.inr q,r⟩
   ·rintro(q | ⟨q | q,r⟩)
    ·exact .inl (.inl q)
    ·exact .inl (.inr ⟨q,r⟩)
    ·exact .inr ⟨q,r⟩
  ·obtain⟨l2,e2,s2,m2,b2⟩:=step out hs ho;rw [a2e hn,bsm,e2];refine⟨l2,rfl,s2,fun i=>?_,b2⟩
   rw [m2];simp only [nmN,nmO,a2f o,a1f,a1o];constructor
   ·rintro(q | ⟨q,r⟩)
    ·exact .inl q
    ·exact .inr ⟨.inr q,r⟩
   ·rintro(q | ⟨q | q,r⟩)
    ·exact .inl q
    ·subst q;exact absurd r hn
    ·exact .inr ⟨q,r⟩
 by_cases o2:x.Op=2
 ·rw [a2f o2];exact yes (.inl o2)
 ·rw [a2e o2];by_cases o6:x.Op=6
  ·rw [a2f o6];exact yes (.inr (.inl o6))
  ·rw [a2e o6];by_cases o8:x.Op=8
   ·rw [a2f o8];exact yes (.inr (.inr o8))
   ·rw [a2e o8,bsm];obtain⟨l2,e2,s2,m2,b2⟩:=step out hs ho;refine⟨l2,e2,s2,fun i=>?_,b2⟩
    rw [m2];simp only [nmN,nmO,a2e (show ¬ (x.Op=2\/x.Op=6\/x.Op=8)from fun q=>q.elim o2 fun q=>q.elim o6 o8),a1p]
theorem nodes_r {p:AI} {z:Int} (hz:z<=1000000) {AA:Nat} (hf:4000000<AA) (AC:List Int):∀ (AB out:List Int) (k:Nat),AC.length<k->AB.length+AC.length<=3000000->(∀ m∈AC,∃ x w,idx p.AD m=some x/\Ok1 p x w)->Srt out->(∀ i∈out,0<=i/\i<z) ->
 ∃ l,zI AA p z (AB++AC) k out AB.length=some l/\Srt l/\(∀ i,i∈l ↔ i∈out\/((∃ m∈AC,∃ x,idx p.AD m=some x/\i∈nmN x)/\i<z))/\∀ i∈l,0<=i/\i<z:=by
 induction AC with
 | nil=>
  intro AB out k hk _ _ hs ho;obtain _ | k:=k
  ·omega
  rw [zI,a2e (by simp)];exact⟨out,rfl,hs,fun i=>by simp,ho⟩
 | cons e AC ih=>
  intro AB out k hk hB hr hs ho;obtain _ | k:=k
  ·omega
  simp only [a0U]at hk hB;obtain⟨x,w,hx,ok⟩:=hr e (.head _);obtain⟨l1,e1,s1,m1,b1⟩:=node_r ok hz hf hs ho;obtain⟨l2,e2,s2,m2,b2⟩:=ih (AB++[e]) l1 k (by omega) (by simp;omega) (fun m hm=>hr m (.tail _ hm)) s1 b1
  refine⟨l2,?_,s2,fun i=>?_,b2⟩
  ·rw [zI,a2f (bA _ _ _),bC,bsm,hx,bsm,e1,bsm,aQ (by omega),bsm,bJ,aV,e2]
  ·rw [m2,m1];simp only [a1i,exists_eq_or_imp];constructor
   ·rintro((q | ⟨q,r⟩) | ⟨q,r⟩)
    ·exact .inl q
    ·exact .inr ⟨.inl ⟨x,hx,q⟩,r⟩
    ·exact .inr ⟨.inr q,r⟩
   ·rintro(q | ⟨⟨y,hy,q⟩ | q,r⟩)
    ·exact .inl (.inl q)
    ·rw [hx]at hy;cases hy;exact .inl (.inr ⟨q,r⟩)
    ·exact .inr ⟨q,r⟩
theorem aGy {f:Nat} (hf:4000100<f) {p:AI} (hp:SmP p) {s:VS} (hc:dZ p=some s) {rk:Int->Nat} (hm:Fm p s.sz rk) {n:Int} {x:AW} {z:Int} (G:gZ p s.sz rk n x z) (hz:z<=1000000):∃ l,lM f p n=some l/\tC p n z l:=by
 have hn:=eT G.node
 obtain⟨hr,_⟩:=hm.good n hn.1 hn.2
 have h60:=hm.n60
 obtain⟨l1,e1,s1,m1⟩:=below_r hm 60 f n x z G hr (by omega) [] .nil (fun i h=>by cases h)
 have hb:∀ i∈l1,0<=i/\i<(p.AD.length:Int):=fun i hi=>by
  rcases(m1 i).1 hi with q | q
  ·cases q
  ·exact aFF hm q hn
 have hl:=uU s1 hb
 obtain⟨l2,e2,s2,m2,b2⟩:=nodes_r (p:=p) hz (AA:=f) (by omega) l1 [] [] f (by omega) (by simp;omega) (fun m hmm=>by
  obtain⟨_,y,w,G',_⟩:=hm.good m (hb m hmm).1 (hb m hmm).2;exact⟨y,w,G'.node,G'.ok⟩) .nil (fun i h=>by cases h)
 simp only [a1p,a0Y,a0q]at e2
 refine⟨l2,?_,s2,fun i=>?_⟩
 ·unfold lM aFB;rw [show(⟨p.AF,p.AD,p.AE,p.AG⟩:AI)=p from rfl,aFk hp hc (by omega),bsm,G.size,bsm,e1,bsm,bsm,e2,bsm]
 ·constructor
  ·intro hi;refine⟨(b2 i hi).1,(b2 i hi).2,?_⟩;rcases(m2 i).1 hi with q | ⟨⟨m,hmm,y,hy,q⟩,_⟩
   ·cases q
   ·rcases(m1 m).1 hmm with r | r
    ·cases r
    ·exact⟨m,y,r,hy,q⟩
  ·rintro⟨h0,h1,k,y,r,hy,q⟩
   exact(m2 i).2 (.inr ⟨⟨k,(m1 k).2 (.inr r),y,hy,q⟩,h1⟩)
open Go.SX Go.SW Go.Dt
theorem aE8 {d:Array Int} (hd:∀ i j,i<=j->j<d.size->d[i]! <=d[j]!):∀ m,m<=d.size->Srt (Go.Lib.compactUpTo d m)/\(∀ a∈Go.Lib.compactUpTo d m,∃ j,j<m/\d[j]! =a)/\(∀ j,j<m->d[j]! ∈Go.Lib.compactUpTo d m)
 | 0,_=>⟨by simp [Go.Lib.compactUpTo],fun a h=>by simp [Go.Lib.compactUpTo]at h,fun j h=>by omega⟩
 | m+1,hm=>by
  obtain⟨h1,h2,h3⟩:=aE8 hd m (by omega)
  rw [Go.Lib.compactUpTo_succ];by_cases hk:m=0\/d[m]! ≠d[m - 1]!
  ·rw [a2f (by simpa [Go.Lib.keeps] using hk)];refine⟨a1s.2 ⟨h1,a1v _ _,fun a ha b hb=>?_⟩,fun a ha=>?_,fun j hj=>?_⟩
   ·rw [a1o.1 hb];obtain⟨j,hj,rfl⟩:=h2 a ha;have q1:=hd j (m - 1) (by omega) (by omega)
    have q2:=hd (m - 1) m (by omega) (by omega)
    rcases hk with hk | hk
    ·omega
    ·omega
   ·rcases a1f.1 ha with q | q
    ·obtain⟨j,hj,e⟩:=h2 a q;exact⟨j,by omega,e⟩
    ·exact⟨m,by omega,(a1o.1 q).symm⟩
   ·by_cases e:j=m
    ·subst e;exact a1h _ (.head _)
    ·exact a1g _ (h3 j (by omega))
  ·rw [a2e (by simpa [Go.Lib.keeps] using hk),a0v];have hk':m≠0/\d[m]! =d[m - 1]! :=⟨fun q=>hk (.inl q),Classical.byContradiction fun q=>hk (.inr q)⟩
   refine⟨h1,fun a ha=>?_,fun j hj=>?_⟩
   ·obtain⟨j,hj,e⟩:=h2 a ha;exact⟨j,by omega,e⟩
   ·by_cases e:j=m
    ·subst e;rw [hk'.2];exact h3 _ (by omega)
    ·exact h3 j (by omega)
theorem aKC (l:List Int):Srt (Go.Lib.compact (fN l))/\∀ i,i∈Go.Lib.compact (fN l) ↔ i∈l:=by
 have hs:(fN l).Pairwise (fun a b=>a<=b):=by
  have:=List.pairwise_mergeSort (le:=fun x y:Int=>decide (x<=y)) (fun a b c h1 h2=>by simp at *;omega) (fun a b=>by simp;omega) l
  exact this.imp fun h=>by simpa using h
 have hd:∀ i j,i<=j->j<(fN l).toArray.size->(fN l).toArray[i]! <=(fN l).toArray[j]! :=fun i j hij hj=>by
  have hj':j<(fN l).length:=by simpa using hj
  have hi':i<(fN l).length:=by omega
  rcases a1L i j with h | h
  ·have:=(a1u.1 hs) i j hi' hj' h;simpa [hi',hj'] using this
  ·have:i=j:=by omega
   subst this;exact Int.le_refl _
 obtain⟨h1,h2,h3⟩:=aE8 hd (fN l).length (by simp)
 refine⟨h1,fun i=>?_⟩
 have hm:i∈fN l ↔ i∈l:=List.mem_mergeSort
 rw [<- hm]
 constructor
 ·intro h;obtain⟨j,hj,rfl⟩:=h2 i h;simp [hj]
 ·intro h;obtain⟨j,hj,rfl⟩:=List.mem_iff_getElem.1 h;have:=h3 j hj;show(fN l)[j]∈Go.Lib.compactUpTo (fN l).toArray (fN l).length
  simpa [hj] using this
structure Cx (p:AI) (s:VS) (rk:Int->Nat):Prop where
 sm:SmP p
 chk_:dZ p=some s
 fm:Fm p s.sz rk
def bO (p:AI) (n:Int):List Int:=(lM F p n).getD []
structure NeedB (p:AI) (s:VS) (n z:Int):Prop where
 r:∀ f,4000100<f->lM f p n=some (bO p n)
 p_:uY F ⟨p,s.sz,s.AT,s.AX⟩ n=some (bO p n)
 is:tC p n z (bO p n)
 len:((bO p n).length:Int)<=z
variable {p:AI} {s:VS} {rk:Int->Nat}
theorem Cx.need (C:Cx p s rk) {n:Int} (h0:0<=n) (h1:n<(p.AD.length:Int)):∃ x z,gZ p s.sz rk n x z/\z<=6012/\NeedB p s n z:=by
 obtain⟨_,x,z,G,hz⟩:=C.fm.good n h0 h1
 obtain⟨l,e1,i1⟩:=aGy (f:=F) (by decide) C.sm C.chk_ C.fm G (by omega)
 have hall:∀ f,4000100<f->lM f p n=some l:=fun f hf=>by
  obtain⟨l',e1',i1'⟩:=aGy hf C.sm C.chk_ C.fm G (by omega)
  rw [i1.uniq i1'];exact e1'
 obtain⟨m,e2,i2⟩:=needs_p C.fm (AT:=s.AT) (AX:=s.AX) G (by omega)
 have hl:bO p n=l:=by simp [bO,e1]
 have hm:m=l:=i2.uniq i1
 have:=uU i1.1 (a:=0) (b:=z) fun i hi=>⟨((i1.2 i).1 hi).1,((i1.2 i).1 hi).2.1⟩
 have:=G.pos
 exact⟨x,z,G,hz,⟨by rw [hl];exact hall,by rw [hl,<- hm];exact e2,by rw [hl];exact i1,by rw [hl];omega⟩⟩
def iM (p:AI):List (List Int):=(List.range p.AD.length).map fun (i:Nat)=>bO p i
theorem aCz {n:Int} (h0:0<=n) (h1:n<(p.AD.length:Int)):idx (iM p) n=some (bO p n):=by
 have:idx (iM p) (n.toNat:Int)=some (bO p n):=jU (by
  unfold iM;rw [a0L,List.getElem?_range (by omega),a1U,a0s h0])
 rwa [a0s h0]at this
theorem aFr (C:Cx p s rk):∀ (d i k:Nat),i+d=p.AD.length->d<k->nX ⟨p,s.sz,s.AT,s.AX⟩ p (fun x=>uI F x.1 x.2) k ((iM p).take i) i=some (iM p)
 | 0,i,k,h,hk=>by
  obtain _ | k:=k
  ·omega
  rw [nX,a2e (by omega),a1z (by simp [iM];omega)]
 | d+1,i,k,h,hk=>by
  obtain _ | k:=k
  ·omega
  have hi:i<p.AD.length:=by omega
  obtain⟨x,z,G,_,N⟩:=C.need (n:=(i:Int)) (by omega) (by omega)
  have h60:=C.fm.n60;rw [nX,a2f (by omega)];simp only [uI];rw [N.p_,bsm,bsm];have e:(iM p).take i++[bO p i]=(iM p).take (i+1):=by
   rw [List.take_add_one];simp [iM,hi]
  rw [e,dS (by simp [iM];omega),bsm,aQ (by omega),bsm];exact aFr C d (i+1) k (by omega) (by omega)
theorem needs_S (C:Cx p s rk):wR F p=some (iM p,0):=by
 have e:=aFr C p.AD.length 0 F (by omega) (by have:=C.fm.n60;unfold F;omega)
 rw [List.take_zero,a0q]at e
 rw [wR,aAi,aAr,show(⟨p.AF,p.AD,p.AE,p.AG⟩:AI)=p from rfl,aB3 C.sm,bsm,C.chk_]
 simp only [jL]
 rw [aAd,e,bsm,bsm,bsm,bsm]
def bH (p:AI) (n:Int):List Int:=(oP F p n).getD []
def dks (d:AO):List Int:=d.AP.map (·.AV)++d.AR.map (·.AV)
def sZ (p:AI) (d:AO) (z:Int) (l:List Int):Prop:=Srt l/\∀ i,i∈l ↔ 0<=i/\i<z/\∃ m∈dks d,i∈bO p m
theorem sZ.uniq {d:AO} {z:Int} {l m:List Int} (h:sZ p d z l) (k:sZ p d z m):l=m:=aD4 h.1 k.1 fun i=>(h.2 i).trans (k.2 i).symm
theorem want1 {f:Nat} {ch:List Aq} {sp:List Ao} (AC:List Am):∀ (AB:List Am) (acc:List Int) (k:Nat),AC.length<k->AB.length+AC.length<=3000000->acc.length+6012*AC.length<=900000000->(∀ r∈AC,lM f p r.AV=some (bO p r.AV)/\(bO p r.AV).length<=6012) ->
 aAm f p ⟨ch,sp,AB++AC⟩ k acc AB.length=some (acc++(AC.map (·.AV)).flatMap (bO p)):=by
 induction AC with
 | nil=>
  intro AB acc k hk _ _ _;obtain _ | k:=k
  ·omega
  rw [aAm,a2e (by simp)];simp
 | cons e AC ih=>
  intro AB acc k hk hB hA hr;obtain _ | k:=k
  ·omega
  simp only [a0U]at hk hB hA;obtain⟨h1,h2⟩:=hr e (.head _);rw [aAm,a2f (bA _ _ _),bC,bsm,show(⟨p.AF,p.AD,p.AE,p.AG⟩:AI)=p from rfl,h1,bsm,dS (by simp;omega),bsm,aQ (by omega),bsm,bJ,aV,
   ih (AB++[e]) (acc++bO p e.AV) k (by omega) (by simp;omega) (by simp;omega) (fun r hr'=>hr r (.tail _ hr'))]
  simp
theorem want2 {f:Nat} {ch:List Aq} {ru:List Am} (AC:List Ao):∀ (AB:List Ao) (acc:List Int) (k:Nat),AC.length<k->AB.length+AC.length<=3000000->acc.length+6012*AC.length<=900000000->(∀ r∈AC,lM f p r.AV=some (bO p r.AV)/\(bO p r.AV).length<=6012) ->
 aAB f p ⟨ch,AB++AC,ru⟩ k acc AB.length=some (acc++(AC.map (·.AV)).flatMap (bO p)):=by
 induction AC with
 | nil=>
  intro AB acc k hk _ _ _;obtain _ | k:=k
  ·omega
  rw [aAB,a2e (by simp)];simp
 | cons e AC ih=>
  intro AB acc k hk hB hA hr;obtain _ | k:=k
  ·omega
  simp only [a0U]at hk hB hA;obtain⟨h1,h2⟩:=hr e (.head _);rw [aAB,a2f (bA _ _ _),bC,bsm,show(⟨p.AF,p.AD,p.AE,p.AG⟩:AI)=p from rfl,h1,bsm,dS (by simp;omega),bsm,aQ (by omega),bsm,bJ,aV,
   ih (AB++[e]) (acc++bO p e.AV) k (by omega) (by simp;omega) (by simp;omega) (fun r hr'=>hr r (.tail _ hr'))]
  simp
def lH (u:List Bool) (S:Int->Prop) (z:Nat):Prop:=u.length=z/\∀ i:Int,0<=i->i<z->(S i->idx u i=some true)/\(¬ S i->idx u i=some false)
theorem want3 {z:Nat} (AC:List Int):∀ (AB:List Int) (u:List Bool) (S:Int->Prop) (k:Nat),AC.length<k->AB.length+AC.length<=900000000->(∀ i∈AC,0<=i)->lH u S z ->
 ∃ u',wS z (AB++AC) k u AB.length=some u'/\lH u' (fun i=>S i\/i∈AC) z:=by
 induction AC with
 | nil=>
  intro AB u S k hk _ _ h;obtain _ | k:=k
  ·omega
  rw [wS,a2e (by simp)];exact⟨u,rfl,h.1,fun i h0 h1=>⟨fun q=>(h.2 i h0 h1).1 (q.elim id fun q=>by cases q),fun q=>(h.2 i h0 h1).2 fun r=>q (.inl r)⟩⟩
 | cons e AC ih=>
  intro AB u S k hk hB hr h;obtain _ | k:=k
  ·omega
  simp only [a0U]at hk hB;have h0:=hr e (.head _);have next:∀ u1,lH u1 (fun i=>S i\/i=e) z->∃ u',wS z (AB++e :: AC) k u1 ((AB.length:Int)+1)=some u'/\lH u' (fun i=>S i\/i∈e :: AC) z:=fun u1 h1=>by
   obtain⟨u2,e2,h2⟩:=ih (AB++[e]) u1 _ k (by omega) (by simp;omega) (fun i hi=>hr i (.tail _ hi)) h1
   refine⟨u2,by rw [bJ,aV];exact e2,h2.1,fun i q0 q1=>⟨fun q=>(h2.2 i q0 q1).1 ?_,fun q=>(h2.2 i q0 q1).2 fun r=>q ?_⟩⟩
   ·rcases q with q | q
    ·exact .inl (.inl q)
    ·rcases a1i.1 q with q | q
     ·exact .inl (.inr q)
     ·exact .inr q
   ·rcases r with(r | r) | r
    ·exact .inl r
    ·exact .inr (r ▸ .head _)
    ·exact .inr (.tail _ r)
  rw [wS,a2f (bA _ _ _),bC,bsm];by_cases hz:e<(z:Int)
  ·obtain⟨b,hb⟩:=fT (xs:=u) h0 (by rw [h.1];exact hz)
   rw [a2f hz,bsm,hb,bsm,bsm,aQ (by omega),bsm];refine next _ ⟨by simp [h.1],fun i q0 q1=>⟨fun q=>?_,fun q=>?_⟩⟩
   ·by_cases ei:i=e
    ·subst ei;exact sN h0 (by rw [h.1];exact hz)
    ·rw [sL h0 ei];exact(h.2 i q0 q1).1 (q.elim id fun r=>absurd r ei)
   ·have ei:i≠e:=fun r=>q (.inr r)
    rw [sL h0 ei];exact(h.2 i q0 q1).2 fun r=>q (.inl r)
  ·rw [a2e hz,bsm,aQ (by omega),bsm];refine next u ⟨h.1,fun i q0 q1=>⟨fun q=>(h.2 i q0 q1).1 (q.elim id fun r=>by omega),fun q=>(h.2 i q0 q1).2 fun r=>q (.inl r)⟩⟩
theorem want4 {u:List Bool} {S:Int->Prop} {z:Nat} (h:lH u S z) (hz:z<=1000000):∀ (d i k:Nat) (acc:List Int),i+d=z->d<k->Srt acc->(∀ a∈acc,a<(i:Int))->acc.length<=i ->
 ∃ l,aAx z u k acc i=some l/\Srt l/\∀ a,a∈l ↔ a∈acc\/((i:Int)<=a/\a<(z:Int)/\S a)
 | 0,i,k,acc,hi,hk,hs,ha,hl=>by
  obtain _ | k:=k
  ·omega
  rw [aAx,a2e (by omega)];exact⟨acc,rfl,hs,fun a=>⟨.inl,fun q=>q.elim id fun q=>by omega⟩⟩
 | d+1,i,k,acc,hi,hk,hs,ha,hl=>by
  obtain _ | k:=k
  ·omega
  rw [aAx,a2f (by omega)];by_cases hS:S (i:Int)
  ·rw [(h.2 _ (by omega) (by omega)).1 hS,bsm,a2a,dS (by simp;omega),bsm,bsm,aQ (by omega),bsm];obtain⟨l,e,q1,q2⟩:=want4 h hz d (i+1) k (acc++[(i:Int)]) (by omega) (by omega)
    (a1s.2 ⟨hs,a1v _ _,fun a ha' b hb=>by rw [a1o.1 hb];exact ha a ha'⟩)
    (fun a ha'=>by rcases a1f.1 ha' with q | q
                   ·have:=ha a q;omega
                   ·rw [a1o.1 q];omega) (by simp;omega)
   refine⟨l,e,q1,fun a=>?_⟩
   rw [q2,a1f,a1o];constructor
   ·rintro((q | rfl) | ⟨h1,h2,h3⟩)
    ·exact .inl q
    ·exact .inr ⟨by omega,by omega,hS⟩
    ·exact .inr ⟨by omega,h2,h3⟩
   ·rintro(q | ⟨h1,h2,h3⟩)
    ·exact .inl (.inl q)
    ·by_cases e0:a=(i:Int)
     ·exact .inl (.inr e0)
     ·exact .inr ⟨by omega,h2,h3⟩
  ·rw [(h.2 _ (by omega) (by omega)).2 hS,bsm,a1Z,bsm,aQ (by omega),bsm];obtain⟨l,e,q1,q2⟩:=want4 h hz d (i+1) k acc (by omega) (by omega) hs (fun a ha'=>by have:=ha a ha';omega) (by omega)
   refine⟨l,e,q1,fun a=>?_⟩
   rw [q2];constructor
   ·rintro(q | ⟨h1,h2,h3⟩)
    ·exact .inl q
    ·exact .inr ⟨by omega,h2,h3⟩
   ·rintro(q | ⟨h1,h2,h3⟩)
    ·exact .inl q
    ·by_cases e0:a=(i:Int)
     ·subst e0;exact absurd h3 hS
     ·exact .inr ⟨by omega,h2,h3⟩
theorem Cx.dks (C:Cx p s rk) {n:Int} {x:AW} {z:Int} (G:gZ p s.sz rk n x z) (o4:x.Op=4):∃ d,idx p.AE x.N=some d/\okD d=true/\∀ m∈dks d,∃ w,NeedB p s m w/\w<=6012:=by
 obtain⟨d,ed,okd⟩:=G.ok.def_ o4
 refine⟨d,ed,okd,fun m hm=>?_⟩
 obtain⟨w,hw⟩:=uN (p:=p) (x:=x) (z:=z) (m:=m) (by unfold kd;rw [a2f o4,ed];exact a1g _ hm)
 obtain⟨q1,_⟩:=G.below _ hw
 have h1:=eT q1
 have:=C.fm.len
 obtain⟨_,w',_,hw',N⟩:=C.need (n:=m) h1.1 (by simp only at *;omega)
 exact⟨w',N,hw'⟩
theorem aBf (C:Cx p s rk) {n:Int} {x:AW} {z:Int} (G:gZ p s.sz rk n x z) (hz:z<=6012) (o4:x.Op=4):∃ d,idx p.AE x.N=some d/\okD d=true/\(∀ f,4000100<f->oP f p n=some (bH p n))/\sZ p d z (bH p n):=by
 obtain⟨d,ed,okd,hd⟩:=C.dks G o4
 refine⟨d,ed,okd,?_⟩
 have hl:=gU okd
 have h0:=G.pos
 have fin:∃ l,(∀ f,4000100<f->oP f p n=some l)/\sZ p d z l:=by
  have main:∀ f,4000100<f->∃ l,oP f p n=some l/\sZ p d z l:=fun f hf=>by
   have e1:=want1 (f:=f) (p:=p) (ch:=d.AN) (sp:=d.AR) d.AP [] [] f (by omega) (by simp;omega) (by simp;omega) (fun r hr=>by
    obtain⟨w,N,hw⟩:=hd r.AV (a1g _ (a1k.2 ⟨r,hr,rfl⟩));exact⟨N.r f hf,by have:=N.len;omega⟩)
   have hb:∀ m∈dks d,(bO p m).length<=6012:=fun m hm=>by obtain⟨w,N,hw⟩:=hd m hm;have:=N.len;omega
   have hfl:∀ ms:List Int,(∀ m∈ms,(bO p m).length<=6012)->(ms.flatMap (bO p)).length<=6012*ms.length:=fun ms=>by
    induction ms with
    | nil=>simp
    | cons m ms ih=>
     intro h;have q1:=h m (.head _);have q2:=ih fun m hm=>h m (.tail _ hm)
     simp only [a0D,a0T,a0U];omega
   have hr:=hfl (d.AP.map (·.AV)) fun m hm=>hb m (a1g _ hm)
   rw [a0X]at hr;have hs:=hfl (d.AR.map (·.AV)) fun m hm=>hb m (a1h _ hm)
   rw [a0X]at hs;have e2:=want2 (f:=f) (p:=p) (ch:=d.AN) (ru:=d.AP) d.AR [] ((d.AP.map (·.AV)).flatMap (bO p)) f (by omega) (by simp;omega) (by omega) (fun r hr=>by
    obtain⟨w,N,hw⟩:=hd r.AV (a1h _ (a1k.2 ⟨r,hr,rfl⟩));exact⟨N.r f hf,by have:=N.len;omega⟩)
   rw [<- a0C]at e2;simp only [a1p,a0Y,a0q]at e1 e2;have h3:lH (List.replicate z.toNat false) (fun _=>False) z.toNat:=⟨by simp,fun i q0 q1=>⟨fun q=>q.elim,fun _=>by
    obtain⟨b,hb⟩:=fT (xs:=List.replicate z.toNat false) q0 (by simpa using q1)
    rw [hb,List.eq_of_mem_replicate (gI hb)]⟩⟩
   have hmem:∀ i∈(dks d).flatMap (bO p),∃ m∈dks d,i∈bO p m:=fun i hi=>List.mem_flatMap.1 hi
   have hnn:∀ i∈(dks d).flatMap (bO p),0<=i:=fun i hi=>by
    obtain⟨m,hm,hi⟩:=hmem i hi;obtain⟨w,N,_⟩:=hd m hm;exact((N.is.2 i).1 hi).1
   have hlen:((dks d).flatMap (bO p)).length<=500000:=by
    rw [Go.Proofs.YtgidgoahhepmlaaGreat.dks,a0C,a0T];omega
   obtain⟨u,e3,h4⟩:=want3 (z:=z.toNat) ((dks d).flatMap (bO p)) [] _ _ f (by omega) (by rw [a0Y];omega) hnn h3
   obtain⟨l,e4,s4,m4⟩:=want4 h4 (by omega) z.toNat 0 f [] (by omega) (by omega) .nil (fun a h=>by cases h) (a1R _)
   simp only [a1p,a0Y,a0q]at e3 e4;rw [a0s h0]at e3 e4;have e:oP f p n=some l:=by
    unfold oP;rw [G.node,bsm,a2e (by simp [o4]),show(⟨p.AF,p.AD,p.AE,p.AG⟩:AI)=p from rfl,aFk C.sm C.chk_ (by omega),bsm,G.size,bsm,show mk false z=mk false (z.toNat:Int)from by rw [a0s h0],aAj (by omega),bsm,ed,bsm,e1,bsm,e2,bsm];rw [show(d.AP.map (·.AV)++d.AR.map (·.AV))=Go.Proofs.YtgidgoahhepmlaaGreat.dks d from rfl,e3,bsm,e4,bsm]
   refine⟨l,e,s4,fun i=>?_⟩
   rw [m4];simp only [List.not_mem_nil,false_or,a0s h0,a0q,List.mem_flatMap]
  obtain⟨l,_,i0⟩:=main F (by decide)
  exact⟨l,fun f hf=>by
   obtain⟨l',e',i'⟩:=main f hf;rw [i0.uniq i'];exact e',i0⟩
 obtain⟨l,e,i0⟩:=fin
 have hw:bH p n=l:=by simp [bH,e F (by decide)]
 rw [hw]
 exact⟨e,i0⟩
theorem yJ (C:Cx p s rk) {n:Int} {x:AW} {z:Int} (G:gZ p s.sz rk n x z) (o4:x.Op≠4):(∀ f,4000100<f->oP f p n=some (bH p n))/\bH p n=bO p n:=by
 have hn:=eT G.node
 obtain⟨_,_,_,_,N⟩:=C.need hn.1 hn.2
 have e:∀ f,4000100<f->oP f p n=some (bO p n):=fun f hf=>by
  unfold oP;rw [G.node,bsm,a2f o4,show(⟨p.AF,p.AD,p.AE,p.AG⟩:AI)=p from rfl,N.r f hf,bsm]
 have hw:bH p n=bO p n:=by simp [bH,e F (by decide)]
 exact⟨by rw [hw];exact e,hw⟩
theorem ask1 {sz:List Int} {n z:Int} (hz:idx sz n=some z) (AC:List Int):∀ (AB acc:List Int) (k:Nat),AC.length<k->AB.length+AC.length<=900000000->acc.length+AC.length<=900000000 ->
 pH sz n (AB++AC) k AB.length acc=some (acc++AC.filter (fun y=>decide (y<z))):=by
 induction AC with
 | nil=>
  intro AB acc k hk _ _;obtain _ | k:=k
  ·omega
  rw [pH,a2e (by simp)];simp
 | cons e AC ih=>
  intro AB acc k hk hB hA;obtain _ | k:=k
  ·omega
  simp only [a0U]at hk hB hA;rw [pH,a2f (bA _ _ _),bC,bsm,hz,bsm];by_cases h:e<z
  ·rw [a2f h,dS (by simp;omega),bsm,bsm,aQ (by omega),bsm,bJ,aV,ih (AB++[e]) (acc++[e]) k (by omega) (by simp;omega) (by simp;omega)];simp [h]
  ·rw [a2e h,bsm,aQ (by omega),bsm,bJ,aV,ih (AB++[e]) acc k (by omega) (by simp;omega) (by omega)];simp [h]
def jD (p:AI) (z:Int) (m:Int):List Int:=(bO p m).filter (fun y=>decide (y<z))
theorem ask_p {sz:List Int} {n z m:Int} (hz:idx sz n=some z) (hm:0<=m/\m<(p.AD.length:Int)) (hl:(bO p m).length<=6012) {acc:List Int} (ha:acc.length<=800000000):wB F m (iM p) sz n acc=some (acc++jD p z m):=by
 unfold wB
 rw [aCz hm.1 hm.2,bsm]
 have:=ask1 hz (bO p m) [] acc F (by unfold F;omega) (by simp;omega) (by omega)
 simpa [jD] using this
theorem ask2 {sz:List Int} {n z:Int} {e1 e2:Int} (hz:idx sz n=some z) {ch:List Aq} {sp:List Ao} (AC:List Am):∀ (AB:List Am) (acc:List Int) (k:Nat),AC.length<k->AB.length+AC.length<=3000000->acc.length+6012*AC.length<=800000000 ->
 (∀ r∈AC,(0<=r.AV/\r.AV<(p.AD.length:Int))/\(bO p r.AV).length<=6012)->pW F (iM p,e1) (sz,e2) n ⟨ch,sp,AB++AC⟩ k AB.length acc=some (acc++(AC.map (·.AV)).flatMap (jD p z)):=by
 induction AC with
 | nil=>
  intro AB acc k hk _ _ _;obtain _ | k:=k
  ·omega
  rw [pW,a2e (by simp)];simp
 | cons e AC ih=>
  intro AB acc k hk hB hA hr;obtain _ | k:=k
  ·omega
  simp only [a0U]at hk hB hA;obtain⟨h1,h2⟩:=hr e (.head _);have hb:(jD p z e.AV).length<=6012:=a1J (a0W _ _) h2;rw [pW,a2f (bA _ _ _),bC,bsm];simp only
  rw [ask_p hz h1 h2 (by omega),bsm,aQ (by omega),bsm,bJ,aV,ih (AB++[e]) (acc++jD p z e.AV) k (by omega) (by simp;omega) (by simp;omega) (fun r hr'=>hr r (.tail _ hr'))];simp
theorem ask3 {sz:List Int} {n z:Int} {e1 e2:Int} (hz:idx sz n=some z) {ch:List Aq} {ru:List Am} (AC:List Ao):∀ (AB:List Ao) (acc:List Int) (k:Nat),AC.length<k->AB.length+AC.length<=3000000->acc.length+6012*AC.length<=800000000 ->
 (∀ r∈AC,(0<=r.AV/\r.AV<(p.AD.length:Int))/\(bO p r.AV).length<=6012)->oU F (iM p,e1) (sz,e2) n ⟨ch,AB++AC,ru⟩ k AB.length acc=some (acc++(AC.map (·.AV)).flatMap (jD p z)):=by
 induction AC with
 | nil=>
  intro AB acc k hk _ _ _;obtain _ | k:=k
  ·omega
  rw [oU,a2e (by simp)];simp
 | cons e AC ih=>
  intro AB acc k hk hB hA hr;obtain _ | k:=k
  ·omega
  simp only [a0U]at hk hB hA;obtain⟨h1,h2⟩:=hr e (.head _);have hb:(jD p z e.AV).length<=6012:=a1J (a0W _ _) h2;rw [oU,a2f (bA _ _ _),bC,bsm];simp only
  rw [ask_p hz h1 h2 (by omega),bsm,aQ (by omega),bsm,bJ,aV,ih (AB++[e]) (acc++jD p z e.AV) k (by omega) (by simp;omega) (by simp;omega) (fun r hr'=>hr r (.tail _ hr'))];simp
def Asks (p:AI) (g:aL Int (List Int)) (k:Nat):Prop:=∀ i:Int,0<=i->i<(k:Int)->g.get i=some (bH p i)
theorem aC9 (C:Cx p s rk):∀ (d i k:Nat) (g:aL Int (List Int)),i+d=p.AD.length->d<k->Asks p g i->∃ g',qD F p (iM p,0) (s.sz,0) k i g=some g'/\Asks p g' p.AD.length
 | 0,i,k,g,h,hk,ha=>by
  obtain _ | k:=k
  ·omega
  rw [qD,a2e (by omega)];exact⟨g,rfl,by rw [<- h];exact ha⟩
 | d+1,i,k,g,h,hk,ha=>by
  obtain _ | k:=k
  ·omega
  have h60:=C.fm.n60;obtain⟨x,z,G,hz,N⟩:=C.need (n:=(i:Int)) (by omega) (by omega)
  rw [qD,a2f (by omega),G.node,bsm];have next:Asks p (aL.upd g (i:Int) (bH p i)) (i+1):=fun j h0 h1=>by
   have e:(aL.upd g (i:Int) (bH p i)).get j=if j=(i:Int)then some (bH p i) else g.get j:=rfl
   rw [e];by_cases ej:j=(i:Int)
   ·rw [a2f ej,ej]
   ·rw [a2e ej];exact ha j h0 (by omega)
  by_cases o4:x.Op=4
  ·obtain⟨d',ed,okd,e0,iw⟩:=aBf C G hz o4;obtain⟨d2,ed2,_,hd⟩:=C.dks G o4;rw [ed]at ed2;cases ed2
   have hl:=gU okd;have hin:∀ m∈dks d',(0<=m/\m<(p.AD.length:Int))/\(bO p m).length<=6012:=fun m hm=>by
    obtain⟨w,N,hw⟩:=hd m hm;refine⟨?_,by have:=N.len;omega⟩
    obtain⟨w2,hw2⟩:=uN (p:=p) (x:=x) (z:=z) (m:=m) (by unfold kd;rw [a2f o4,ed];exact a1g _ hm)
    obtain⟨q1,_⟩:=G.below _ hw2;have h1:=eT q1;have:=C.fm.len;simp only at *;omega
   have e2:=ask2 (p:=p) (e1:=0) (e2:=0) G.size (ch:=d'.AN) (sp:=d'.AR) d'.AP [] [] F (by unfold F;omega) (by simp;omega) (by simp;omega) (fun r hr=>hin r.AV (a1g _ (a1k.2 ⟨r,hr,rfl⟩)))
   have hfl:∀ ms:List Int,(∀ m∈ms,(bO p m).length<=6012)->(ms.flatMap (jD p z)).length<=6012*ms.length:=fun ms=>by
    induction ms with
    | nil=>simp
    | cons m ms ih=>
     intro h;have q1:(jD p z m).length<=6012:=a1J (a0W _ _) (h m (.head _));have q2:=ih fun m hm=>h m (.tail _ hm)
     simp only [a0D,a0T,a0U];omega
   have hr:=hfl (d'.AP.map (·.AV)) fun m hm=>(hin m (a1g _ hm)).2
   rw [a0X]at hr;have e3:=ask3 (p:=p) (e1:=0) (e2:=0) G.size (ch:=d'.AN) (ru:=d'.AP) d'.AR [] ((d'.AP.map (·.AV)).flatMap (jD p z)) F (by unfold F;omega) (by simp;omega) (by omega) (fun r hr=>hin r.AV (a1h _ (a1k.2 ⟨r,hr,rfl⟩)))
   rw [<- a0C]at e3;simp only [a1p,a0Y,a0q]at e2 e3;have hc:=aKC ((dks d').flatMap (jD p z));have hw:Go.Lib.compact (fN ((dks d').flatMap (jD p z)))=bH p i:=sZ.uniq (p:=p) (d:=d') (z:=z) ⟨hc.1,fun j=>by
    rw [hc.2,List.mem_flatMap];constructor
    ·rintro⟨m,hm,hj⟩
     obtain⟨w,N,_⟩:=hd m hm;have hj':=List.mem_filter.1 hj;exact⟨((N.is.2 j).1 hj'.1).1,by simpa using hj'.2,m,hm,hj'.1⟩
    ·rintro⟨_,h1,m,hm,hj⟩
     exact⟨m,hm,List.mem_filter.2 ⟨hj,by simpa using h1⟩⟩⟩ iw
   rw [a2e (by simp [o4]),ed,bsm,e2,bsm,bsm];rw [e3,bsm];rw [show(d'.AP.map (·.AV)++d'.AR.map (·.AV))=Go.Proofs.YtgidgoahhepmlaaGreat.dks d' from rfl,aC0,bsm,aDz,bsm,bsm,hw,aQ (by omega),bsm];exact aC9 C d (i+1) k _ (by omega) (by omega) next
  ·obtain⟨_,e⟩:=yJ C G o4;rw [a2f o4,aCz (by omega) (by omega),bsm,bsm,aQ (by omega),bsm];rw [e]at next;exact aC9 C d (i+1) k _ (by omega) (by omega) next
theorem aGB (C:Cx p s rk):∃ g,sR F p=some (g,0)/\Asks p g p.AD.length/\g.get (-1)=some (bO p p.AG):=by
 have h60:=C.fm.n60
 obtain⟨g,e,ha⟩:=aC9 C p.AD.length 0 F aL.none (by omega) (by unfold F;omega) (fun i h0 h1=>by omega)
 have hm:=eT C.fm.main
 have:=C.fm.len
 rw [a0q]at e
 refine⟨aL.upd g (-1) (bO p p.AG),?_,fun i h0 h1=>?_,rfl⟩
 ·unfold sR;rw [show(⟨p.AF,p.AD,p.AE,p.AG⟩:AI)=p from rfl,needs_S C,bsm];simp only [ne_eq,not_true_eq_false,if_false];rw [aGt C.sm C.chk_ C.fm.len h60,bsm,e,bsm,aCz hm.1 (by omega),bsm]
 ·show(if i=-1 then some (bO p p.AG) else g.get i)=_
  rw [a2e (by omega)];exact ha i h0 h1
end Go.Proofs.YtgidgoahhepmlaaGreat
