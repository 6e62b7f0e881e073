/- Parts of the proof: lemmas, and the steps through the program. -/
import Derived.Test.YtgidgoahhepmlaaGreatFo5
import Derived.Test.YtgidgoahhepmlaaGreatRows
import Derived.ChangeSame
import Derived.ChangeReads
import Derived.ReadAgain
import Derived.ChangeStays
import Derived.ChangeBears
set_option linter.unusedVariables false
set_option linter.unusedSimpArgs false
set_option maxRecDepth 100000
set_option maxHeartbeats 2000000
namespace Go.Proofs.YtgidgoahhepmlaaGreat
open Go.SX Go.SW Go.Dt
abbrev Srt (l:List Int):Prop:=l.Pairwise (·<·)
theorem aB4:∀ {l m:List Int},Srt l->Srt m->(∀ i,i∈l ↔ i∈m)->l=m
 | [],[],_,_,_=>rfl
 | [],b :: m,_,_,h=>by have:=(h b).2 (.head _);cases this
 | a :: l,[],_,_,h=>by have:=(h a).1 (.head _);cases this
 | a :: l,b :: m,h1,h2,h=>by
  obtain⟨h1a,h1'⟩:=a1b.1 h1;obtain⟨h2a,h2'⟩:=a1b.1 h2;have e:a=b:=by
   have q1:a=b\/b<a:=by
    rcases a0R.1 ((h a).1 (.head _))with q | q
    ·exact .inl q
    ·exact .inr (h2a a q)
   have q2:b=a\/a<b:=by
    rcases a0R.1 ((h b).2 (.head _))with q | q
    ·exact .inl q
    ·exact .inr (h1a b q)
   omega
  subst e;refine congrArg (a :: ·) (aB4 h1' h2' fun i=>?_)
  grind
theorem rD:∀ {l:List Int} {a b:Int},Srt l->(∀ i∈l,a<=i/\i<b)->(l.length:Int)<=max 0 (b - a)
 | [],a,b,_,_=>by simp;omega
 | x :: l,a,b,h,hb=>by
  obtain⟨h1,h2⟩:=a1b.1 h;have:=rD (a:=x+1) (b:=b) h2 (by grind)
  have:=hb x (.head _)
  grind
mutual
def nmE:AV->List Int
 | ⟨op,n,ks⟩=>(if op=2 then [n] else [])++nmL ks
def nmL:List AV->List Int
 | []=>[]
 | k :: ks=>nmE k++nmL ks
end
def nmO (x:AZ):List Int:=if x.Op=2\/x.Op=6\/x.Op=8 then [x.N] else []
def nmN (x:AZ):List Int:=nmO x++nmL x.AX
def kd (p:AJ) (x:AZ):List Int:=
 if x.Op=4 then match idx p.AD x.N with
  | some d=>(d.AQ.map (·.AW)++d.AS.map (·.AW))++x.AM
  | none=>[]
 else x.AM
theorem qR {p:AJ} {x:AZ} {z m:Int} (h:m∈kd p x):∃ w,(m,w)∈gV p x z:=by
 unfold kd at h;unfold gV
 split at h
 ·rename_i h4;rw [a1E h4];cases e:idx p.AD x.N with
  | none=>rw [e]at h;cases h
  | some d=>
   rw [e]at h;simp only [a0O,a0T]at h;simp only [chD,a0O,a0T];rcases h with(⟨r,hr,rfl⟩ | ⟨y,hy,rfl⟩) | h
   ·grind
   ·grind
   grind
 ·rename_i h4;rw [a1D h4];exact⟨z,(by grind)⟩
inductive Rch (p:AJ):Int->Int->Prop
 | refl (n:Int):Rch p n n
 | step {n m k:Int} {x:AZ} (h:idx p.AB n=some x) (hm:m∈kd p x) (r:Rch p m k):Rch p n k
def Occ (p:AJ) (n i:Int):Prop:=∃ k x,Rch p n k/\idx p.AB k=some x/\i∈nmN x
theorem aEg {p:AJ} {n k:Int} {x:AZ} (h:idx p.AB n=some x):Rch p n k ↔ k=n\/∃ m∈kd p x,Rch p m k:=by
 constructor
 ·intro r;cases r with
  | refl=>exact .inl rfl
  | step h1 hm r=>grind
 ·rintro(rfl | ⟨m,hm,r⟩)
  ·exact .refl _
  ·exact .step h hm r
theorem aBS {p:AJ} {n i:Int} {x:AZ} (h:idx p.AB n=some x):Occ p n i ↔ i∈nmN x\/∃ m∈kd p x,Occ p m i:=by
 constructor
 ·rintro⟨k,y,r,hy,hi⟩
  rcases(aEg h).1 r with rfl | ⟨m,hm,r⟩
  ·grind
  ·exact .inr ⟨m,hm,k,y,r,hy,hi⟩
 ·rintro(hi | ⟨m,hm,k,y,r,hy,hi⟩)
  ·exact⟨n,x, .refl _,h,hi⟩
  ·exact⟨k,y, .step h hm r,hy,hi⟩
def Has (g:aM Int Bool) (S:Int->Prop):Prop:=∀ i,(S i->g.get i=some true)/\(¬ S i->g.get i=none)
theorem Has.congr {g:aM Int Bool} {S U:Int->Prop} (h:Has g S) (e:∀ i,S i ↔ U i):Has g U:=by grind [Has]
theorem aCx {g:aM Int Bool} {S:Int->Prop} (h:Has g S) (n:Int):Has (aM.upd g n true) (fun i=>S i\/i=n):=fun i=>by
 have e:(aM.upd g n true).get i=if i=n then some true else g.get i:=rfl
 rw [e]
 constructor
 ·rintro(hi | rfl)
  ·split
   ·rfl
   ·exact(h i).1 hi
  ·rw [a1E rfl]
 ·intro hi;rw [a1D (fun q=>hi (.inr q))];exact(h i).2 fun q=>hi (.inl q)
theorem has_none:Has (aM.none:aM Int Bool) (fun _=>False):=fun i=>⟨fun h=>h.elim,fun _=>rfl⟩
theorem aIF {rec:aM Int Bool->AV->Option (aM Int Bool)} {op n:Int} (AE:List AV):∀ (AC:List AV) (k:Nat) (g:aM Int Bool) (S:Int->Prop),AE.length<k->AC.length+AE.length<=3000000 ->
 (∀ e∈AE,∀ g S,Has g S->∃ g',rec g e=some g'/\Has g' (fun i=>S i\/i∈nmE e))->Has g S->∃ g',oB rec ⟨op,n,AC++AE⟩ k AC.length g=some g'/\Has g' (fun i=>S i\/i∈nmL AE):=by
 induction AE with
 | nil=>
  intro AC k g S hk _ _ h;obtain _ | k:=k
  ·omega
  rw [oB,a1D (by simp)]
  simp_all [nmL]
 | cons e AE ih=>
  intro AC k g S hk hB hr h;obtain _ | k:=k
  ·omega
  simp only [a0G]at hk hB;obtain⟨g1,e1,h1⟩:=hr e (.head _) g S h;obtain⟨g2,e2,h2⟩:=ih (AC++[e]) k g1 _ (by omega) (by simp;omega) (by grind) h1
  refine⟨g2,?_,(by grind [nmL])⟩
  rw [oB,a1E (bJ _ _ _),bP,bsm,lQ,e1,bsm,aQ (by omega),bsm,bR,bE,e2]
theorem asks_p (AA:Nat):∀ (e:AV) (g:aM Int Bool) (S:Int->Prop),nE e<AA->nE e<=2000000->Has g S->∃ g',lF AA g e=some g'/\Has g' (fun i=>S i\/i∈nmE e):=by
 induction AA with
 | zero=>intro e g S h;omega
 | succ AA ih=>
  intro ⟨op,n,ks⟩ g S hf hB h
  simp only [nE]at hf hB;have hlen:=nD ks;have step:∀ g1 S1,Has g1 S1->∃ g',oB (lF AA) ⟨op,n,ks⟩ AA 0 g1=some g'/\Has g' (fun i=>S1 i\/i∈nmL ks):=fun g1 S1 h1=>by
   have:=aIF (rec:=lF AA) (op:=op) (n:=n) ks [] AA g1 S1 (by omega) (by simp;omega) (fun e he g S hg=>ih e g S (by have:=gT he;omega) (by have:=gT he;omega) hg) h1
   simpa using this
  rw [lF];dsimp only
  by_cases o2:op=2
  ·obtain⟨g',e1,h1⟩:=step _ _ (aCx h n);rw [a1E o2,bsm,e1];exact⟨g',rfl,(by grind [nmE])⟩
  simp_all [nmE]
theorem asksL_p {AA:Nat} {op nn:Int} {ks:List Int} (hf:2000000<AA) (AE:List AV):∀ (AC:List AV) (k:Nat) (g:aM Int Bool) (S:Int->Prop),AE.length<k->AC.length+AE.length<=3000000->(∀ e∈AE,nE e<=2000000)->Has g S ->
 ∃ g',oY AA ⟨op,nn,AC++AE,ks⟩ k AC.length g=some g'/\Has g' (fun i=>S i\/i∈nmL AE):=by
 induction AE with
 | nil=>
  intro AC k g S hk _ _ h;obtain _ | k:=k
  ·omega
  rw [oY,a1D (by simp)]
  simp_all [nmL]
 | cons e AE ih=>
  intro AC k g S hk hB hr h;obtain _ | k:=k
  ·omega
  simp only [a0G]at hk hB;have he:=hr e (.head _);obtain⟨g1,e1,h1⟩:=asks_p AA e g S (by omega) he h
  obtain⟨g2,e2,h2⟩:=ih (AC++[e]) k g1 _ (by omega) (by simp;omega) (by grind) h1
  refine⟨g2,?_,(by grind [nmL])⟩
  rw [oY,a1E (bJ _ _ _),bP,bsm,lQ,e1,bsm,aQ (by omega),bsm,bR,bE,e2]
theorem kind_p (op:Int):∃ v u1 u2,iJ op=some v/\eA 207 (.agg #[]) v=some (u1,decide (op=2))/\eA 208 (.agg #[]) v=some (u2,decide (op=6\/op=8)):=by
 by_cases h:shp op=none
 ·refine⟨.nilIface, .agg #[], .agg #[],aGl h,?_,?_⟩
  ·have h2:op≠2:=by grind [shp]
   rw [a1A h2];rfl
  ·have h2:¬ (op=6\/op=8):=by grind [shp]
   rw [a1A h2];rfl
 ·have:op=1\/op=7\/op=3\/op=2\/op=5\/op=6\/op=8\/op=4:=by
   unfold shp at h
   grind
  rcases this with rfl | rfl | rfl | rfl | rfl | rfl | rfl | rfl <;> exact⟨_,_,_,rfl,rfl,rfl⟩
theorem b1_p {L:Af} {AA:Nat} {n:Int} {x:AZ} (hx:idx L.p.AB n=some x) (hf:3000000<AA) (hl:x.AX.length<=2000000) (ha:∀ e∈x.AX,nE e<=2000000) {g:aM Int Bool} {S:Int->Prop} (h:Has g S):
 ∃ g',pQ AA L n g=some g'/\Has g' (fun i=>S i\/i∈nmN x):=by
 obtain⟨v,u1,u2,e1,e2,e3⟩:=kind_p x.Op
 have step:∀ g1 S1,Has g1 S1->∃ g',oY AA x AA 0 g1=some g'/\Has g' (fun i=>S1 i\/i∈nmL x.AX):=fun g1 S1 h1=>by
  have:=asksL_p (AA:=AA) (op:=x.Op) (nn:=x.N) (ks:=x.AM) (by omega) x.AX [] AA g1 S1 (by omega) (by simp;omega) ha h1
  simpa using this
 unfold pQ
 rw [hx,bsm,e1,bsm,e2,bsm]
 dsimp only
 rw [e3,bsm]
 dsimp only
 by_cases o2:x.Op=2
 ·obtain⟨g',q1,q2⟩:=step _ _ (aCx h x.N);rw [a1B o2,a1z,bsm,q1];exact⟨g',rfl,q2.congr fun i=>by simp only [nmN,nmO,a1E (show x.Op=2\/x.Op=6\/x.Op=8 from .inl o2),a0O,a0W];exact or_assoc⟩
 ·rw [a1A o2,a1y];by_cases o6:x.Op=6\/x.Op=8
  ·obtain⟨g',q1,q2⟩:=step _ _ (aCx h x.N);rw [a1B o6,a1z,bsm,q1];exact⟨g',rfl,q2.congr fun i=>by simp only [nmN,nmO,a1E (show x.Op=2\/x.Op=6\/x.Op=8 from .inr o6),a0O,a0W];exact or_assoc⟩
  ·obtain⟨g',q1,q2⟩:=step _ _ h;rw [a1A o6,a1y,bsm,q1];exact⟨g',rfl,q2.congr fun i=>by simp only [nmN,nmO,a1D (show ¬ (x.Op=2\/x.Op=6\/x.Op=8)from fun q=>q.elim o2 o6),a0X]⟩
abbrev YN (L:Af) (AA:Nat):Int->aM Int Bool->Option (aM Int Bool):=fun (x:Int) (t:aM Int Bool)=>pQ AA L x t
abbrev RecB:=Int->(Int->aM Int Bool->Option (aM Int Bool))->aM Int Bool->Af->Option (aM Int Bool × Bool)
def Vis1 (p:AJ) (rec:RecB) (Y:Int->aM Int Bool->Option (aM Int Bool)) (L:Af) (m:Int):Prop:=∀ g S,Has g S->∃ g',rec m Y g L=some (g',true)/\Has g' (fun i=>S i\/Occ p m i)
variable {p:AJ} {rec:RecB} {Y:Int->aM Int Bool->Option (aM Int Bool)} {L:Af}
theorem bl1 {ch:List Aq} {sp:List Ap} (AE:List Ah):∀ (AC:List Ah) (k:Nat) (g:aM Int Bool) (S:Int->Prop),AE.length<k->AC.length+AE.length<=3000000->(∀ r∈AE,Vis1 p rec Y L r.AW)->Has g S ->
 ∃ g',tP rec Y L ⟨ch,sp,AC++AE⟩ k AC.length g=some (.inl g')/\Has g' (fun i=>S i\/∃ m∈AE.map (·.AW),Occ p m i):=by
 induction AE with
 | nil=>
  intro AC k g S hk _ _ h;obtain _ | k:=k
  ·omega
  simp_all [tP]
 | cons e AE ih=>
  intro AC k g S hk hB hr h;obtain _ | k:=k
  ·omega
  simp only [a0G]at hk hB;obtain⟨g1,e1,h1⟩:=hr e (.head _) g S h;obtain⟨g2,e2,h2⟩:=ih (AC++[e]) k g1 _ (by omega) (by simp;omega) (by grind) h1
  refine⟨g2,?_,(by grind)⟩
  rw [tP,a1E (bJ _ _ _),bP,bsm,e1,bsm]
  grind [chk]
theorem bl2 {ch:List Aq} {ru:List Ah} (AE:List Ap):∀ (AC:List Ap) (k:Nat) (g:aM Int Bool) (S:Int->Prop),AE.length<k->AC.length+AE.length<=3000000->(∀ r∈AE,Vis1 p rec Y L r.AW)->Has g S ->
 ∃ g',sR rec Y L ⟨ch,AC++AE,ru⟩ k AC.length g=some (.inl g')/\Has g' (fun i=>S i\/∃ m∈AE.map (·.AW),Occ p m i):=by
 induction AE with
 | nil=>
  intro AC k g S hk _ _ h;obtain _ | k:=k
  ·omega
  simp_all [sR]
 | cons e AE ih=>
  intro AC k g S hk hB hr h;obtain _ | k:=k
  ·omega
  simp only [a0G]at hk hB;obtain⟨g1,e1,h1⟩:=hr e (.head _) g S h;obtain⟨g2,e2,h2⟩:=ih (AC++[e]) k g1 _ (by omega) (by simp;omega) (by grind) h1
  refine⟨g2,?_,(by grind)⟩
  rw [sR,a1E (bJ _ _ _),bP,bsm,e1,bsm]
  grind [chk]
theorem bl3 {op nn:Int} {ar:List AV} (AE:List Int):∀ (AC:List Int) (k:Nat) (g:aM Int Bool) (S:Int->Prop),AE.length<k->AC.length+AE.length<=3000000->(∀ r∈AE,Vis1 p rec Y L r)->Has g S ->
 ∃ g',tE rec Y L ⟨op,nn,ar,AC++AE⟩ k AC.length g=some (.inl g')/\Has g' (fun i=>S i\/∃ m∈AE,Occ p m i):=by
 induction AE with
 | nil=>
  intro AC k g S hk _ _ h;obtain _ | k:=k
  ·omega
  simp_all [tE]
 | cons e AE ih=>
  intro AC k g S hk hB hr h;obtain _ | k:=k
  ·omega
  simp only [a0G]at hk hB;obtain⟨g1,e1,h1⟩:=hr e (.head _) g S h;obtain⟨g2,e2,h2⟩:=ih (AC++[e]) k g1 _ (by omega) (by simp;omega) (by grind) h1
  refine⟨g2,?_,(by grind)⟩
  rw [tE,a1E (bJ _ _ _),bP,bsm,e1,bsm]
  grind [chk]
theorem okE_le {z:Int} {e:AV} (h:okE z e=true):nE e<=60:=by
 grind [okE]
theorem Ok1.exps {x:AZ} {z:Int} (h:Ok1 p x z):∀ e∈x.AX,nE e<=60:=fun e he=>okE_le (a0o.1 h.args e he)
theorem below_p {sz:List Int} {rk:Int->Nat} (hp:Fm p sz rk) (hL:L.p=p) {f2:Nat} (hf2:3000000<f2):∀ (r AA:Nat) (n:Int) (x:AZ) (z:Int),iS p sz rk n x z->rk n<r->3000000+r<=AA->Vis1 p (jH AA) (YN L f2) L n:=by
 intro r
 induction r with
 | zero=>omega
 | succ r ih=>
  intro AA n x z G hr hf g S h;obtain _ | AA:=AA
  ·omega
  have hx:idx L.p.AB n=some x:=by rw [hL];exact G.node
  obtain⟨g1,e1,h1⟩:=b1_p (L:=L) (AA:=f2) hx hf2 (by have:=G.ok.la;omega) (fun e he=>by have:=G.ok.exps e he;omega) h
  have sub:∀ m∈kd p x,Vis1 p (jH AA) (YN L f2) L m:=fun m hm=>by
   obtain⟨w,hw⟩:=qR (z:=z) hm;obtain⟨q1,q2,y,q3⟩:=G.below _ hw;have hm0:=eY q1
   grind [Fm.good,Fm.len]
  have e1':YN L f2 n g=some g1:=e1;rw [jH,e1',bsm,hx,bsm];by_cases o4:x.Op=4
  ·rw [a1E o4];obtain⟨d,ed,okd⟩:=G.ok.def_ o4;have hlim:=gO okd;have ed':idx L.p.AD x.N=some d:=by rw [hL];exact ed
   have sub':=sub;simp only [kd,a1E o4,ed]at sub;obtain⟨g2,e2,h2⟩:=bl1 (ch:=d.AT) (sp:=d.AS) d.AQ [] AA g1 _ (by omega) (by simp;omega) (fun q hq=>sub q.AW (a0P _ (a0P _ (a0T.2 ⟨q,hq,rfl⟩)))) h1
   obtain⟨g3,e3,h3⟩:=bl2 (ch:=d.AT) (ru:=d.AQ) d.AS [] AA g2 _ (by omega) (by simp;omega) (fun q hq=>sub q.AW (a0P _ (a0Q _ (a0T.2 ⟨q,hq,rfl⟩)))) h2
   obtain⟨g4,e4,h4⟩:=bl3 (op:=x.Op) (nn:=x.N) (ar:=x.AX) x.AM [] AA g3 _ (by have:=G.ok.lk;omega) (by have:=G.ok.lk;simp;omega) (fun q hq=>sub q (a0Q _ hq)) h3
   simp only [a0X,a0J,a0m]at e2 e3 e4;rw [ed',bsm,e2,bsm];dsimp only
   rw [bsm,e3,bsm];dsimp only
   rw [show(⟨x.Op,x.N,x.AX,x.AM⟩:AZ)=x from rfl]at e4;rw [e4,bsm];dsimp only
   refine⟨g4,rfl,h4.congr fun i=>?_⟩
   rw [aBS G.node]
   grind [kd]
  ·rw [a1D o4,bsm];dsimp only
   simp only [kd,a1D o4]at sub;obtain⟨g4,e4,h4⟩:=bl3 (op:=x.Op) (nn:=x.N) (ar:=x.AX) x.AM [] AA g1 _ (by have:=G.ok.lk;omega) (by have:=G.ok.lk;simp;omega) (fun q hq=>sub q hq) h1
   simp only [a0X,a0J,a0m]at e4;rw [show(⟨x.Op,x.N,x.AX,x.AM⟩:AZ)=x from rfl]at e4;rw [e4,bsm];dsimp only
   refine⟨g4,rfl,h4.congr fun i=>?_⟩
   rw [aBS G.node]
   grind [kd]
theorem aCp {g:aM Int Bool} {S:Int->Prop} (h:Has g S) {z:Nat} (hz:z<=1000000):∀ (d i k:Nat) (acc:List Int),i+d=z->d<k->Srt acc->(∀ a∈acc,a<(i:Int))->acc.length<=i ->
 ∃ l,rM g z k acc i=some l/\Srt l/\∀ a,a∈l ↔ a∈acc\/((i:Int)<=a/\a<(z:Int)/\S a)
 | 0,i,k,acc,hi,hk,hs,ha,hl=>by
  obtain _ | k:=k
  ·omega
  grind [rM]
 | d+1,i,k,acc,hi,hk,hs,ha,hl=>by
  obtain _ | k:=k
  ·omega
  rw [rM,a1E (by omega)];by_cases hS:S (i:Int)
  ·rw [(h _).1 hS,a1p,a1z,dM (by simp;omega),bsm,bsm,aQ (by omega),bsm];obtain⟨l,e,q1,q2⟩:=aCp h hz d (i+1) k (acc++[(i:Int)]) (by omega) (by omega)
    (by grind)
    (fun a ha'=>by rcases a0O.1 ha' with q | q
                   ·have:=ha a q;omega
                   ·rw [a0W.1 q];omega) (by simp;omega)
   grind
  ·rw [(h _).2 hS,Option.getD_none,a1y,bsm,aQ (by omega),bsm];obtain⟨l,e,q1,q2⟩:=aCp h hz d (i+1) k acc (by omega) (by omega) hs (by grind) (by omega)
   grind
def rR (p:AJ) (n z:Int) (l:List Int):Prop:=Srt l/\∀ i,i∈l ↔ 0<=i/\i<z/\Occ p n i
theorem rR.uniq {n z:Int} {l m:List Int} (h:rR p n z l) (k:rR p n z m):l=m:=aB4 h.1 k.1 fun i=>(h.2 i).trans (k.2 i).symm
theorem needs_p {sz:List Int} {rk:Int->Nat} (hp:Fm p sz rk) {AR Ab:List Bool} {n:Int} {x:AZ} {z:Int} (G:iS p sz rk n x z) (hz:z<=1000000):∃ l,uU F ⟨p,sz,AR,Ab⟩ n=some l/\rR p n z l:=by
 have hn:=eY G.node
 obtain⟨hr,_⟩:=hp.good n hn.1 hn.2
 obtain⟨g,e1,h1⟩:=below_p (L:=⟨p,sz,AR,Ab⟩) hp rfl (f2:=F) (by decide) 60 F n x z G hr (by decide) aM.none _ has_none
 have h0:=G.pos
 obtain⟨l,e2,q1,q2⟩:=aCp h1 (z:=z.toNat) (by omega) z.toNat 0 F [] (by omega) (by unfold F;omega) .nil (fun a h=>by cases h) (a1o _)
 refine⟨l,?_,q1,fun i=>?_⟩
 ·unfold uU aBv aBm;rw [bsm];dsimp only
  rw [e1,bsm,bsm,G.size,bsm]
  grind
 grind
open Go.SX Go.SW Go.Dt
theorem add_scan {n:Int} (AE:List Int):∀ (AC:List Int) (k:Nat),AE.length<k->AC.length+AE.length<=900000000->(∀ a∈AC,a<n)->Srt (AC++AE) ->
 ∃ A B,AC++AE=A++B/\(∀ a∈A,a<n)/\(∀ b∈B,n<=b)/\tM (AC++AE) n k AC.length=some (A.length:Int):=by
 induction AE with
 | nil=>
  intro AC k hk _ hp _;obtain _ | k:=k
  ·omega
  grind [tM]
 | cons e AE ih=>
  intro AC k hk hB hp hs;obtain _ | k:=k
  ·omega
  simp only [a0G]at hk hB;rw [tM,a1E (bJ _ _ _),bP,bsm];by_cases he:e<n
  ·rw [a1E he,aQ (by omega),bsm,bR,bE];exact ih (AC++[e]) k (by omega) (by simp;omega) (by grind) (by grind)
  grind [_root_.List.pairwise_cons]
theorem add_r {AA:Nat} {l:List Int} {n:Int} (hf:l.length<AA) (hB:l.length<=900000000) (hs:Srt l):∃ m,iO AA l n=some m/\Srt m/\∀ i,i∈m ↔ i∈l\/i=n:=by
 obtain⟨A,B,e,hA,hB2,h⟩:=add_scan (n:=n) l [] AA (by omega) (by simp;omega) (fun a h=>by cases h) hs
 simp only [a0X,a0J,a0m]at e h
 have hs':=hs
 rw [e]at hs'
 obtain⟨sA,sB,sAB⟩:=a1a.1 hs'
 have hl:l.length=A.length+B.length:=by grind
 have go:Srt (A++(n :: B))->(n ∉ B)->∃ m,((slc l (A.length:Int) (l.length:Int)).bind fun y3=>(cQ ([n]++y3)).bind fun z2=>(slc l 0 (A.length:Int)).bind fun y4=>(cQ (([]:List Int)++y4)).bind fun z3=>(cQ (z3++z2)).bind fun z4=>some z4)=some m/\Srt m/\∀ i,i∈m ↔ i∈l\/i=n:=by
  intro hsm hn;have e1:slc l (A.length:Int) (l.length:Int)=some B:=by
   unfold slc;rw [a1E (by omega),a0n,a0n,List.take_length,e,List.drop_left]
  have e2:slc l 0 (A.length:Int)=some A:=by
   grind [slc]
  rw [e1,bsm,dM (by simp;omega),bsm,e2,bsm,dM (by simp;omega),bsm,dM (by simp;omega),bsm]
  grind
 unfold iO
 rw [h,bsm]
 cases B with
 | nil=>
  grind
 | cons b B=>
  have hb:=hB2 b (.head _);have ib:idx l (A.length:Int)=some b:=by simp_all [idx]
  rw [a1E (by simp at hl;omega),ib,bsm];by_cases hbn:b=n
  ·grind
  grind [_root_.List.pairwise_cons]
theorem kidsR1 {ch:List Aq} {sp:List Ap} (AE:List Ah):∀ (AC:List Ah) (acc:List Int) (k:Nat),AE.length<k->AC.length+AE.length<=3000000->acc.length+AE.length<=900000000 ->
 sD ⟨ch,sp,AC++AE⟩ k acc AC.length=some (acc++AE.map (·.AW)):=by
 induction AE with
 | nil=>
  intro AC acc k hk _ _;obtain _ | k:=k
  ·omega
  grind [sD]
 | cons e AE ih=>
  intro AC acc k hk hB hA;obtain _ | k:=k
  ·omega
  simp only [a0G]at hk hB hA;rw [sD,a1E (bJ _ _ _),bP,bsm,dM (by simp;omega),bsm,aQ (by omega),bsm,bR,bE,ih (AC++[e]) (acc++[e.AW]) k (by omega) (by simp;omega) (by simp;omega)];simp
theorem kidsR2 {ch:List Aq} {ru:List Ah} (AE:List Ap):∀ (AC:List Ap) (acc:List Int) (k:Nat),AE.length<k->AC.length+AE.length<=3000000->acc.length+AE.length<=900000000 ->
 tH ⟨ch,AC++AE,ru⟩ k acc AC.length=some (acc++AE.map (·.AW)):=by
 induction AE with
 | nil=>
  intro AC acc k hk _ _;obtain _ | k:=k
  ·omega
  grind [tH]
 | cons e AE ih=>
  intro AC acc k hk hB hA;obtain _ | k:=k
  ·omega
  simp only [a0G]at hk hB hA;rw [tH,a1E (bJ _ _ _),bP,bsm,dM (by simp;omega),bsm,aQ (by omega),bsm,bR,bE,ih (AC++[e]) (acc++[e.AW]) k (by omega) (by simp;omega) (by simp;omega)];simp
theorem kids_r {p:AJ} {n:Int} {x:AZ} {z:Int} {AA:Nat} (hx:idx p.AB n=some x) (ok:Ok1 p x z) (hf:3000<AA):xI AA p n=some (kd p x)/\(kd p x).length<=62:=by
 have:=ok.lk
 unfold xI kd
 rw [hx,bsm]
 by_cases o4:x.Op=4
 ·obtain⟨d,ed,okd⟩:=ok.def_ o4;have hl:=gO okd;rw [a1E o4,a1E o4,ed];dsimp only
  rw [bsm];have e1:=kidsR1 (ch:=d.AT) (sp:=d.AS) d.AQ [] [] AA (by omega) (by simp;omega) (by simp;omega)
  have e2:=kidsR2 (ch:=d.AT) (ru:=d.AQ) d.AS [] (d.AQ.map (·.AW)) AA (by omega) (by simp;omega) (by simp;omega)
  simp only [a0X,a0J,a0m]at e1 e2;rw [e1,bsm,e2,bsm,dM (by simp;omega),bsm]
  grind
 grind [cQ]
theorem aFD {p:AJ} {sz:List Int} {rk:Int->Nat} (hp:Fm p sz rk) {n k:Int} (r:Rch p n k):(0<=n/\n<(p.AB.length:Int))->0<=k/\k<(p.AB.length:Int):=by
 induction r with
 | refl n=>exact id
 | step h hm _ ih=>
  intro hn;apply ih
  obtain⟨_,x,z,G,_⟩:=hp.good _ hn.1 hn.2;have hx:=G.node;rw [h]at hx;cases hx
  obtain⟨w,hw⟩:=qR (z:=z) hm;obtain⟨q1,_⟩:=G.below _ hw
  grind [eY]
def Bel (p:AJ) (rec:AJ->List Int->Int->Option (List Int)) (m:Int):Prop:=∀ out,Srt out->(∀ i∈out,0<=i/\i<(p.AB.length:Int))->∃ l,rec p out m=some l/\Srt l/\∀ i,i∈l ↔ i∈out\/Rch p m i
theorem belR {p:AJ} {rec:AJ->List Int->Int->Option (List Int)} (hg:∀ m k,m∈(List.range p.AB.length).map (fun i:Nat=>(i:Int))->Rch p m k->0<=k/\k<(p.AB.length:Int)) (AE:List Int):∀ (AC out:List Int) (k:Nat),AE.length<k->AC.length+AE.length<=3000000 ->
 (∀ m∈AE,Bel p rec m/\m∈(List.range p.AB.length).map (fun i:Nat=>(i:Int)))->Srt out->(∀ i∈out,0<=i/\i<(p.AB.length:Int))->∃ l,qP rec p (AC++AE) k out AC.length=some l/\Srt l/\∀ i,i∈l ↔ i∈out\/∃ m∈AE,Rch p m i:=by
 induction AE with
 | nil=>
  intro AC out k hk _ _ hs _;obtain _ | k:=k
  ·omega
  grind [qP]
 | cons e AE ih=>
  intro AC out k hk hB hr hs ho;obtain _ | k:=k
  ·omega
  simp only [a0G]at hk hB;obtain⟨h1,h2⟩:=hr e (.head _);obtain⟨l1,e1,s1,m1⟩:=h1 out hs ho;obtain⟨l2,e2,s2,m2⟩:=ih (AC++[e]) l1 k (by omega) (by simp;omega) (by grind) s1 (by grind)
  refine⟨l2,?_,s2,fun i=>?_⟩
  ·rw [qP,a1E (bJ _ _ _),bP,bsm];rw [show(⟨p.AF,p.AB,p.AD,p.AG⟩:AJ)=p from rfl,e1,bsm,aQ (by omega),bsm,bR,bE,e2]
  grind
theorem below_r {p:AJ} {sz:List Int} {rk:Int->Nat} (hp:Fm p sz rk):∀ (r AA:Nat) (n:Int) (x:AZ) (z:Int),iS p sz rk n x z->rk n<r->3000000+r<=AA->Bel p (lY AA) n:=by
 intro r
 induction r with
 | zero=>omega
 | succ r ih=>
  intro AA n x z G hr hf out hs ho;obtain _ | AA:=AA
  ·omega
  have hn:=eY G.node;have h60:=hp.n60;have hl:=rD hs ho;obtain⟨l1,e1,s1,m1⟩:=add_r (AA:=AA) (n:=n) (by omega) (by omega) hs
  obtain⟨e2,hk⟩:=kids_r (AA:=AA) G.node G.ok (by omega)
  have sub:∀ m∈kd p x,Bel p (lY AA) m/\m∈(List.range p.AB.length).map (fun i:Nat=>(i:Int)):=fun m hm=>by
   obtain⟨w,hw⟩:=qR (z:=z) hm;obtain⟨q1,q2,y,q3⟩:=G.below _ hw;have hm0:=eY q1;have:=hp.len;obtain⟨_,x',z',G',_⟩:=hp.good m hm0.1 (by simp only at *;omega)
   refine⟨(by grind),a0T.2 ⟨m.toNat,(by grind),by simp only at *;omega⟩⟩
  obtain⟨l2,e3,s2,m2⟩:=belR (fun m k hm hr=>by
   obtain⟨j,hj,rfl⟩:=a0T.1 hm;have:=List.mem_range.1 hj;exact aFD hp hr ⟨by omega,by omega⟩) (kd p x) [] l1 AA (by omega) (by simp;omega) sub s1 (by grind)
  simp only [a0X,a0J,a0m]at e3;refine⟨l2,?_,s2,fun i=>?_⟩
  ·simp_all [lY]
  ·rw [m2,m1,aEg G.node];exact or_assoc
def AddR (z:Int) (o:Option (List Int)) (out ns:List Int):Prop:=∃ l,o=some l/\Srt l/\(∀ i,i∈l ↔ i∈out\/(i∈ns/\i<z))/\∀ i∈l,0<=i/\i<z
theorem aH5 {rec:List Int->AV->Int->Option (List Int)} {op n z:Int} (AE:List AV):∀ (AC:List AV) (out:List Int) (k:Nat),AE.length<k->AC.length+AE.length<=3000000 ->
 (∀ e∈AE,∀ out,Srt out->(∀ i∈out,0<=i/\i<z)->AddR z (rec out e z) out (nmE e))->Srt out->(∀ i∈out,0<=i/\i<z)->AddR z (nR rec ⟨op,n,AC++AE⟩ z k out AC.length) out (nmL AE):=by
 induction AE with
 | nil=>
  intro AC out k hk _ _ hs ho;obtain _ | k:=k
  ·omega
  rw [nR,a1D (by simp)];exact⟨out,rfl,hs,fun i=>by simp [nmL],ho⟩
 | cons e AE ih=>
  intro AC out k hk hB hr hs ho;obtain _ | k:=k
  ·omega
  simp only [a0G]at hk hB;obtain⟨l1,e1,s1,m1,b1⟩:=hr e (.head _) out hs ho;obtain⟨l2,e2,s2,m2,b2⟩:=ih (AC++[e]) l1 k (by omega) (by simp;omega) (by grind) s1 b1
  refine⟨l2,?_,s2,fun i=>?_,b2⟩
  ·rw [nR,a1E (bJ _ _ _),bP,bsm,e1,bsm,aQ (by omega),bsm,bR,bE,e2]
  grind [nmL]
theorem aHZ {AA:Nat} {z n:Int} {out:List Int} (hz:z<=1000000) (hf:1000001<AA) (hs:Srt out) (ho:∀ i∈out,0<=i/\i<z) (h0:0<=n) (hn:n<z):AddR z (iO AA out n) out [n]:=by
 have hl:=rD hs ho
 obtain⟨l,e,s1,m⟩:=add_r (AA:=AA) (l:=out) (n:=n) (by omega) (by omega) hs
 refine⟨l,e,s1,fun i=>?_,fun i hi=>?_⟩
 ·grind
 grind
theorem need_r {z w:Int} (hz:z<=1000000) (AA:Nat):∀ (e:AV) (out:List Int),1000001+nE e<AA->nE e<=2000000->fE w e=true->Srt out->(∀ i∈out,0<=i/\i<z)->AddR z (kY AA out e z) out (nmE e):=by
 induction AA with
 | zero=>intro e out h;omega
 | succ AA ih=>
  intro ⟨op,n,ks⟩ out hf hB hok hs ho
  simp only [nE]at hf hB;simp only [fE,a0g]at hok;have hlen:=nD ks;have hfl:∀ e∈ks,fE w e=true:=fun e he=>by
   have:=hok.2;clear ih hf hB hlen hok;induction ks with
   | nil=>cases he
   | cons k ks ih=>
    simp only [fL,a0g]at this;rcases a0R.1 he with rfl | he
    ·exact this.1
    ·exact ih he this.2
  have step:∀ o1,Srt o1->(∀ i∈o1,0<=i/\i<z)->AddR z (nR (kY AA) ⟨op,n,ks⟩ z AA o1 0) o1 (nmL ks):=fun o1 h1 h2=>by
   have:=aH5 (rec:=kY AA) (op:=op) (n:=n) (z:=z) ks [] o1 AA (by omega) (by simp;omega) (fun e he out hs ho=>ih e out (by have:=gT he;omega) (by have:=gT he;omega) (hfl e he) hs ho) h1 h2
   simpa using this
  rw [kY];dsimp only
  by_cases o2:op=2
  ·rw [a1E o2];have h1:=hok.1;simp [loc,o2]at h1;by_cases hn:n<z
   ·obtain⟨l1,e1,s1,m1,b1⟩:=aHZ (AA:=AA) hz (by omega) hs ho h1.1 hn
    obtain⟨l2,e2,s2,m2,b2⟩:=step l1 s1 b1;rw [a1E hn,e1,bsm,bsm,e2,bsm];refine⟨l2,rfl,s2,fun i=>?_,b2⟩
    rw [m2,m1];simp only [nmE,a1E o2,a0O];constructor
    ·rintro((q | ⟨q,r⟩) | ⟨q,r⟩)
     ·exact .inl q
     ·exact .inr ⟨.inl q,r⟩
     ·exact .inr ⟨.inr q,r⟩
    ·rintro(q | ⟨q | q,r⟩)
     ·exact .inl (.inl q)
     ·exact .inl (.inr ⟨q,r⟩)
     ·exact .inr ⟨q,r⟩
   ·obtain⟨l2,e2,s2,m2,b2⟩:=step out hs ho;rw [a1D hn,bsm,e2,bsm];refine⟨l2,rfl,s2,fun i=>?_,b2⟩
    rw [m2];simp only [nmE,a1E o2,a0O,a0W];constructor
    ·rintro(q | ⟨q,r⟩)
     ·exact .inl q
     ·exact .inr ⟨.inr q,r⟩
    ·rintro(q | ⟨q | q,r⟩)
     ·exact .inl q
     ·subst q;exact absurd r hn
     ·exact .inr ⟨q,r⟩
  ·obtain⟨l2,e2,s2,m2,b2⟩:=step out hs ho;rw [a1D o2,bsm,e2,bsm];exact⟨l2,rfl,s2,fun i=>by rw [m2];simp only [nmE,a1D o2,a0X],b2⟩
theorem needs2 {z w:Int} (hz:z<=1000000) {AA:Nat} (hf:4000000<AA) {op nn:Int} {ks:List Int} (AE:List AV):∀ (AC:List AV) (out:List Int) (k:Nat),AE.length<k->AC.length+AE.length<=3000000->AE.all (okE w)=true->Srt out->(∀ i∈out,0<=i/\i<z) ->
 AddR z (lD AA z ⟨op,nn,AC++AE,ks⟩ k out AC.length) out (nmL AE):=by
 induction AE with
 | nil=>
  intro AC out k hk _ _ hs ho;obtain _ | k:=k
  ·omega
  rw [lD,a1D (by simp)];exact⟨out,rfl,hs,fun i=>by simp [nmL],ho⟩
 | cons e AE ih=>
  intro AC out k hk hB hr hs ho;obtain _ | k:=k
  ·omega
  simp only [a0G]at hk hB;simp only [List.all_cons,a0g]at hr;have h1:=hr.1;simp only [okE,a0g,a1C]at h1;obtain⟨l1,e1,s1,m1,b1⟩:=need_r hz AA e out (by omega) (by omega) h1.1.1 hs ho
  obtain⟨l2,e2,s2,m2,b2⟩:=ih (AC++[e]) l1 k (by omega) (by simp;omega) hr.2 s1 b1
  refine⟨l2,?_,s2,fun i=>?_,b2⟩
  ·rw [lD,a1E (bJ _ _ _),bP,bsm,e1,bsm,aQ (by omega),bsm,bR,bE,e2]
  grind [nmL]
theorem node_r {p:AJ} {x:AZ} {z w:Int} (ok:Ok1 p x w) (hz:z<=1000000) {AA:Nat} (hf:4000000<AA) {out:List Int} (hs:Srt out) (ho:∀ i∈out,0<=i/\i<z):
 AddR z ((if x.Op=2 then
  if x.N<z then
   (iO AA out x.N).bind fun y6=>
   some y6
  else
   some out
 else
  if x.Op=6 then
   if x.N<z then
    (iO AA out x.N).bind fun y7=>
    some y7
   else
    some out
  else
   if x.Op=8 then
    if x.N<z then
     (iO AA out x.N).bind fun y8=>
     some y8
    else
     some out
   else
    some out).bind fun x7=>
 lD AA z x AA x7 0) out (nmN x):=by
 have step:∀ o1,Srt o1->(∀ i∈o1,0<=i/\i<z)->AddR z (lD AA z x AA o1 0) o1 (nmL x.AX):=fun o1 h1 h2=>by
  have:=needs2 (w:=w) hz hf (op:=x.Op) (nn:=x.N) (ks:=x.AM) x.AX [] o1 AA (by have:=ok.la;omega) (by have:=ok.la;simp;omega) ok.args h1 h2
  simpa using this
 have yes:x.Op=2\/x.Op=6\/x.Op=8->AddR z ((if x.N<z then(iO AA out x.N).bind fun y6=>some y6 else some out).bind fun x7=>lD AA z x AA x7 0) out (nmN x):=fun o=>by
  have hn0:=(ok.name o).1;by_cases hn:x.N<z
  ·obtain⟨l1,e1,s1,m1,b1⟩:=aHZ (AA:=AA) hz (by omega) hs ho hn0 hn
   obtain⟨l2,e2,s2,m2,b2⟩:=step l1 s1 b1;rw [a1E hn,e1,bsm,bsm,e2];refine⟨l2,rfl,s2,fun i=>?_,b2⟩
   rw [m2,m1];simp only [nmN,nmO,a1E o,a0O];constructor
   ·rintro((q | ⟨q,r⟩) | ⟨q,r⟩)
    ·exact .inl q
    ·exact .inr ⟨.inl q,r⟩
    ·exact .inr ⟨.inr q,r⟩
   ·rintro(q | ⟨q | q,r⟩)
    ·exact .inl (.inl q)
    ·exact .inl (.inr ⟨q,r⟩)
    ·exact .inr ⟨q,r⟩
  ·obtain⟨l2,e2,s2,m2,b2⟩:=step out hs ho;rw [a1D hn,bsm,e2];refine⟨l2,rfl,s2,fun i=>?_,b2⟩
   rw [m2];simp only [nmN,nmO,a1E o,a0O,a0W];constructor
   ·rintro(q | ⟨q,r⟩)
    ·exact .inl q
    ·exact .inr ⟨.inr q,r⟩
   ·rintro(q | ⟨q | q,r⟩)
    ·exact .inl q
    ·subst q;exact absurd r hn
    ·exact .inr ⟨q,r⟩
 by_cases o2:x.Op=2
 ·rw [a1E o2];exact yes (.inl o2)
 ·rw [a1D o2];by_cases o6:x.Op=6
  ·rw [a1E o6];exact yes (.inr (.inl o6))
  ·rw [a1D o6];by_cases o8:x.Op=8
   ·rw [a1E o8];exact yes (.inr (.inr o8))
   ·rw [a1D o8,bsm];obtain⟨l2,e2,s2,m2,b2⟩:=step out hs ho;refine⟨l2,e2,s2,fun i=>?_,b2⟩
    rw [m2];simp only [nmN,nmO,a1D (show ¬ (x.Op=2\/x.Op=6\/x.Op=8)from fun q=>q.elim o2 fun q=>q.elim o6 o8),a0X]
theorem nodes_r {p:AJ} {z:Int} (hz:z<=1000000) {AA:Nat} (hf:4000000<AA) (AE:List Int):∀ (AC out:List Int) (k:Nat),AE.length<k->AC.length+AE.length<=3000000->(∀ m∈AE,∃ x w,idx p.AB m=some x/\Ok1 p x w)->Srt out->(∀ i∈out,0<=i/\i<z) ->
 ∃ l,mW AA p z (AC++AE) k out AC.length=some l/\Srt l/\(∀ i,i∈l ↔ i∈out\/((∃ m∈AE,∃ x,idx p.AB m=some x/\i∈nmN x)/\i<z))/\∀ i∈l,0<=i/\i<z:=by
 induction AE with
 | nil=>
  intro AC out k hk _ _ hs ho;obtain _ | k:=k
  ·omega
  grind [mW]
 | cons e AE ih=>
  intro AC out k hk hB hr hs ho;obtain _ | k:=k
  ·omega
  simp only [a0G]at hk hB;obtain⟨x,w,hx,ok⟩:=hr e (.head _);obtain⟨l1,e1,s1,m1,b1⟩:=node_r ok hz hf hs ho;obtain⟨l2,e2,s2,m2,b2⟩:=ih (AC++[e]) l1 k (by omega) (by simp;omega) (by grind) s1 b1
  refine⟨l2,?_,s2,fun i=>?_,b2⟩
  ·rw [mW,a1E (bJ _ _ _),bP,bsm,hx,bsm,e1,bsm,aQ (by omega),bsm,bR,bE,e2]
  grind
theorem aGq {f:Nat} (hf:4000100<f) {p:AJ} (hp:SmP p) {s:VS} (hc:dT p=some s) {rk:Int->Nat} (hm:Fm p s.sz rk) {n:Int} {x:AZ} {z:Int} (G:iS p s.sz rk n x z) (hz:z<=1000000):∃ l,iV f p n=some l/\rR p n z l:=by
 have hn:=eY G.node
 obtain⟨hr,_⟩:=hm.good n hn.1 hn.2
 have h60:=hm.n60
 obtain⟨l1,e1,s1,m1⟩:=below_r hm 60 f n x z G hr (by omega) [] .nil (fun i h=>by cases h)
 have hb:∀ i∈l1,0<=i/\i<(p.AB.length:Int):=fun i hi=>by
  rcases(m1 i).1 hi with q | q
  ·cases q
  ·exact aFD hm q hn
 have hl:=rD s1 hb
 obtain⟨l2,e2,s2,m2,b2⟩:=nodes_r (p:=p) hz (AA:=f) (by omega) l1 [] [] f (by omega) (by simp;omega) (fun m hmm=>by
  obtain⟨_,y,w,G',_⟩:=hm.good m (hb m hmm).1 (hb m hmm).2;exact⟨y,w,G'.node,G'.ok⟩) .nil (fun i h=>by cases h)
 simp only [a0X,a0J,a0m]at e2
 refine⟨l2,?_,s2,fun i=>?_⟩
 ·unfold iV aA4;rw [show(⟨p.AF,p.AB,p.AD,p.AG⟩:AJ)=p from rfl,aFk hp hc (by omega),bsm,G.size,bsm,e1,bsm,bsm,e2,bsm]
 ·constructor
  ·intro hi;refine⟨(b2 i hi).1,(b2 i hi).2,?_⟩
   grind [Occ]
  ·rintro⟨h0,h1,k,y,r,hy,q⟩
   grind
open Go.SX Go.SW Go.Dt
theorem aE4 {d:Array Int} (hd:∀ i j,i<=j->j<d.size->d[i]! <=d[j]!):∀ m,m<=d.size->Srt (Go.Lib.compactUpTo d m)/\(∀ a∈Go.Lib.compactUpTo d m,∃ j,j<m/\d[j]! =a)/\(∀ j,j<m->d[j]! ∈Go.Lib.compactUpTo d m)
 | 0,_=>⟨by simp [Go.Lib.compactUpTo],(by grind [Lib.compactUpTo]),fun j h=>by omega⟩
 | m+1,hm=>by
  obtain⟨h1,h2,h3⟩:=aE4 hd m (by omega)
  rw [Go.Lib.compactUpTo_succ];by_cases hk:m=0\/d[m]! ≠d[m - 1]!
  ·rw [a1E (by simpa [Go.Lib.keeps] using hk)];refine⟨a1a.2 ⟨h1,List.pairwise_singleton _ _,fun a ha b hb=>?_⟩,fun a ha=>?_,fun j hj=>?_⟩
   ·rw [a0W.1 hb];obtain⟨j,hj,rfl⟩:=h2 a ha;have q1:=hd j (m - 1) (by omega) (by omega)
    have q2:=hd (m - 1) m (by omega) (by omega)
    omega
   ·grind
   grind
  ·rw [a1D (by simpa [Go.Lib.keeps] using hk),a0p]
   grind
theorem aKG (l:List Int):Srt (Go.Lib.compact (gE l))/\∀ i,i∈Go.Lib.compact (gE l) ↔ i∈l:=by
 have hs:(gE l).Pairwise (fun a b=>a<=b):=by
  have:=List.pairwise_mergeSort (le:=fun x y:Int=>decide (x<=y)) (fun a b c h1 h2=>by simp at *;omega) (fun a b=>by simp;omega) l
  exact this.imp fun h=>by simpa using h
 have hd:∀ i j,i<=j->j<(gE l).toArray.size->(gE l).toArray[i]! <=(gE l).toArray[j]! :=fun i j hij hj=>by
  have hj':j<(gE l).length:=by simpa using hj
  have hi':i<(gE l).length:=by omega
  grind [_root_.List.pairwise_iff_getElem]
 obtain⟨h1,h2,h3⟩:=aE4 hd (gE l).length (by simp)
 refine⟨h1,fun i=>?_⟩
 have hm:i∈gE l ↔ i∈l:=List.mem_mergeSort
 rw [<- hm]
 constructor
 ·intro h;obtain⟨j,hj,rfl⟩:=h2 i h;simp [hj]
 ·intro h;obtain⟨j,hj,rfl⟩:=List.mem_iff_getElem.1 h
  grind [Lib.compact]
structure Cx (p:AJ) (s:VS) (rk:Int->Nat):Prop where
 sm:SmP p
 chk_:dT p=some s
 fm:Fm p s.sz rk
def cI (p:AJ) (n:Int):List Int:=(iV F p n).getD []
structure NeedB (p:AJ) (s:VS) (n z:Int):Prop where
 r:∀ f,4000100<f->iV f p n=some (cI p n)
 p_:uU F ⟨p,s.sz,s.AR,s.Ab⟩ n=some (cI p n)
 is:rR p n z (cI p n)
 len:((cI p n).length:Int)<=z
variable {p:AJ} {s:VS} {rk:Int->Nat}
theorem Cx.need (C:Cx p s rk) {n:Int} (h0:0<=n) (h1:n<(p.AB.length:Int)):∃ x z,iS p s.sz rk n x z/\z<=6012/\NeedB p s n z:=by
 obtain⟨_,x,z,G,hz⟩:=C.fm.good n h0 h1
 obtain⟨l,e1,i1⟩:=aGq (f:=F) (by decide) C.sm C.chk_ C.fm G (by omega)
 have hall:∀ f,4000100<f->iV f p n=some l:=fun f hf=>by
  obtain⟨l',e1',i1'⟩:=aGq hf C.sm C.chk_ C.fm G (by omega)
  rw [i1.uniq i1'];exact e1'
 obtain⟨m,e2,i2⟩:=needs_p C.fm (AR:=s.AR) (Ab:=s.Ab) G (by omega)
 have hl:cI p n=l:=by simp [cI,e1]
 have hm:m=l:=i2.uniq i1
 have:=rD i1.1 (a:=0) (b:=z) fun i hi=>⟨((i1.2 i).1 hi).1,((i1.2 i).1 hi).2.1⟩
 have:=G.pos
 exact⟨x,z,G,hz,⟨by rw [hl];exact hall,by grind,by rw [hl];exact i1,by rw [hl];omega⟩⟩
def iF (p:AJ):List (List Int):=(List.range p.AB.length).map fun (i:Nat)=>cI p i
theorem aCo {n:Int} (h0:0<=n) (h1:n<(p.AB.length:Int)):idx (iF p) n=some (cI p n):=by
 have:idx (iF p) (n.toNat:Int)=some (cI p n):=nZ (by
  unfold iF
  grind)
 grind
theorem aFs (C:Cx p s rk):∀ (d i k:Nat),i+d=p.AB.length->d<k->qV ⟨p,s.sz,s.AR,s.Ab⟩ p (fun x=>uE F x.1 x.2) k ((iF p).take i) i=some (iF p)
 | 0,i,k,h,hk=>by
  obtain _ | k:=k
  ·omega
  rw [qV,a1D (by omega),a1e (by simp [iF];omega)]
 | d+1,i,k,h,hk=>by
  obtain _ | k:=k
  ·omega
  have hi:i<p.AB.length:=by omega
  obtain⟨x,z,G,_,N⟩:=C.need (n:=(i:Int)) (by omega) (by omega)
  have h60:=C.fm.n60;rw [qV,a1E (by omega)];simp only [uE];rw [N.p_,bsm,bsm];have e:(iF p).take i++[cI p i]=(iF p).take (i+1):=by
   rw [List.take_add_one];simp [iF,hi]
  rw [e,dM (by simp [iF];omega),bsm,aQ (by omega),bsm];exact aFs C d (i+1) k (by omega) (by omega)
theorem needs_S (C:Cx p s rk):aAs F p=some (iF p,0):=by
 have e:=aFs C p.AB.length 0 F (by omega) (by have:=C.fm.n60;unfold F;omega)
 rw [List.take_zero,a0m]at e
 rw [aAs,aBz,aBN,show(⟨p.AF,p.AB,p.AD,p.AG⟩:AJ)=p from rfl,aDV C.sm,bsm,C.chk_]
 grind [jI,zZ]
def dA (p:AJ) (n:Int):List Int:=(gK F p n).getD []
def dks (d:AN):List Int:=d.AQ.map (·.AW)++d.AS.map (·.AW)
def oI (p:AJ) (d:AN) (z:Int) (l:List Int):Prop:=Srt l/\∀ i,i∈l ↔ 0<=i/\i<z/\∃ m∈dks d,i∈cI p m
theorem oI.uniq {d:AN} {z:Int} {l m:List Int} (h:oI p d z l) (k:oI p d z m):l=m:=aB4 h.1 k.1 fun i=>(h.2 i).trans (k.2 i).symm
theorem want1 {f:Nat} {ch:List Aq} {sp:List Ap} (AE:List Ah):∀ (AC:List Ah) (acc:List Int) (k:Nat),AE.length<k->AC.length+AE.length<=3000000->acc.length+6012*AE.length<=900000000->(∀ r∈AE,iV f p r.AW=some (cI p r.AW)/\(cI p r.AW).length<=6012) ->
 tD f p ⟨ch,sp,AC++AE⟩ k acc AC.length=some (acc++(AE.map (·.AW)).flatMap (cI p)):=by
 induction AE with
 | nil=>
  intro AC acc k hk _ _ _;obtain _ | k:=k
  ·omega
  grind [tD]
 | cons e AE ih=>
  intro AC acc k hk hB hA hr;obtain _ | k:=k
  ·omega
  simp only [a0G]at hk hB hA;obtain⟨h1,h2⟩:=hr e (.head _);rw [tD,a1E (bJ _ _ _),bP,bsm,show(⟨p.AF,p.AB,p.AD,p.AG⟩:AJ)=p from rfl,h1,bsm,dM (by simp;omega),bsm,aQ (by omega),bsm,bR,bE,
   ih (AC++[e]) (acc++cI p e.AW) k (by omega) (by simp;omega) (by simp;omega) (by grind)]
  simp
theorem want2 {f:Nat} {ch:List Aq} {ru:List Ah} (AE:List Ap):∀ (AC:List Ap) (acc:List Int) (k:Nat),AE.length<k->AC.length+AE.length<=3000000->acc.length+6012*AE.length<=900000000->(∀ r∈AE,iV f p r.AW=some (cI p r.AW)/\(cI p r.AW).length<=6012) ->
 tR f p ⟨ch,AC++AE,ru⟩ k acc AC.length=some (acc++(AE.map (·.AW)).flatMap (cI p)):=by
 induction AE with
 | nil=>
  intro AC acc k hk _ _ _;obtain _ | k:=k
  ·omega
  grind [tR]
 | cons e AE ih=>
  intro AC acc k hk hB hA hr;obtain _ | k:=k
  ·omega
  simp only [a0G]at hk hB hA;obtain⟨h1,h2⟩:=hr e (.head _);rw [tR,a1E (bJ _ _ _),bP,bsm,show(⟨p.AF,p.AB,p.AD,p.AG⟩:AJ)=p from rfl,h1,bsm,dM (by simp;omega),bsm,aQ (by omega),bsm,bR,bE,
   ih (AC++[e]) (acc++cI p e.AW) k (by omega) (by simp;omega) (by simp;omega) (by grind)]
  simp
def jW (u:List Bool) (S:Int->Prop) (z:Nat):Prop:=u.length=z/\∀ i:Int,0<=i->i<z->(S i->idx u i=some true)/\(¬ S i->idx u i=some false)
theorem want3 {z:Nat} (AE:List Int):∀ (AC:List Int) (u:List Bool) (S:Int->Prop) (k:Nat),AE.length<k->AC.length+AE.length<=900000000->(∀ i∈AE,0<=i)->jW u S z ->
 ∃ u',pW z (AC++AE) k u AC.length=some u'/\jW u' (fun i=>S i\/i∈AE) z:=by
 induction AE with
 | nil=>
  intro AC u S k hk _ _ h;obtain _ | k:=k
  ·omega
  simp_all [pW]
 | cons e AE ih=>
  intro AC u S k hk hB hr h;obtain _ | k:=k
  ·omega
  simp only [a0G]at hk hB;have h0:=hr e (.head _);have next:∀ u1,jW u1 (fun i=>S i\/i=e) z->∃ u',pW z (AC++e :: AE) k u1 ((AC.length:Int)+1)=some u'/\jW u' (fun i=>S i\/i∈e :: AE) z:=fun u1 h1=>by
   obtain⟨u2,e2,h2⟩:=ih (AC++[e]) u1 _ k (by omega) (by simp;omega) (by grind) h1
   refine⟨u2,by grind,h2.1,fun i q0 q1=>⟨fun q=>(h2.2 i q0 q1).1 ?_,fun q=>(h2.2 i q0 q1).2 fun r=>q ?_⟩⟩
   ·grind
   grind
  rw [pW,a1E (bJ _ _ _),bP,bsm];by_cases hz:e<(z:Int)
  ·obtain⟨b,hb⟩:=gA (xs:=u) h0 (by rw [h.1];exact hz)
   rw [a1E hz,bsm,hb,bsm,bsm,aQ (by omega),bsm];refine next _ ⟨by simp [h.1],fun i q0 q1=>⟨fun q=>?_,fun q=>?_⟩⟩
   ·by_cases ei:i=e
    ·grind [idx]
    ·rw [nQ h0 ei];exact(h.2 i q0 q1).1 (q.elim id fun r=>absurd r ei)
   ·have ei:i≠e:=fun r=>q (.inr r)
    rw [nQ h0 ei];exact(h.2 i q0 q1).2 fun r=>q (.inl r)
  ·rw [a1D hz,bsm,aQ (by omega),bsm];refine next u (by grind [jW])
theorem want4 {u:List Bool} {S:Int->Prop} {z:Nat} (h:jW u S z) (hz:z<=1000000):∀ (d i k:Nat) (acc:List Int),i+d=z->d<k->Srt acc->(∀ a∈acc,a<(i:Int))->acc.length<=i ->
 ∃ l,tK z u k acc i=some l/\Srt l/\∀ a,a∈l ↔ a∈acc\/((i:Int)<=a/\a<(z:Int)/\S a)
 | 0,i,k,acc,hi,hk,hs,ha,hl=>by
  obtain _ | k:=k
  ·omega
  grind [tK]
 | d+1,i,k,acc,hi,hk,hs,ha,hl=>by
  obtain _ | k:=k
  ·omega
  rw [tK,a1E (by omega)];by_cases hS:S (i:Int)
  ·rw [(h.2 _ (by omega) (by omega)).1 hS,bsm,a1z,dM (by simp;omega),bsm,bsm,aQ (by omega),bsm];obtain⟨l,e,q1,q2⟩:=want4 h hz d (i+1) k (acc++[(i:Int)]) (by omega) (by omega)
    (by grind)
    (fun a ha'=>by rcases a0O.1 ha' with q | q
                   ·have:=ha a q;omega
                   ·rw [a0W.1 q];omega) (by simp;omega)
   grind
  ·rw [(h.2 _ (by omega) (by omega)).2 hS,bsm,a1y,bsm,aQ (by omega),bsm];obtain⟨l,e,q1,q2⟩:=want4 h hz d (i+1) k acc (by omega) (by omega) hs (by grind) (by omega)
   grind
theorem Cx.dks (C:Cx p s rk) {n:Int} {x:AZ} {z:Int} (G:iS p s.sz rk n x z) (o4:x.Op=4):∃ d,idx p.AD x.N=some d/\okD d=true/\∀ m∈dks d,∃ w,NeedB p s m w/\w<=6012:=by
 obtain⟨d,ed,okd⟩:=G.ok.def_ o4
 refine⟨d,ed,okd,fun m hm=>?_⟩
 obtain⟨w,hw⟩:=qR (p:=p) (x:=x) (z:=z) (m:=m) (by unfold kd;rw [a1E o4,ed];exact a0P _ hm)
 obtain⟨q1,_⟩:=G.below _ hw
 have h1:=eY q1
 have:=C.fm.len
 grind [Cx.need]
theorem yP (C:Cx p s rk) {n:Int} {x:AZ} {z:Int} (G:iS p s.sz rk n x z) (hz:z<=6012) (o4:x.Op=4):∃ d,idx p.AD x.N=some d/\okD d=true/\(∀ f,4000100<f->gK f p n=some (dA p n))/\oI p d z (dA p n):=by
 obtain⟨d,ed,okd,hd⟩:=C.dks G o4
 refine⟨d,ed,okd,?_⟩
 have hl:=gO okd
 have h0:=G.pos
 have fin:∃ l,(∀ f,4000100<f->gK f p n=some l)/\oI p d z l:=by
  have main:∀ f,4000100<f->∃ l,gK f p n=some l/\oI p d z l:=fun f hf=>by
   have e1:=want1 (f:=f) (p:=p) (ch:=d.AT) (sp:=d.AS) d.AQ [] [] f (by omega) (by simp;omega) (by simp;omega) (fun r hr=>by
    obtain⟨w,N,hw⟩:=hd r.AW (a0P _ (by grind))
    exact⟨N.r f hf,by have:=N.len;omega⟩)
   have hb:∀ m∈dks d,(cI p m).length<=6012:=fun m hm=>by obtain⟨w,N,hw⟩:=hd m hm;have:=N.len;omega
   have hfl:∀ ms:List Int,(∀ m∈ms,(cI p m).length<=6012)->(ms.flatMap (cI p)).length<=6012*ms.length:=fun ms=>by
    induction ms with
    | nil=>simp
    | cons m ms ih=>
     grind
   have hr:=hfl (d.AQ.map (·.AW)) fun m hm=>hb m (a0P _ hm)
   rw [a0I]at hr;have hs:=hfl (d.AS.map (·.AW)) fun m hm=>hb m (a0Q _ hm)
   rw [a0I]at hs;have e2:=want2 (f:=f) (p:=p) (ch:=d.AT) (ru:=d.AQ) d.AS [] ((d.AQ.map (·.AW)).flatMap (cI p)) f (by omega) (by simp;omega) (by omega) (fun r hr=>by
    obtain⟨w,N,hw⟩:=hd r.AW (a0Q _ (by grind))
    exact⟨N.r f hf,by have:=N.len;omega⟩)
   rw [<- List.flatMap_append]at e2;simp only [a0X,a0J,a0m]at e1 e2;have h3:jW (List.replicate z.toNat false) (fun _=>False) z.toNat:=⟨by simp,(by grind [idx])⟩
   have hmem:∀ i∈(dks d).flatMap (cI p),∃ m∈dks d,i∈cI p m:=by simp_all
   have hnn:∀ i∈(dks d).flatMap (cI p),0<=i:=fun i hi=>by
    obtain⟨m,hm,hi⟩:=hmem i hi;obtain⟨w,N,_⟩:=hd m hm;exact((N.is.2 i).1 hi).1
   have hlen:((dks d).flatMap (cI p)).length<=500000:=by
    grind [dks]
   obtain⟨u,e3,h4⟩:=want3 (z:=z.toNat) ((dks d).flatMap (cI p)) [] _ _ f (by omega) (by grind) hnn h3
   obtain⟨l,e4,s4,m4⟩:=want4 h4 (by omega) z.toNat 0 f [] (by omega) (by omega) .nil (fun a h=>by cases h) (a1o _)
   simp only [a0X,a0J,a0m]at e3 e4;rw [Int.toNat_of_nonneg h0]at e3 e4;have e:gK f p n=some l:=by
    unfold gK;rw [G.node,bsm,a1D (by simp [o4]),show(⟨p.AF,p.AB,p.AD,p.AG⟩:AJ)=p from rfl,aFk C.sm C.chk_ (by omega),bsm,G.size,bsm,show mk false z=mk false (z.toNat:Int)from by grind,pD (by omega),bsm,ed,bsm,e1,bsm,e2,bsm];rw [show(d.AQ.map (·.AW)++d.AS.map (·.AW))=Go.Proofs.YtgidgoahhepmlaaGreat.dks d from rfl,e3,bsm,e4,bsm]
   refine⟨l,e,s4,fun i=>?_⟩
   rw [m4];simp only [List.not_mem_nil,false_or,Int.toNat_of_nonneg h0,a0m,List.mem_flatMap]
  obtain⟨l,_,i0⟩:=main F (by decide)
  grind [oI.uniq]
 grind [dA]
theorem yI (C:Cx p s rk) {n:Int} {x:AZ} {z:Int} (G:iS p s.sz rk n x z) (o4:x.Op≠4):(∀ f,4000100<f->gK f p n=some (dA p n))/\dA p n=cI p n:=by
 have hn:=eY G.node
 obtain⟨_,_,_,_,N⟩:=C.need hn.1 hn.2
 have e:∀ f,4000100<f->gK f p n=some (cI p n):=fun f hf=>by
  unfold gK;rw [G.node,bsm,a1E o4,show(⟨p.AF,p.AB,p.AD,p.AG⟩:AJ)=p from rfl,N.r f hf,bsm]
 grind [dA]
theorem ask1 {sz:List Int} {n z:Int} (hz:idx sz n=some z) (AE:List Int):∀ (AC acc:List Int) (k:Nat),AE.length<k->AC.length+AE.length<=900000000->acc.length+AE.length<=900000000 ->
 sJ sz n (AC++AE) k AC.length acc=some (acc++AE.filter (fun y=>decide (y<z))):=by
 induction AE with
 | nil=>
  intro AC acc k hk _ _;obtain _ | k:=k
  ·omega
  grind [sJ]
 | cons e AE ih=>
  intro AC acc k hk hB hA;obtain _ | k:=k
  ·omega
  simp only [a0G]at hk hB hA;rw [sJ,a1E (bJ _ _ _),bP,bsm,hz,bsm];by_cases h:e<z
  ·rw [a1E h,dM (by simp;omega),bsm,bsm,aQ (by omega),bsm,bR,bE,ih (AC++[e]) (acc++[e]) k (by omega) (by simp;omega) (by simp;omega)];simp [h]
  ·rw [a1D h,bsm,aQ (by omega),bsm,bR,bE,ih (AC++[e]) acc k (by omega) (by simp;omega) (by omega)];simp [h]
def iY (p:AJ) (z:Int) (m:Int):List Int:=(cI p m).filter (fun y=>decide (y<z))
theorem ask_p {sz:List Int} {n z m:Int} (hz:idx sz n=some z) (hm:0<=m/\m<(p.AB.length:Int)) (hl:(cI p m).length<=6012) {acc:List Int} (ha:acc.length<=800000000):wE F m (iF p) sz n acc=some (acc++iY p z m):=by
 unfold wE
 rw [aCo hm.1 hm.2,bsm]
 have:=ask1 hz (cI p m) [] acc F (by unfold F;omega) (by simp;omega) (by omega)
 simpa [iY] using this
theorem ask2 {sz:List Int} {n z:Int} {e1 e2:Int} (hz:idx sz n=some z) {ch:List Aq} {sp:List Ap} (AE:List Ah):∀ (AC:List Ah) (acc:List Int) (k:Nat),AE.length<k->AC.length+AE.length<=3000000->acc.length+6012*AE.length<=800000000 ->
 (∀ r∈AE,(0<=r.AW/\r.AW<(p.AB.length:Int))/\(cI p r.AW).length<=6012)->tC F (iF p,e1) (sz,e2) n ⟨ch,sp,AC++AE⟩ k AC.length acc=some (acc++(AE.map (·.AW)).flatMap (iY p z)):=by
 induction AE with
 | nil=>
  intro AC acc k hk _ _ _;obtain _ | k:=k
  ·omega
  grind [tC]
 | cons e AE ih=>
  intro AC acc k hk hB hA hr;obtain _ | k:=k
  ·omega
  simp only [a0G]at hk hB hA;obtain⟨h1,h2⟩:=hr e (.head _);have hb:(iY p z e.AW).length<=6012:=a1l (a0H _ _) h2;rw [tC,a1E (bJ _ _ _),bP,bsm];simp only
  rw [ask_p hz h1 h2 (by omega),bsm,aQ (by omega),bsm,bR,bE,ih (AC++[e]) (acc++iY p z e.AW) k (by omega) (by simp;omega) (by simp;omega) (by grind)];simp
theorem ask3 {sz:List Int} {n z:Int} {e1 e2:Int} (hz:idx sz n=some z) {ch:List Aq} {ru:List Ah} (AE:List Ap):∀ (AC:List Ap) (acc:List Int) (k:Nat),AE.length<k->AC.length+AE.length<=3000000->acc.length+6012*AE.length<=800000000 ->
 (∀ r∈AE,(0<=r.AW/\r.AW<(p.AB.length:Int))/\(cI p r.AW).length<=6012)->rO F (iF p,e1) (sz,e2) n ⟨ch,AC++AE,ru⟩ k AC.length acc=some (acc++(AE.map (·.AW)).flatMap (iY p z)):=by
 induction AE with
 | nil=>
  intro AC acc k hk _ _ _;obtain _ | k:=k
  ·omega
  grind [rO]
 | cons e AE ih=>
  intro AC acc k hk hB hA hr;obtain _ | k:=k
  ·omega
  simp only [a0G]at hk hB hA;obtain⟨h1,h2⟩:=hr e (.head _);have hb:(iY p z e.AW).length<=6012:=a1l (a0H _ _) h2;rw [rO,a1E (bJ _ _ _),bP,bsm];simp only
  rw [ask_p hz h1 h2 (by omega),bsm,aQ (by omega),bsm,bR,bE,ih (AC++[e]) (acc++iY p z e.AW) k (by omega) (by simp;omega) (by simp;omega) (by grind)];simp
def Asks (p:AJ) (g:aM Int (List Int)) (k:Nat):Prop:=∀ i:Int,0<=i->i<(k:Int)->g.get i=some (dA p i)
theorem aC0 (C:Cx p s rk):∀ (d i k:Nat) (g:aM Int (List Int)),i+d=p.AB.length->d<k->Asks p g i->∃ g',tL F p (iF p,0) (s.sz,0) k i g=some g'/\Asks p g' p.AB.length
 | 0,i,k,g,h,hk,ha=>by
  obtain _ | k:=k
  ·omega
  rw [tL,a1D (by omega)];exact⟨g,rfl,by rw [<- h];exact ha⟩
 | d+1,i,k,g,h,hk,ha=>by
  obtain _ | k:=k
  ·omega
  have h60:=C.fm.n60;obtain⟨x,z,G,hz,N⟩:=C.need (n:=(i:Int)) (by omega) (by omega)
  rw [tL,a1E (by omega),G.node,bsm];have next:Asks p (aM.upd g (i:Int) (dA p i)) (i+1):=fun j h0 h1=>by
   have e:(aM.upd g (i:Int) (dA p i)).get j=if j=(i:Int)then some (dA p i) else g.get j:=rfl
   rw [e];by_cases ej:j=(i:Int)
   ·rw [a1E ej,ej]
   ·rw [a1D ej];exact ha j h0 (by omega)
  by_cases o4:x.Op=4
  ·obtain⟨d',ed,okd,e0,iw⟩:=yP C G hz o4;obtain⟨d2,ed2,_,hd⟩:=C.dks G o4;rw [ed]at ed2;cases ed2
   have hl:=gO okd;have hin:∀ m∈dks d',(0<=m/\m<(p.AB.length:Int))/\(cI p m).length<=6012:=fun m hm=>by
    obtain⟨w,N,hw⟩:=hd m hm;refine⟨?_,by have:=N.len;omega⟩
    obtain⟨w2,hw2⟩:=qR (p:=p) (x:=x) (z:=z) (m:=m) (by unfold kd;rw [a1E o4,ed];exact a0P _ hm)
    obtain⟨q1,_⟩:=G.below _ hw2;have h1:=eY q1;have:=C.fm.len;simp only at *;omega
   have e2:=ask2 (p:=p) (e1:=0) (e2:=0) G.size (ch:=d'.AT) (sp:=d'.AS) d'.AQ [] [] F (by unfold F;omega) (by simp;omega) (by simp;omega) (fun r hr=>hin r.AW (a0P _ (a0T.2 ⟨r,hr,rfl⟩)))
   have hfl:∀ ms:List Int,(∀ m∈ms,(cI p m).length<=6012)->(ms.flatMap (iY p z)).length<=6012*ms.length:=fun ms=>by
    induction ms with
    | nil=>simp
    | cons m ms ih=>
     intro h;have q1:(iY p z m).length<=6012:=a1l (a0H _ _) (h m (.head _));have q2:=ih fun m hm=>h m (.tail _ hm)
     simp only [a0u,a0F,a0G];omega
   have hr:=hfl (d'.AQ.map (·.AW)) fun m hm=>(hin m (a0P _ hm)).2
   rw [a0I]at hr;have e3:=ask3 (p:=p) (e1:=0) (e2:=0) G.size (ch:=d'.AT) (ru:=d'.AQ) d'.AS [] ((d'.AQ.map (·.AW)).flatMap (iY p z)) F (by unfold F;omega) (by simp;omega) (by omega) (fun r hr=>hin r.AW (a0Q _ (a0T.2 ⟨r,hr,rfl⟩)))
   rw [<- List.flatMap_append]at e3;simp only [a0X,a0J,a0m]at e2 e3;have hc:=aKG ((dks d').flatMap (iY p z));have hw:Go.Lib.compact (gE ((dks d').flatMap (iY p z)))=dA p i:=oI.uniq (p:=p) (d:=d') (z:=z) ⟨hc.1,fun j=>by
    rw [hc.2,List.mem_flatMap];constructor
    ·rintro⟨m,hm,hj⟩
     obtain⟨w,N,_⟩:=hd m hm;have hj':=List.mem_filter.1 hj;exact⟨((N.is.2 j).1 hj'.1).1,by simpa using hj'.2,m,hm,hj'.1⟩
    ·rintro⟨_,h1,m,hm,hj⟩
     exact⟨m,hm,List.mem_filter.2 ⟨hj,by simpa using h1⟩⟩⟩ iw
   rw [a1D (by simp [o4]),ed,bsm,e2,bsm,bsm];rw [e3,bsm];rw [show(d'.AQ.map (·.AW)++d'.AS.map (·.AW))=Go.Proofs.YtgidgoahhepmlaaGreat.dks d' from rfl,aCO,bsm,aDu,bsm,bsm,hw,aQ (by omega),bsm];exact aC0 C d (i+1) k _ (by omega) (by omega) next
  ·obtain⟨_,e⟩:=yI C G o4;rw [a1E o4,aCo (by omega) (by omega),bsm,bsm,aQ (by omega),bsm];rw [e]at next;exact aC0 C d (i+1) k _ (by omega) (by omega) next
theorem asked_p (C:Cx p s rk):∃ g,xU F p=some (g,0)/\Asks p g p.AB.length/\g.get (-1)=some (cI p p.AG):=by
 have h60:=C.fm.n60
 obtain⟨g,e,ha⟩:=aC0 C p.AB.length 0 F aM.none (by omega) (by unfold F;omega) (fun i h0 h1=>by omega)
 have hm:=eY C.fm.main
 have:=C.fm.len
 rw [a0m]at e
 refine⟨aM.upd g (-1) (cI p p.AG),?_,fun i h0 h1=>?_,rfl⟩
 ·unfold xU;rw [show(⟨p.AF,p.AB,p.AD,p.AG⟩:AJ)=p from rfl,needs_S C,bsm];simp only [ne_eq,not_true_eq_false,if_false];rw [sizes_eq C.sm C.chk_ C.fm.len h60,bsm,e,bsm,aCo hm.1 (by omega),bsm]
 ·show(if i=-1 then some (cI p p.AG) else g.get i)=_
  rw [a1D (by omega)];exact ha i h0 h1
open Go.SX Go.SW Go.Dt
def fndA (x:Int):List Int->Int->Int
 | [],_=>-1
 | y :: l,k=>if x=y then k else fndA x l (k+1)
def fnd (l:List Int) (x:Int):Int:=fndA x l 0
theorem aJr {x:Int} (AE:List Int):∀ (AC:List Int) (k:Nat),AE.length<k->AC.length+AE.length<=900000000 ->
 ∃ r,sO (AC++AE) x k AC.length=some r/\((r= .inl ()/\fndA x AE AC.length=-1)\/r= .inr (fndA x AE AC.length)):=by
 induction AE with
 | nil=>
  intro AC k hk _;obtain _ | k:=k
  ·omega
  rw [sO,a1D (by simp)];exact⟨_,rfl, .inl ⟨rfl,rfl⟩⟩
 | cons e AE ih=>
  intro AC k hk hB;obtain _ | k:=k
  ·omega
  simp only [a0G]at hk hB;rw [sO,a1E (bJ _ _ _),bP,bsm];by_cases h:x=e
  ·grind [fndA]
  ·rw [a1D h,aQ (by omega),bsm,fndA,a1D h,bR,bE];exact ih (AC++[e]) k (by omega) (by simp;omega)
theorem find_p {AA:Nat} {l:List Int} {x:Int} (hf:l.length<AA) (hB:l.length<=900000000):zM AA l x=some (fnd l x):=by
 obtain⟨r,e,h⟩:=aJr (x:=x) l [] AA hf (by simp;omega)
 grind [zM,fnd]
mutual
def flE (l:List Int):AV->AV
 | ⟨op,n,ks⟩=>⟨op,if op=2 then fnd l n else n,flL l ks⟩
def flL (l:List Int):List AV->List AV
 | []=>[]
 | k :: ks=>flE l k :: flL l ks
end
theorem aE2 {ch:List Aq}:∀ {js:List Int},(∀ c∈js,∃ y,idx ch c=some y/\0<=y.Ar/\y.Ar<=3)->iC ch js=some (brs ch js)
 | [],_=>rfl
 | c :: js,h=>by
  obtain⟨y,hy,hm⟩:=h c (.head _);rw [iC,hy,bsm,a1E hm,aE2 fun c hc=>h c (.tail _ hc),bsm,brs,hy]
def yN (x:AZ) (list w:List Int):Int:=if x.Op=6\/x.Op=8 then fnd w x.N else if x.Op=2 then fnd list x.N else x.N
def yT (x:AZ) (list w:List Int):List Int:=if fN x.Op=true then w.map (fnd list) else []
def yOf (x:AZ) (list w:List Int):Ao:=⟨x.Op,yN x list w,flL list x.AX,x.AM,yT x list w⟩
abbrev C3:=Int × List Int × Int
def fR (d:AN) (z:Int) (ins:List Int):List C3:=d.AQ.map fun r=>(r.AW,ins++upto (z+own d) (brs d.AT r.Ad).toNat,z+own d+brs d.AT r.Ad)
def fS (d:AN) (z:Int) (ins:List Int):List C3:=d.AS.map fun y=>(y.AW,ins,z+own d)
def jY (w:List Int) (z:Int) (d:AN):List Int:=w++upto z (own d).toNat
def fD (p:AJ) (x:AZ) (z:Int) (w:List Int):List C3:=
 if x.Op=4 then match idx p.AD x.N with
  | some d=>fR d z (jY w z d)++fS d z (jY w z d)
  | none=>[]
 else []
def fK (p:AJ) (x:AZ) (list:List Int) (z:Int) (w:List Int):List C3:=
 if x.Op=4 then match idx p.AD x.N with
  | some d=>x.AM.map fun k=>(k,list++upto z (own d).toNat,z+own d)
  | none=>[]
 else x.AM.map fun k=>(k,if x.Op=6\/x.Op=8 then w else list,z)
def fold3 (g:Int->List Int->Int->List Ao->List Ao):List C3->List Ao->List Ao
 | [],nd=>nd
 | c :: l,nd=>fold3 g l (g c.1 c.2.1 c.2.2 nd)
def put (p:AJ):Nat->Int->List Int->Int->List Ao->List Ao
 | 0,_,_,_,nd=>nd
 | h+1,n,list,z,nd=>match idx p.AB n with
  | none=>nd
  | some x=>fold3 (put p h) (fK p x list z (dA p n)) (fold3 (put p h) (fD p x z (dA p n)) (nd.set n.toNat (yOf x list (dA p n))))
open Go.SX Go.SW Go.Dt
structure Nd (p:AJ) (s:VS) (rk:Int->Nat) (n:Int) (x:AZ) (z:Int):Prop where
 g:iS p s.sz rk n x z
 z6:z<=6012
theorem Cx.child {p:AJ} {s:VS} {rk:Int->Nat} (C:Cx p s rk) {n:Int} {x:AZ} {z:Int} (G:iS p s.sz rk n x z) {c:Int × Int} (h:c∈gV p x z):rk c.1<rk n/\∃ y,Nd p s rk c.1 y c.2:=by
 obtain⟨q1,q2,_⟩:=G.below c h
 have h1:=eY q1
 have:=C.fm.len
 obtain⟨_,y,w,G',hw⟩:=C.fm.good c.1 h1.1 (by omega)
 have e:=G'.size
 rw [q1]at e;cases e
 exact⟨q2,y,G',hw⟩
theorem Cx.want_len {p:AJ} {s:VS} {rk:Int->Nat} (C:Cx p s rk) {n:Int} {x:AZ} {z:Int} (K:Nd p s rk n x z):((dA p n).length:Int)<=z:=by
 have h0:=K.g.pos
 by_cases o4:x.Op=4
 ·obtain⟨d,_,_,_,iw⟩:=yP C K.g K.z6 o4;have:=rD iw.1 (a:=0) (b:=z) fun i hi=>⟨((iw.2 i).1 hi).1,((iw.2 i).1 hi).2.1⟩
  omega
 ·rw [(yI C K.g o4).2];have hn:=eY K.g.node;obtain⟨_,w,G',_,N⟩:=C.need hn.1 hn.2;have e:=G'.size;rw [K.g.size]at e;cases e
  exact N.len
open Go.SX Go.SW Go.Dt
theorem aIJ (AE:List Int):∀ (AC:List Int) (k:Nat),AE.length<k->AC.length+AE.length<=900000000->tJ (AC++AE) (AC++AE) k AC.length=some (.inl ()):=by
 induction AE with
 | nil=>
  intro AC k hk _;obtain _ | k:=k
  ·omega
  grind [tJ]
 | cons e AE ih=>
  intro AC k hk hB;obtain _ | k:=k
  ·omega
  simp only [a0G]at hk hB;rw [tJ,a1E (bJ _ _ _),bP,bsm,bsm,a1D (by simp),aQ (by omega),bsm,bR,bE];exact ih (AC++[e]) k (by omega) (by simp;omega)
theorem aHS {AA:Nat} {l:List Int} (hf:l.length<AA) (h:l.length<=900000000):xC AA l l=some true:=by
 have g:=aIJ l [] AA hf (by simp;omega)
 grind [xC]
theorem sdef1 {sp:List Ap} {ru:List Ah} (AE:List Aq):∀ (AC:List Aq) (k:Nat),AE.length<k->AC.length+AE.length<=900000000->rB ⟨AC++AE,sp,ru⟩ ⟨AC++AE,sp,ru⟩ k AC.length=some (.inl ()):=by
 induction AE with
 | nil=>
  intro AC k hk _;obtain _ | k:=k
  ·omega
  grind [rB]
 | cons e AE ih=>
  intro AC k hk hB;obtain _ | k:=k
  ·omega
  simp only [a0G]at hk hB;rw [rB,a1E (bJ _ _ _),bP,bsm,bsm,a1B rfl,a1B rfl,Bool.and_self,a1z,aQ (by omega),bsm,bR,bE];exact ih (AC++[e]) k (by omega) (by simp;omega)
theorem sdef2 {ch:List Aq} {ru:List Ah} (AE:List Ap):∀ (AC:List Ap) (k:Nat),AE.length<k->AC.length+AE.length<=900000000->rJ ⟨ch,AC++AE,ru⟩ ⟨ch,AC++AE,ru⟩ k AC.length=some (.inl ()):=by
 induction AE with
 | nil=>
  intro AC k hk _;obtain _ | k:=k
  ·omega
  grind [rJ]
 | cons e AE ih=>
  intro AC k hk hB;obtain _ | k:=k
  ·omega
  simp only [a0G]at hk hB;rw [rJ,a1E (bJ _ _ _),bP,bsm,bsm,a1B rfl,a1B rfl,Bool.and_self,a1z,aQ (by omega),bsm,bR,bE];exact ih (AC++[e]) k (by omega) (by simp;omega)
theorem sdef3 {AA:Nat} {ch:List Aq} {sp:List Ap} (AE:List Ah):∀ (AC:List Ah) (k:Nat),AE.length<k->AC.length+AE.length<=900000000->(∀ r∈AE,r.Ad.length<AA/\r.Ad.length<=900000000)->rW AA ⟨ch,sp,AC++AE⟩ ⟨ch,sp,AC++AE⟩ k AC.length=some (.inl ()):=by
 induction AE with
 | nil=>
  intro AC k hk _ _;obtain _ | k:=k
  ·omega
  grind [rW]
 | cons e AE ih=>
  intro AC k hk hB hr;obtain _ | k:=k
  ·omega
  simp only [a0G]at hk hB;have h:=hr e (.head _);rw [rW,a1E (bJ _ _ _),bP,bsm,bsm,a1D (by simp),bsm,bsm,a1D (by simp),bsm,bsm,aHS h.1 h.2,bsm,a1z,aQ (by omega),bsm,bR,bE];exact ih (AC++[e]) k (by omega) (by simp;omega) (fun r hr'=>hr r (.tail _ hr'))
theorem sdef {AA:Nat} {d:AN} (hf:3000<AA) (okd:okD d=true):aAh AA d d=some true:=by
 obtain⟨ch,sp,ru⟩:=d
 have hl:=gO okd
 dsimp only at hl
 have e1:=sdef1 (sp:=sp) (ru:=ru) ch [] AA (by omega) (by simp;omega)
 have e2:=sdef2 (ch:=ch) (ru:=ru) sp [] AA (by omega) (by simp;omega)
 have e3:=sdef3 (AA:=AA) (ch:=ch) (sp:=sp) ru [] AA (by omega) (by simp;omega) (fun r hr=>by have:=(hl.2.2.2.2 r hr).1;omega)
 grind [aAh]
structure SmN (y:Ao):Prop where
 la:y.AX.length<=3
 ex:∀ e∈y.AX,nE e<=60
 lk:y.AM.length<=2
 lt:y.AI.length<=6012
def zeroF:Ao:=⟨0,0,[],[],[]⟩
def flatOf (p:AJ):AH:=⟨p.AF,cI p p.AG,put p 60 p.AG (cI p p.AG) p.AF.length (List.replicate p.AB.length zeroF),p.AD,p.AG⟩
theorem Cx.main {p:AJ} {s:VS} {rk:Int->Nat} (C:Cx p s rk):∃ x,Nd p s rk p.AG x p.AF.length/\rk p.AG<60/\NeedB p s p.AG p.AF.length:=by
 have h1:=eY C.fm.main
 have:=C.fm.len
 obtain⟨hr,x,z,G,hz⟩:=C.fm.good p.AG h1.1 (by omega)
 have e:=G.size
 rw [C.fm.main]at e;cases e
 obtain⟨_,w,G',_,N⟩:=C.need (n:=p.AG) h1.1 (by omega)
 have e:=G'.size
 rw [C.fm.main]at e;cases e
 exact⟨x,⟨G,hz⟩,hr,N⟩
open Go.SX Go.SW Go.Dt
theorem aEr {l:List Int} {R:Nat->Prop}:∀ {ks a:List AV},opL l ks=some a->(∀ e∈ks,R (nE e))->∀ e∈a,R (nE e)
 | [],a,h,_,e,he=>by rw [opL]at h;cases h;cases he
 | k :: ks,a,h,hk,e,he=>by
  obtain⟨k',ks',rfl,h1,h2⟩:=nN h;cases he with
  | head=>rw [(aCQ h1).1];exact hk k (.head _)
  | tail _ he=>exact aEr h2 (fun e he=>hk e (.tail _ he)) e he
theorem aCf {f:AH} (hm:SmF f) {s:FS} (hi:InvF f s) (hl:s.nd.length=f.AB.length):SmP (cJ f s):=by
 refine⟨by show s.nd.length<=_;rw [hl];exact hm.nodes,hm.Ae,hm.free,hm.names,fun w hw=>?_,hm.Ab⟩
 obtain⟨i,hi2⟩:=a0S.1 hw
 rcases hi i w hi2 with rfl | ⟨y,l,t,h1,h2⟩
 ·exact⟨by simp [uB],by simp [uB],fun e he=>by simp [uB]at he⟩
 ·obtain⟨a1,a2,a3⟩:=hm.args y (a0V h1);unfold opN at h2;obtain⟨m,_,h2⟩:=bind_some h2;obtain⟨a,ha,h2⟩:=bind_some h2;cases h2;exact⟨by rw [aAR ha];exact a1,a2,aEr (R:=fun n=>n<=2000000) ha a3⟩
theorem pH {x:Bool} {f:AH} (h:¬ ((f.AB.length<=60/\f.AF.length<=12/\f.AD.length<=12)/\dV f.AF.length none f.AI=true)):fU x f=none:=by
 unfold fU iH;rw [a1D h];rfl
theorem aAP {x:Bool} {f:AH} (h:(f.AB.length<=60/\f.AF.length<=12/\f.AD.length<=12)/\dV f.AF.length none f.AI=true):iH x f=aT x f f.AB.length (gQ f) f.AG f.AI f.AF.length:=by
 unfold iH;rw [a1E h]
theorem aBg {f:AH}:WF f (gQ f):=⟨by simp [gQ],by simp [gQ],by simp [gQ],by simp [gQ]⟩
theorem aEO {f:AH}:unF (gQ f)<=f.AB.length:=by simp [unF,gQ,List.countP_replicate]
theorem aJk {f:AH} (AE:List AN):∀ (AC:List AN) (k:Nat),f.AD=AC++AE->AE.length<k->AC.length+AE.length<=3000000->∃ r,oN f k AC.length=some r/\((∀ d∈AE,d.AT.length<=30/\d.AS.length<=30)/\r= .inl ()\/(¬ ∀ d∈AE,d.AT.length<=30/\d.AS.length<=30)/\r= .inr none):=by
 induction AE with
 | nil=>
  intro AC k hd hk _;obtain _ | k:=k
  ·omega
  exact⟨_,by rw [oN,hd,a1D (by simp)], .inl ⟨(fun d h=>by cases h),rfl⟩⟩
 | cons e AE ih=>
  intro AC k hd hk hB;obtain _ | k:=k
  ·omega
  simp only [a0G]at hk hB;rw [oN,a1E (by rw [hd];exact bJ _ _ _),show idx f.AD (AC.length:Int)=some e from by rw [hd];exact bP _ _ _,bsm];by_cases c1:30<(e.AT.length:Int)
  ·rw [a1E c1];exact⟨_,rfl, .inr ⟨fun h=>by have:=(h e (.head _)).1;omega,rfl⟩⟩
  rw [a1D c1];by_cases c2:30<(e.AS.length:Int)
  ·rw [a1E c2];exact⟨_,rfl, .inr ⟨fun h=>by have:=(h e (.head _)).2;omega,rfl⟩⟩
  rw [a1D c2,aQ (by omega),bsm,bE];obtain⟨r,g1,g2⟩:=ih (AC++[e]) k (by rw [hd,bR]) (by omega) (by simp;omega)
  refine⟨r,g1,?_⟩;rcases g2 with⟨g2,g3⟩ | ⟨g2,g3⟩
  ·refine .inl ⟨fun d hd=>?_,g3⟩
   cases hd with
   | head=>omega
   | tail _ h=>exact g2 d h
  ·exact .inr ⟨fun h=>g2 fun d hd=>h d (.tail _ hd),g3⟩
theorem aAS {f:AH} (hm:SmF f):vI F f=some (match fU false f with | some s=>some (cvP f s) | none=>none):=by
 have m1:=hm.nodes;have m2:=hm.free;have m3:=hm.Ae;have m4:=hm.take
 rw [vI]
 by_cases c1:60<(f.AB.length:Int)
 ·rw [a1E c1,pH (by omega)]
 rw [a1D c1]
 by_cases c2:12<(f.AF.length:Int)
 ·rw [a1E c2,pH (by omega)]
 rw [a1D c2]
 by_cases c3:12<(f.AD.length:Int)
 ·rw [a1E c3,pH (by omega)]
 rw [a1D c3,aDR (by show _<1000000000;omega) (by omega),bsm]
 by_cases hr:dV f.AF.length none f.AI=true
 ·have hc:(f.AB.length<=60/\f.AF.length<=12/\f.AD.length<=12)/\dV f.AF.length none f.AI=true:=⟨by omega,hr⟩
  obtain⟨r,g1,g2⟩:=aJk (f:=f) f.AD [] F rfl (by show _<1000000000;omega) (by simp;omega)
  rw [hr,a1z,show oN f F 0=_ from g1,bsm];rcases g2 with⟨hD,rfl⟩ | ⟨hD,rfl⟩
  ·dsimp only
   have htl:=xB (b:=f.AF.length) (by omega) hr
   obtain⟨r,q1,q2⟩:=(pvisF hm hD f.AB.length F (by show _<1000000000;omega)).run (gQ f) f.AG f.AI f.AF.length aBg aEO htl (by omega)
   rw [pD (by omega),bsm,bsm,pD (by omega),bsm,aA5,a0X,dM (by omega),bsm,bsm,pD (by omega),bsm,copied_p (by show _<1000000000;omega) m3 hm.Ab,bsm,jR,a0X,dM (by omega),bsm,bsm,
    show eL F (⟨(⟨f.AF,f.AI,f.AB,f.AD,f.AG⟩:AH),List.replicate f.AB.length [],List.replicate f.AB.length [],List.replicate f.AB.length false,(⟨f.AF,List.replicate f.AB.length (⟨0,0,[],[]⟩:AZ),f.AD,f.AG⟩:AJ)⟩:Ai) f.AG f.AI f.AF.length=_ from q1,bsm]
   unfold fU;rw [aAP hc];cases hq:aT false f f.AB.length (gQ f) f.AG f.AI f.AF.length with
   | none=>rw [hq]at q2;obtain⟨s',rfl⟩:=q2;rfl
   | some s=>
    rw [hq]at q2;have q2:r=(cvP f s,true):=q2;subst q2;obtain⟨i1,i2⟩:=zO (x:=false) (f:=f) (s:=s) (by rw [aAP hc];exact hq)
    rw [bsm];dsimp only
    rw [a0k,a1y,show uX F (⟨(cvP f s).AO.AF,(cvP f s).AO.AB,(cvP f s).AO.AD,(cvP f s).AO.AG⟩:AJ)=some (if (dT (cJ f s)).isSome=true then 0 else 2)from check_eq (aCf hm i1 i2),bsm];by_cases hk:(dT (cJ f s)).isSome=true
    ·rw [a1E hk,a1E hk,a1D (by decide)]
    ·rw [a1D hk,a1D hk,a1E (by decide)]
  ·have:fU false f=none:=by
    cases ha:fU false f with
    | none=>rfl
    | some s=>
     unfold fU at ha;obtain⟨t,_,ha⟩:=bind_some ha;split at ha
     ·rename_i hk;obtain⟨vs,hvs⟩:=Option.isSome_iff_exists.1 hk;exact absurd (fun d hd=>by obtain⟨h1,h2,_⟩:=gO (aAO hvs d hd);exact⟨h1,h2⟩) hD
     ·cases ha
   rw [this]
 ·rw [Bool.eq_false_iff.2 hr,a1y,pH (fun h=>hr h.2)]
open Go.SX Go.SW Go.Dt
theorem aEa {x:Int}:∀ (l:List Int) (k:Int),x∈l->∃ i:Nat,fndA x l k=k+i/\l[i]? =some x
 | [],_,h=>by cases h
 | y :: l,k,h=>by
  rw [fndA];by_cases e:x=y
  ·rw [a1E e];exact⟨0,by simp,by simp [e]⟩
  ·rw [a1D e];rcases a0R.1 h with h | h
   ·exact absurd h e
   ·obtain⟨i,h1,h2⟩:=aEa l (k+1) h;exact⟨i+1,by rw [h1];simp only [Int.natCast_add];omega,by simpa using h2⟩
theorem fnd_mem {l:List Int} {x:Int} (h:x∈l):∃ i:Nat,fnd l x=(i:Int)/\l[i]? =some x:=by
 obtain⟨i,h1,h2⟩:=aEa l 0 h
 exact⟨i,by rw [fnd,h1];omega,h2⟩
theorem aKD {b:Int} {q:Option Int} {n:Int} {l:List Int}:dV b q (n :: l)=((decide (0<=n/\n<b) && (match q with | none=>true | some q=>decide (q<n))) && dV b (some n) l):=by cases q <;> rfl
def NewI (s s':VS) (i:Int):Prop:=idx s.AR i≠some true/\idx s'.AR i=some true
theorem aB9 {g:VS->Int->Int->Option VS} (H:∀ s n z s',g s n z=some s'->∀ i,idx s.AR i=some true->idx s'.AR i=some true):∀ (l:List (Int × Int)) (s s':VS),cS g s l=some s'->∀ i,idx s.AR i=some true->idx s'.AR i=some true
 | [],s,s',h,i,hi=>by cases h;exact hi
 | c :: l,s,s',h,i,hi=>by
  obtain⟨s1,h1,h2⟩:=bind_some h;exact aB9 H l s1 s' h2 i (H _ _ _ _ h1 i hi)
theorem aAB {s:VS} {n z:Int} {x:AZ} {i:Int} (hn:idx s.AR n=some false):idx (mark s n z x).AR i=if i=n then some true else idx s.AR i:=by
 have:=eY hn
 split
 ·rename_i e;subst e;exact qL this.1 this.2
 ·rename_i e;exact nQ this.1 e
theorem aBJ {p:AJ}:∀ (k:Nat) (s:VS) (n z:Int) (s':VS),vis p k s n z=some s'->∀ i,idx s.AR i=some true->idx s'.AR i=some true
 | 0,_,_,_,_,h,_,_=>by simp [vis]at h
 | k+1,s,n,z,s',h,i,hi=>by
  obtain⟨x,_,hn,_,_,h⟩:=aA2 h;refine aB9 (aBJ k) _ _ _ h i ?_;rw [aAB hn];split
  ·rfl
  ·exact hi
abbrev c2 (c:C3):Int × Int:=(c.1,c.2.2)
def cs3 (p:AJ) (x:AZ) (list:List Int) (z:Int) (w:List Int):List C3:=fD p x z w++fK p x list z w
theorem aDv {p:AJ} {x:AZ} {list:List Int} {z:Int} {w:List Int}:(cs3 p x list z w).map c2=gV p x z:=by
 unfold cs3 fD fK gV
 by_cases h:x.Op=4
 ·simp only [a1E h];cases idx p.AD x.N with
  | none=>rfl
  | some d=>simp [fR,fS,chD,Function.comp_def]
 ·simp only [a1D h];simp [Function.comp_def]
def jS (p:AJ) (g:AH):Nat->Int->List Int->Int->Prop
 | 0,_,_,_=>True
 | k+1,n,list,z=>∃ x,idx p.AB n=some x/\idx g.AB n=some (yOf x list (dA p n))/\∀ c∈cs3 p x list z (dA p n),jS p g k c.1 c.2.1 c.2.2
theorem aCc {g:FS->Int->List Int->Int->Option FS}:∀ (l m:List (Option (Int × List Int × Int))) (s:FS),bX g s (l++m)=(bX g s l).bind fun s=>bX g s m
 | [],m,s=>rfl
 | none :: l,m,s=>rfl
 | some t :: l,m,s=>by
  simp only [a0q,bX];cases g s t.1 t.2.1 t.2.2 with
  | none=>rfl
  | some s1=>exact aCc l m s1
theorem aDe {d:AN}:own d=(bF d:Int):=by unfold own bF;omega
theorem inner_eq {f:AH} {p:AJ} {g:FS->Int->List Int->Int->Option FS} {s:FS} {y:Ao} {x:AZ} {list tk:List Int} {z:Int} (hd:f.AD=p.AD) (ho:y.Op=x.Op) (hn:x.Op=4->y.N=x.N) (hk:y.AM=x.AM) (hok:x.Op=4->∃ d,idx p.AD x.N=some d/\okD d=true):
 eS false f g s y list tk z=bX g s ((cs3 p x list z tk).map some):=by
 unfold eS cs3 fD fK
 rw [ho,hd,hk]
 by_cases h:x.Op=4
 ·obtain⟨d,ed,okd⟩:=hok h;rw [a1E h,a1E h,a1E h,hn h,ed,bsm,a1E (by intro q;cases q)];dsimp only
  have hr:d.AQ.map (dU false d (tk++upto z (bF d)) (z+bF d))=(fR d z (jY tk z d)).map some:=by
   rw [fR,List.map_map];refine a0M fun r hr=>?_
   rw [aDp,aE2 ((gO okd).2.2.2.2 r hr).2,bsm];simp only [Function.comp_def,jY,aDe,a0n]
  have hs:(d.AS.map fun p=>some (p.AW,tk++upto z (bF d),z+(bF d:Int)))=(fS d z (jY tk z d)).map some:=by
   rw [fS,List.map_map];refine a0M fun r hr=>?_
   simp only [Function.comp_def,jY,aDe,a0n]
  rw [hr,hs,a0L,a0L,aCc,aCc,Option.bind_assoc];simp only [List.map_map,Function.comp_def,aDe,a0n]
 ·rw [a1D h,a1D h,a1D h,a0X,List.map_map];simp only [Function.comp_def,fQ,ho]
open Go.SX Go.SW Go.Dt
structure Lo (p:AJ) (list:List Int) (n z:Int):Prop where
 srt:Srt list
 bnd:∀ i∈list,0<=i/\i<z
 has:∀ i∈cI p n,i∈list
theorem yA {z i:Int} {k:Nat}:i∈upto z k ↔ z<=i/\i<z+k:=by
 simp only [upto,a0T,List.mem_range]
 constructor
 ·rintro⟨j,hj,rfl⟩;omega
 ·intro h;exact⟨(i - z).toNat,by omega,by omega⟩
theorem aF8 {z:Int}:∀ k,Srt (upto z k)
 | 0=>by simp [upto]
 | k+1=>by
  rw [aC1];refine a1a.2 ⟨aF8 k,by simp,fun a ha b hb=>?_⟩
  have:=yA.1 ha;simp only [a0W]at hb;omega
theorem aDr {l:List Int} {z:Int} {k:Nat} (h0:0<=z) (h:Srt l) (hb:∀ i∈l,0<=i/\i<z):Srt (l++upto z k)/\∀ i∈l++upto z k,0<=i/\i<z+k:=by
 refine⟨a1a.2 ⟨h,aF8 k,fun a ha b hb'=>?_⟩,fun i hi=>?_⟩
 ·have:=hb a ha;have:=yA.1 hb';omega
 ·rcases a0O.1 hi with q | q
  ·have:=hb i q;omega
  ·have:=yA.1 q;omega
variable {p:AJ} {vs:VS} {rk:Int->Nat}
theorem Cx.isNeed (C:Cx p vs rk) {n:Int} {x:AZ} {z:Int} (K:Nd p vs rk n x z):rR p n z (cI p n):=by
 have hn:=eY K.g.node
 obtain⟨_,w,G',_,N⟩:=C.need hn.1 hn.2
 have e:=G'.size
 rw [K.g.size]at e;cases e
 exact N.is
theorem Cx.need_kid (C:Cx p vs rk) {n:Int} {x:AZ} {z:Int} (K:Nd p vs rk n x z) {m:Int} (hm:m∈kd p x) {i:Int} (hi:i∈cI p m) (h:i<z):i∈cI p n:=by
 obtain⟨w,hw⟩:=qR (z:=z) hm
 obtain⟨_,y,K'⟩:=C.child K.g hw
 have q:=((C.isNeed K').2 i).1 hi
 exact((C.isNeed K).2 i).2 ⟨q.1,h,(aBS K.g.node).2 (.inr ⟨m,hm,q.2.2⟩)⟩
theorem dks_kd {x:AZ} {d:AN} (o4:x.Op=4) (ed:idx p.AD x.N=some d) {m:Int} (h:m∈dks d):m∈kd p x:=by
 unfold kd
 rw [a1E o4,ed]
 exact a0P _ h
theorem Cx.isWant (C:Cx p vs rk) {n:Int} {x:AZ} {z:Int} (K:Nd p vs rk n x z):Srt (dA p n)/\(∀ i∈dA p n,i∈cI p n)/\∀ i∈dA p n,0<=i/\i<z:=by
 have nb:∀ i∈cI p n,0<=i/\i<z:=fun i hi=>⟨(((C.isNeed K).2 i).1 hi).1,(((C.isNeed K).2 i).1 hi).2.1⟩
 by_cases o4:x.Op=4
 ·obtain⟨d,ed,okd,_,iw⟩:=yP C K.g K.z6 o4;refine⟨iw.1,fun i hi=>?_,fun i hi=>⟨((iw.2 i).1 hi).1,((iw.2 i).1 hi).2.1⟩⟩
  obtain⟨_,h2,m,hm,h3⟩:=(iw.2 i).1 hi;exact C.need_kid K (dks_kd o4 ed hm) h3 h2
 ·rw [(yI C K.g o4).2];exact⟨(C.isNeed K).1,fun i h=>h,nb⟩
structure Rk (p:AJ) (s s':VS) (t t':FS):Prop where
 AP:t'.AP=s'.AR
 new:∀ i x,NewI s s' i->idx p.AB i=some x->idx t'.nd i=some x/\idx t'.AU i=some (if fN x.Op=true then dA p i else [])
 old:∀ i,¬ NewI s s' i->idx t'.nd i=idx t.nd i/\idx t'.AU i=idx t.AU i
open Go.SX Go.SW Go.Dt
def sp1 (w l:List Int):Nat:=l.countP fun i=>decide (fnd w i<0)
theorem sp1_cons {w:List Int} {e:Int} {l:List Int}:sp1 w (e :: l)=sp1 w l+if fnd w e<0 then 1 else 0:=by
 unfold sp1
 rw [List.countP_cons]
 simp only [a1C]
theorem sp1_le {w:List Int}:∀ {l:List Int},sp1 w l<=l.length:=List.countP_le_length
theorem aLB {AA:Nat} {n:Int} {w:List Int} {g:aM Int (List Int)} (hg:g.get n=some w) (hf:w.length<AA) (hw:w.length<=900000000) (AE:List Int):∀ (AC:List Int) (k:Nat) (acc:Int),AE.length<k->AC.length+AE.length<=900000000->0<=acc->acc+AE.length<=900000000 ->
 rP AA n (AC++AE) g k AC.length acc=some (acc+(sp1 w AE:Int)):=by
 induction AE with
 | nil=>
  intro AC k acc hk _ _ _;obtain _ | k:=k
  ·omega
  rw [rP,a1D (by simp)];simp [sp1]
 | cons e AE ih=>
  intro AC k acc hk hB h0 hA;obtain _ | k:=k
  ·omega
  simp only [a0G]at hk hB hA;rw [rP,a1E (bJ _ _ _),bP,bsm,hg,a1p,find_p hf hw,bsm,sp1_cons];by_cases h:fnd w e<0
  ·rw [a1E h,a1E h,aQ (by omega),bsm,bsm,aQ (by omega),bsm,bR,bE,ih (AC++[e]) k (acc+1) (by omega) (by simp;omega) (by omega) (by omega)];congr 1;omega
  ·rw [a1D h,a1D h,bsm,aQ (by omega),bsm,bR,bE,ih (AC++[e]) k acc (by omega) (by simp;omega) (by omega) (by omega)];congr 1
theorem aGa {AA:Nat} {n:Int} {w l:List Int} {g:aM Int (List Int)} {acc:Int} (hg:g.get n=some w) (hf:1000000<AA) (hw:w.length<=1000000) (hl:l.length<=1000000) (h0:0<=acc) (ha:acc<=800000000):rH AA n l g acc=some (acc+(sp1 w l:Int)):=by
 have:=aLB (AA:=AA) hg (by omega) (by omega) l [] AA acc (by omega) (by simp;omega) h0 (by omega)
 simp only [a0X,a0J,a0m]at this
 rw [rH,this]
def spN (wf tk:Int->List Int):List Ao->Int->Int
 | [],_=>0
 | y :: l,i=>(if fN y.Op=true then(sp1 (wf i) (tk i):Int) else 0)+spN wf tk l (i+1)
theorem aIv {f:AH} {v:Ai} {g:aM Int (List Int)} {e0:Int} {wf tk:Int->List Int}
 (hw:∀ i y,idx f.AB i=some y->fN y.Op=true->idx v.AU i=some (tk i)/\g.get i=some (wf i)/\(wf i).length<=1000000/\(tk i).length<=1000000) (AE:List Ao):
 ∀ (AC:List Ao) (k:Nat) (acc:Int),f.AB=AC++AE->AE.length<k->AC.length+AE.length<=60->0<=acc->acc+1000000*AE.length<=100000000->rI F f v (g,e0) k AC.length acc=some (acc+spN wf tk AE AC.length):=by
 induction AE with
 | nil=>
  intro AC k acc he hk _ _ _;obtain _ | k:=k
  ·omega
  rw [rI,he,a1D (by simp),spN,Int.add_zero]
 | cons e AE ih=>
  intro AC k acc he hk hB h0 hA;obtain _ | k:=k
  ·omega
  simp only [a0G]at hk hB hA;have hi:idx f.AB (AC.length:Int)=some e:=by rw [he];exact bP _ _ _
  rw [rI,a1E (by rw [he];exact bJ _ _ _),hi,bsm,aCv,bsm,spN];by_cases ht:fN e.Op=true
  ·obtain⟨h1,h2,h3,h4⟩:=hw _ _ hi ht;have:=sp1_le (w:=wf AC.length) (l:=tk AC.length);rw [ht,a1z,a1E rfl,h1,bsm,aGa h2 (by decide) h3 h4 h0 (by omega),bsm,bsm,aQ (by omega),bsm,bE AC e,ih (AC++[e]) k (acc+(sp1 (wf AC.length) (tk AC.length):Int)) (by rw [he];simp) (by omega) (by simp;omega) (by omega) (by omega)];congr 1;omega
  ·rw [Bool.not_eq_true]at ht;rw [ht,a1y,a1D (by decide),bsm,aQ (by omega),bsm,bE AC e,ih (AC++[e]) k acc (by rw [he];simp) (by omega) (by simp;omega) h0 (by omega)];congr 1;omega
theorem open_S {f:AH} (hm:SmF f) {s:FS} (ha:fU false f=some s):qJ F f=some (cJ f s,0):=by
 rw [qJ,show(⟨f.AF,f.AI,f.AB,f.AD,f.AG⟩:AH)=f from rfl,aAS hm,ha,bsm]
 rfl
theorem spare_S {f:AH} (hm:SmF f) {s:FS} (ha:fU false f=some s) {vs:VS} {rk:Int->Nat} (C:Cx (cJ f s) vs rk) (hn:f.AB.length<=60) (ht:f.AI.length<=1000000) (hd:(cI (cJ f s) f.AG).length<=1000000)
 {tk:Int->List Int} (hw:∀ i y,idx f.AB i=some y->fN y.Op=true->idx s.AU i=some (tk i)/\(dA (cJ f s) i).length<=1000000/\(tk i).length<=1000000) (hnl:(cJ f s).AB.length=f.AB.length):
 sU F f=some ((sp1 (cI (cJ f s) f.AG) f.AI:Int)+spN (dA (cJ f s)) tk f.AB 0,0):=by
 obtain⟨g,e1,ha1,hm1⟩:=asked_p C
 have hs:=sp1_le (w:=cI (cJ f s) f.AG) (l:=f.AI)
 have e2:rH F (-1) f.AI g 0=some (0+(sp1 (cI (cJ f s) f.AG) f.AI:Int)):=aGa hm1 (by decide) hd ht (by omega) (by omega)
 have e3:=aIv (f:=f) (v:=cvP f s) (g:=g) (e0:=0) (wf:=dA (cJ f s)) (tk:=tk) (fun i y hi ht=>by
  obtain⟨h1,h2,h3⟩:=hw i y hi ht;have:=eY hi;exact⟨h1,ha1 i this.1 (by rw [hnl];exact this.2),h2,h3⟩) f.AB [] F (0+(sp1 (cI (cJ f s) f.AG) f.AI:Int)) rfl (by show _<1000000000;omega) (by simp;omega) (by omega) (by omega)
 simp only [a0J,a0m,Int.zero_add]at e3
 rw [Int.zero_add]at e2
 rw [sU,show(⟨f.AF,f.AI,f.AB,f.AD,f.AG⟩:AH)=f from rfl,aAS hm,ha,bsm]
 dsimp only
 rw [Option.isNone_some,a1y,bsm,show(cvP f s).AO=cJ f s from rfl,e1,bsm,a1D (by simp),e2,bsm,e3,bsm]
theorem aLE (AE:List ByteArray):∀ (AC:List ByteArray) (k:Nat),AE.length<k->AC.length+AE.length<=900000000->rK (AC++AE) (AC++AE) k AC.length=some (.inl ()):=by
 induction AE with
 | nil=>
  intro AC k hk _;obtain _ | k:=k
  ·omega
  rw [rK,a1D (by simp)]
 | cons e AE ih=>
  intro AC k hk hB;obtain _ | k:=k
  ·omega
  simp only [a0G]at hk hB;rw [rK,a1E (bJ _ _ _),bP,bsm,bsm,a1D (by simp),aQ (by omega),bsm,bR,bE];exact ih (AC++[e]) k (by omega) (by simp;omega)
theorem aGv {l:List ByteArray} (h:l.length<=12):xQ F l l=some true:=by
 have g:=aLE l [] F (by show _<1000000000;omega) (by simp;omega)
 simp only [a0X,a0J,a0m]at g
 rw [xQ,a1D (by simp),g,bsm]
theorem sxp_loop {rec:AV->AV->Option Bool} {op n:Int} (AE:List AV):∀ (AC:List AV) (k:Nat),AE.length<k->AC.length+AE.length<=900000000->(∀ e∈AE,rec e e=some true)->qG rec ⟨op,n,AC++AE⟩ ⟨op,n,AC++AE⟩ k AC.length=some (.inl ()):=by
 induction AE with
 | nil=>
  intro AC k hk _ _;obtain _ | k:=k
  ·omega
  rw [qG,a1D (by simp)]
 | cons e AE ih=>
  intro AC k hk hB hr;obtain _ | k:=k
  ·omega
  simp only [a0G]at hk hB;rw [qG,a1E (bJ _ _ _),bP,bsm,bsm,hr e (.head _),bsm,a1z,aQ (by omega),bsm,bR,bE];exact ih (AC++[e]) k (by omega) (by simp;omega) (fun x hx=>hr x (.tail _ hx))
theorem sxp (AA:Nat):∀ (e:AV),nE e<AA->nE e<=2000000->mY AA e e=some true:=by
 induction AA with
 | zero=>intro e h;omega
 | succ AA ih=>
  intro ⟨op,n,ks⟩ hf hB
  simp only [nE]at hf hB;have hlen:=nD ks;have e1:=sxp_loop (rec:=mY AA) (op:=op) (n:=n) ks [] AA (by omega) (by simp;omega) (fun e he=>ih e (by have:=gT he;omega) (by have:=gT he;omega))
  simp only [a0X,a0J,a0m]at e1;rw [mY,a1D (by simp),a1D (by simp),a1D (by simp),e1,bsm]
theorem aJs {op n:Int} {ks:List Int} (AE:List AV):∀ (AC:List AV) (k:Nat),AE.length<k->AC.length+AE.length<=900000000->(∀ e∈AE,nE e<=60)->qX F ⟨op,n,AC++AE,ks⟩ ⟨op,n,AC++AE,ks⟩ k AC.length=some (.inl ()):=by
 induction AE with
 | nil=>
  intro AC k hk _ _;obtain _ | k:=k
  ·omega
  rw [qX,a1D (by simp)]
 | cons e AE ih=>
  intro AC k hk hB hr;obtain _ | k:=k
  ·omega
  simp only [a0G]at hk hB;have:=hr e (.head _);rw [qX,a1E (bJ _ _ _),bP,bsm,bsm,sxp F e (by show _<1000000000;omega) (by omega),bsm,a1z,aQ (by omega),bsm,bR,bE];exact ih (AC++[e]) k (by omega) (by simp;omega) (fun x hx=>hr x (.tail _ hx))
theorem snode {x:AZ} (h1:x.AX.length<=3) (h2:x.AM.length<=2) (h3:∀ e∈x.AX,nE e<=60):wX F x x=some true:=by
 obtain⟨op,n,as_,ks⟩:=x
 dsimp only at h1 h2 h3
 have e1:=aJs (op:=op) (n:=n) (ks:=ks) as_ [] F (by show _<1000000000;omega) (by simp;omega) h3
 simp only [a0X,a0J,a0m]at e1
 rw [wX,a1D (by simp),a1D (by simp),a1D (by simp)]
 dsimp only
 rw [aHS (by show _<1000000000;omega) (by omega),bsm,a1z,e1,bsm]
theorem sprog1 {p:AJ} (AE:List AZ):∀ (AC:List AZ) (k:Nat),p.AB=AC++AE->AE.length<k->AC.length+AE.length<=900000000->(∀ x∈AE,wX F x x=some true)->tO F p p k AC.length=some (.inl ()):=by
 induction AE with
 | nil=>
  intro AC k he hk _ _;obtain _ | k:=k
  ·omega
  rw [tO,he,a1D (by simp)]
 | cons e AE ih=>
  intro AC k he hk hB hr;obtain _ | k:=k
  ·omega
  simp only [a0G]at hk hB;rw [tO,he,a1E (bJ _ _ _),bP,bsm,bsm,hr e (.head _),bsm,a1z,aQ (by omega),bsm,bE AC e];exact ih (AC++[e]) k (by rw [he];simp) (by omega) (by simp;omega) (fun x hx=>hr x (.tail _ hx))
theorem sprog2 {p:AJ} (AE:List AN):∀ (AC:List AN) (k:Nat),p.AD=AC++AE->AE.length<k->AC.length+AE.length<=900000000->(∀ d∈AE,okD d=true)->qW F p p k AC.length=some (.inl ()):=by
 induction AE with
 | nil=>
  intro AC k he hk _ _;obtain _ | k:=k
  ·omega
  rw [qW,he,a1D (by simp)]
 | cons e AE ih=>
  intro AC k he hk hB hr;obtain _ | k:=k
  ·omega
  simp only [a0G]at hk hB;rw [qW,he,a1E (bJ _ _ _),bP,bsm,bsm,sdef (by decide) (hr e (.head _)),bsm,a1z,aQ (by omega),bsm,bE AC e];exact ih (AC++[e]) k (by rw [he];simp) (by omega) (by simp;omega) (fun x hx=>hr x (.tail _ hx))
variable {p:AJ} {vs:VS} {rk:Int->Nat}
theorem Cx.self (C:Cx p vs rk):tS F p p=some true:=by
 have h60:=C.fm.n60
 have h12:=C.fm.d12
 have e1:=sprog1 (p:=p) p.AB [] F rfl (by show _<1000000000;omega) (by simp;omega) (fun x hx=>by
  obtain⟨i,hi⟩:=a0S.1 hx;have hi:=nZ hi;have hl:=eY hi;obtain⟨_,x',z,G,_⟩:=C.fm.good i hl.1 hl.2;have e:=G.node;rw [hi]at e;cases e
  exact snode G.ok.la G.ok.lk G.ok.exps)
 have e2:=sprog2 (p:=p) p.AD [] F rfl (by show _<1000000000;omega) (by simp;omega) C.fm.oks
 simp only [a0J,a0m]at e1 e2
 rw [tS,aGv C.fm.f12,bsm,a0k,a1y,a1D (by simp),a1D (by simp),a1D (by simp),e1,bsm]
 dsimp only
 rw [e2,bsm]
open Go.SX Go.SW Go.Dt
structure jT (s s':FS):Prop where
 AP:∀ i,idx s.AP i=some true->idx s'.AP i=some true
 nd:∀ i,idx s.AP i=some true->idx s'.nd i=idx s.nd i
 AY:∀ i,idx s.AP i=some true->idx s'.AY i=idx s.AY i
 AU:∀ i,idx s.AP i=some true->idx s'.AU i=idx s.AU i
theorem jT.refl {s:FS}:jT s s:=⟨fun _ h=>h,fun _ _=>rfl,fun _ _=>rfl,fun _ _=>rfl⟩
theorem jT.trans {a b c:FS} (h:jT a b) (k:jT b c):jT a c:=
 ⟨(by grind [AP]),fun i hi=>(k.nd i (h.AP i hi)).trans (h.nd i hi),fun i hi=>(k.AY i (h.AP i hi)).trans (h.AY i hi),fun i hi=>(k.AU i (h.AP i hi)).trans (h.AU i hi)⟩
theorem wM {g:FS->Int->List Int->Int->Option FS} (H:∀ s n l z s',g s n l z=some s'->jT s s'):∀ (ts:List (Option (Int × List Int × Int))) (s s':FS),bX g s ts=some s'->jT s s'
 | [],s,s',h=>by cases h;exact .refl
 | none :: ts,s,s',h=>by cases h
 | some t :: ts,s,s',h=>by
  obtain⟨s1,e1,e2⟩:=bind_some h;exact(H _ _ _ _ _ e1).trans (wM H ts s1 s' e2)
theorem aHJ {f:AH} {g:FS->Int->List Int->Int->Option FS} (H:∀ s n l z s',g s n l z=some s'->jT s s') {s s':FS} {y:Ao} {l tk:List Int} {z:Int} (h:eS false f g s y l tk z=some s'):jT s s':=by
 unfold eS at h
 split at h
 ·obtain⟨d,_,h⟩:=bind_some h;rw [a1E (by intro h;cases h)]at h;obtain⟨s1,e1,h⟩:=bind_some h;obtain⟨s2,e2,h⟩:=bind_some h;exact((wM H _ _ _ e1).trans (wM H _ _ _ e2)).trans (wM H _ _ _ h)
 ·exact wM H _ _ _ h
theorem aEl {f:AH} {k:Nat} {a a':FS} {n:Int} {l:List Int} {z:Int} (h:aT false f (k+1) a n l z=some a'):
 ∃ y x,idx f.AB n=some y/\idx a.AP n=some false/\iQ false y l/\opN y l (pick l y.AI)=some x/\eS false f (aT false f k) (a.put n l (pick l y.AI) x) y l (pick l y.AI) z=some a':=by
 rw [aT]at h
 split at h
 ·rename_i h1;obtain⟨y,ey,h⟩:=bind_some h
  simp_all [bind_some]
 ·cases h
theorem aHk {s:FS} {n:Int} {l t:List Int} {x:AZ} (h:idx s.AP n=some false):jT s (s.put n l t x):=by
 have h0:=eY h
 have ne:∀ i,idx s.AP i=some true->i≠n:=by grind
 exact⟨(by grind [FS.put,nQ]),fun i hi=>nQ h0.1 (ne i hi),fun i hi=>nQ h0.1 (ne i hi),fun i hi=>nQ h0.1 (ne i hi)⟩
theorem aBE {f:AH}:∀ (k:Nat) (s:FS) (n:Int) (l:List Int) (z:Int) (s':FS),aT false f k s n l z=some s'->jT s s'
 | 0,_,_,_,_,_,h=>by cases h
 | k+1,s,n,l,z,s',h=>by
  obtain⟨y,x,_,hs,_,_,h⟩:=aEl h;exact(aHk hs).trans (aHJ (aBE k) h)
theorem aCh {b:Int}:∀ {l:List Int} {q:Option Int},dV b q l=true->Srt l/\(∀ a,q=some a->∀ i∈l,a<i)
 | [],q,_=>by simp_all
 | i :: l,q,h=>by
  rw [aKD,a0g,a0g]at h;obtain⟨⟨_,h2⟩,h3⟩:=h;obtain⟨k1,k2⟩:=aCh h3
  grind [_root_.List.pairwise_cons]
theorem srt_pick {l t:List Int} (hl:Srt l) (ht:Srt t) (hb:∀ i∈t,0<=i/\i<(l.length:Int)):Srt (pick l t):=by
 unfold pick
 rw [Srt,List.pairwise_map]
 refine ht.imp_of_mem fun {a b} ha hb' hab=>?_
 obtain⟨x,hx⟩:=eV (xs:=l) (hb a ha).1 (hb a ha).2
 obtain⟨y,hy⟩:=eV (xs:=l) (hb b hb').1 (hb b hb').2
 rw [hx,hy]
 obtain⟨h1,e1⟩:=a0z.1 (dN hx)
 obtain⟨h2,e2⟩:=a0z.1 (dN hy)
 grind [_root_.List.pairwise_iff_getElem]
theorem pick_mem {l t:List Int} (hb:∀ i∈t,0<=i/\i<(l.length:Int)):∀ a∈pick l t,a∈l:=by
 intro a ha
 obtain⟨i,hi,rfl⟩:=a0T.1 ha
 grind [idx]
variable {p:AJ} {vs:VS} {rk:Int->Nat}
structure At (p:AJ) (f:AH) (T:FS) (n:Int) (list:List Int) (x:AZ) (y:Ao):Prop where
 px:idx p.AB n=some x
 fy:idx f.AB n=some y
 tl:idx T.AY n=some list
 tt:idx T.AU n=some (pick list y.AI)
 op:y.Op=x.Op
 no:fN x.Op=true\/y.AI=[]
 tb:∀ i∈y.AI,0<=i/\i<(list.length:Int)
 tn:y.AI.length<=list.length
 srt:Srt (pick list y.AI)
 want:fN x.Op=true->∀ i∈dA p n,i∈pick list y.AI
def Bw (p:AJ) (f:AH) (T:FS):Nat->Int->List Int->Int->Prop
 | 0,_,_,_=>True
 | k+1,n,list,z=>∃ x y,At p f T n list x y/\Lo p list n z/\∀ c∈cs3 p x list z (pick list y.AI),Bw p f T k c.1 c.2.1 c.2.2
structure Ov (p:AJ) (f:AH) (k:Nat) (s s':VS) (c:C3) (a':FS):Prop where
 AP:a'.AP=s'.AR
 lo:Lo p c.2.1 c.1 c.2.2
 bw:∀ T:FS,(∀ i,NewI s s' i->idx T.AY i=idx a'.AY i/\idx T.AU i=idx a'.AU i)->Bw p f T k c.1 c.2.1 c.2.2
def NewF (a a':FS) (i:Int):Prop:=idx a.AP i≠some true/\idx a'.AP i=some true
theorem aFc {f:AH} {k:Nat} (H:∀ (s:VS) (c:C3) (s':VS) (x:AZ) (a a':FS),vis p k s c.1 c.2.2=some s'->Nd p vs rk c.1 x c.2.2->aT false f k a c.1 c.2.1 c.2.2=some a'->WF f a->a.AP=s.AR->(∀ i,NewF a a' i->idx a'.nd i=idx p.AB i)->Srt c.2.1->(∀ i∈c.2.1,0<=i/\i<c.2.2)->Ov p f k s s' c a'):
 ∀ (cs:List C3) (s s':VS) (a a':FS),(∀ c∈cs,(∃ x,Nd p vs rk c.1 x c.2.2)/\Srt c.2.1/\∀ i∈c.2.1,0<=i/\i<c.2.2)->cS (vis p k) s (cs.map c2)=some s'->bX (aT false f k) a (cs.map some)=some a'->WF f a->a.AP=s.AR->(∀ i,NewF a a' i->idx a'.nd i=idx p.AB i) ->
  a'.AP=s'.AR/\∀ c∈cs,Lo p c.2.1 c.1 c.2.2/\∀ T:FS,(∀ i,NewI s s' i->idx T.AY i=idx a'.AY i/\idx T.AU i=idx a'.AU i)->Bw p f T k c.1 c.2.1 c.2.2
 | [],s,s',a,a',_,h,h',_,hs,_=>by cases h;cases h';exact⟨hs,fun c hc=>by cases hc⟩
 | c :: cs,s,s',a,a',hc,h,h',hw,hs,hn=>by
  obtain⟨s1,e1,e2⟩:=bind_some h;obtain⟨a1,f1,f2⟩:=bind_some h';obtain⟨⟨x,K⟩,q1,q2⟩:=hc c (.head _);have m1:=aBJ k _ _ _ _ e1;have m2:=aB9 (aBJ k) _ _ _ e2;have kp1:=aBE k _ _ _ _ _ f1;have kp:=wM (aBE (f:=f) k) _ _ _ f2;have o:=H s c s1 x a a1 e1 K f1 hw hs (fun i hi=>by rw [<- kp.nd i hi.2];exact hn i ⟨hi.1,kp.AP i hi.2⟩) q1 q2
  obtain⟨o1,o2⟩:=aFc H cs s1 s' a1 a' (fun c h=>hc c (.tail _ h)) e2 f2 (vX f1 hw) o.AP (fun i hi=>hn i ⟨fun h=>hi.1 (kp1.AP i h),hi.2⟩)
  refine⟨o1,fun d hd=>?_⟩
  rcases a0R.1 hd with rfl | hd
  ·refine⟨o.lo,fun T hT=>o.bw T fun i hi=>?_⟩
   have ht:idx a1.AP i=some true:=by rw [o.AP];exact hi.2
   rw [<- kp.AY i ht,<- kp.AU i ht];exact hT i ⟨hi.1,m2 i hi.2⟩
  ·exact⟨(o2 d hd).1,fun T hT=>(o2 d hd).2 T fun i hi=>hT i ⟨fun h=>hi.1 (m1 i h),hi.2⟩⟩
theorem Cx.srt3 (C:Cx p vs rk) {n:Int} {x:AZ} {z:Int} (K:Nd p vs rk n x z) {list tk:List Int} (h1:Srt list) (h2:∀ i∈list,0<=i/\i<z) (h3:Srt tk) (h4:∀ i∈tk,0<=i/\i<z) {c:C3} (hc:c∈cs3 p x list z tk):(∃ y,Nd p vs rk c.1 y c.2.2)/\Srt c.2.1/\∀ i∈c.2.1,0<=i/\i<c.2.2:=by
 have h0:=K.g.pos
 have hcd:c2 c∈gV p x z:=by rw [<- aDv (list:=list) (w:=tk)];exact a0U hc
 obtain⟨_,y,K'⟩:=C.child K.g hcd
 refine⟨⟨y,K'⟩,?_⟩
 clear K' hcd
 unfold cs3 fD fK at hc
 by_cases o4:x.Op=4
 ·obtain⟨d,ed,okd⟩:=K.g.ok.def_ o4;rw [a1E o4,a1E o4,ed]at hc;have ho:0<=own d:=by unfold own;omega
  have e1:=aDr (k:=(own d).toNat) h0 h3 h4;have e3:=aDr (k:=(own d).toNat) h0 h1 h2;simp only [a0O,fR,fS,a0T]at hc;rcases hc with(⟨r,hr,rfl⟩ | ⟨y',hy,rfl⟩) | ⟨k,hk,rfl⟩
  ·have hb:=tG ((gO okd).2.2.2.2 r hr).2;have e2:=aDr (k:=(brs d.AT r.Ad).toNat) (z:=z+own d) (by omega) (l:=jY tk z d) e1.1 (fun i hi=>by have:=e1.2 i hi;omega)
   exact⟨e2.1,fun i hi=>by have:=e2.2 i hi;dsimp only;omega⟩
  ·exact⟨e1.1,fun i hi=>by have:=e1.2 i hi;dsimp only;omega⟩
  ·exact⟨e3.1,fun i hi=>by have:=e3.2 i hi;dsimp only;omega⟩
 ·rw [a1D o4,a1D o4,a0X]at hc;obtain⟨k,hk,rfl⟩:=a0T.1 hc;dsimp only
  split
  ·exact⟨h3,h4⟩
  ·exact⟨h1,h2⟩
theorem Cx.up (C:Cx p vs rk) {n:Int} {x:AZ} {z:Int} (K:Nd p vs rk n x z) {list tk:List Int} (ht:∀ i∈tk,i∈list) (hn:∀ i∈nmN x,i∈list) (hx:x.Op=6\/x.Op=8->x.N∈tk) (ho:fN x.Op=true\/tk=[]) (h7:x.Op=7->x.AM=[]) (ha:x.Op=6\/x.Op=7\/x.Op=8->x.AX=[]) (hc:∀ c∈cs3 p x list z tk,Lo p c.2.1 c.1 c.2.2):
 (∀ i∈cI p n,i∈list)/\(fN x.Op=true->∀ i∈dA p n,i∈tk):=by
 have nd:∀ i∈cI p n,0<=i/\i<z/\(i∈nmN x\/∃ m∈kd p x,Occ p m i):=fun i hi=>by
  have q:=((C.isNeed K).2 i).1 hi;exact⟨q.1,q.2.1,(aBS K.g.node).1 q.2.2⟩
 have kn:∀ m w,(m,w)∈gV p x z->∀ i,0<=i->i<w->Occ p m i->i∈cI p m:=fun m w hm i h1 h2 h3=>by
  obtain⟨_,y,K'⟩:=C.child K.g hm;exact((C.isNeed K').2 i).2 ⟨h1,h2,h3⟩
 unfold cs3 fD fK at hc
 by_cases o4:x.Op=4
 ·obtain⟨d,ed,okd,_,iw⟩:=yP C K.g K.z6 o4;have ho':0<=own d:=by unfold own;omega
  rw [a1E o4,a1E o4,ed]at hc;have hD:∀ m∈Go.Proofs.YtgidgoahhepmlaaGreat.dks d,∀ i∈cI p m,0<=i->i<z->i∈tk:=by
   intro m hm i hi h1 h2;simp only [Go.Proofs.YtgidgoahhepmlaaGreat.dks,a0O,a0T]at hm;rcases hm with⟨r,hr,rfl⟩ | ⟨y,hy,rfl⟩
   ·have hb:=tG ((gO okd).2.2.2.2 r hr).2;have L:=hc (r.AW,jY tk z d++upto (z+own d) (brs d.AT r.Ad).toNat,z+own d+brs d.AT r.Ad) (a0P _ (a0P _ (a0T.2 ⟨r,hr,rfl⟩)));have q:=L.has i hi;dsimp only [jY]at q
    grind [yA]
   ·have L:=hc (y.AW,jY tk z d,z+own d) (a0P _ (a0Q _ (a0T.2 ⟨y,hy,rfl⟩)));have q:=L.has i hi;dsimp only [jY]at q
    grind [yA]
  refine⟨fun i hi=>?_,fun _ i hi=>?_⟩
  ·obtain⟨h1,h2,h3 | ⟨m,hm,h3⟩⟩:=nd i hi
   ·exact hn i h3
   ·obtain⟨w,hw⟩:=qR (z:=z) hm;unfold kd at hm;rw [a1E o4,ed]at hm;have hzw:z<=w:=by
     unfold gV at hw;rw [a1E o4,ed]at hw;simp only [chD,a0O,a0T,Prod.mk.injEq]at hw;rcases hw with(⟨r,hr,_,rfl⟩ | ⟨y,hy,_,rfl⟩) | ⟨k,hk,_,rfl⟩
     ·have hb:=tG ((gO okd).2.2.2.2 r hr).2;omega
     ·omega
     ·omega
    have h4:=kn m w hw i h1 (by omega) h3
    rcases a0O.1 hm with hm | hm
    ·exact ht i (hD m hm i h4 h1 h2)
    ·have L:=hc (m,list++upto z (own d).toNat,z+own d) (a0Q _ (a0T.2 ⟨m,hm,rfl⟩));have q:=L.has i h4
     grind [upto]
  ·obtain⟨h1,h2,m,hm,h3⟩:=(iw.2 i).1 hi;exact hD m hm i h3 h1 h2
 ·rw [a1D o4,a1D o4,a0X]at hc;have ew:=(yI C K.g o4).2;have hkid:∀ m∈x.AM,∀ i,0<=i->i<z->Occ p m i->i∈(if x.Op=6\/x.Op=8 then tk else list):=fun m hm i h1 h2 h3=>by
   have L:=hc (m,(if x.Op=6\/x.Op=8 then tk else list),z) (a0T.2 ⟨m,hm,rfl⟩)
   exact L.has i (by grind [gV])
  have hkd:kd p x=x.AM:=by grind [kd]
  rw [hkd]at nd;by_cases o6:x.Op=6\/x.Op=8
  ·rw [a1E o6]at hkid;have key:∀ i∈cI p n,i∈tk:=fun i hi=>by
    obtain⟨h1,h2,h3 | ⟨m,hm,h3⟩⟩:=nd i hi
    ·unfold nmN nmO at h3
     grind [nmL]
    grind
   grind
  ·rw [a1D o6]at hkid;refine⟨fun i hi=>?_,fun htk i hi=>?_⟩
   ·grind
   ·have o7:x.Op=7:=by have:=of_decide_eq_true htk;omega
    rw [ew]at hi;obtain⟨h1,h2,h3 | ⟨m,hm,h3⟩⟩:=nd i hi
    ·unfold nmN nmO at h3
     grind [nmL]
    grind
theorem op_names {l:List Int}:(∀ e e',opE l e=some e'->∀ i∈nmE e',i∈l)/\∀ ks ks',opL l ks=some ks'->∀ i∈nmL ks',i∈l:=⟨go,goL⟩
where
 go:∀ e e',opE l e=some e'->∀ i∈nmE e',i∈l
  | ⟨op,n,ks⟩,e',h,i,hi=>by
   obtain⟨m,ks',rfl,h1,h2⟩:=aAp h;rw [nmE]at hi;rcases a0O.1 hi with hi | hi
   ·by_cases o:op=2
    ·rw [a1E o]at hi h1;rw [a0W]at hi;rw [hi];exact eG h1
    ·rw [a1D o]at hi;cases hi
   ·exact goL ks ks' h2 i hi
 goL:∀ ks ks',opL l ks=some ks'->∀ i∈nmL ks',i∈l
  | [],ks',h,i,hi=>by rw [opL]at h;cases h;rw [nmL]at hi;cases hi
  | k :: ks,ks',h,i,hi=>by
   obtain⟨k',ks'',rfl,h1,h2⟩:=nN h;rw [nmL]at hi;rcases a0O.1 hi with hi | hi
   ·exact go k k' h1 i hi
   ·exact goL ks ks'' h2 i hi
theorem aLi {s:VS} {n z:Int} {x:AZ} {i:Int} (hn:idx s.AR n=some false) (h:idx s.AR i=some true):idx (mark s n z x).AR i=some true:=by
 grind [aAB]
theorem okN_678 {p:AJ} {s:VS} {x:AZ} {z:Int} (h:okN p s x z) (ho:x.Op=6\/x.Op=7\/x.Op=8):x.AX=[]:=by
 obtain⟨⟨k,c,hs,_,hm⟩,_⟩:=h
 rcases ho with ho | ho | ho <;> rw [ho]at hs <;> simp [shp]at hs <;> obtain⟨rfl,rfl⟩:=hs <;> exact a0s hm.2
theorem run_f (C:Cx p vs rk) {f:AH} (hd:f.AD=p.AD):∀ (k:Nat) (s:VS) (c:C3) (s':VS) (x:AZ) (a a':FS),vis p k s c.1 c.2.2=some s'->Nd p vs rk c.1 x c.2.2->aT false f k a c.1 c.2.1 c.2.2=some a'->WF f a->a.AP=s.AR->(∀ i,NewF a a' i->idx a'.nd i=idx p.AB i)->Srt c.2.1->(∀ i∈c.2.1,0<=i/\i<c.2.2)->Ov p f k s s' c a'
 | 0,s,c,s',x,a,a',h,_,_,_,_,_,_,_=>by simp [vis]at h
 | k+1,s,⟨n,list,z⟩,s',x,a,a',hv,K,hf,hw,hs,hn,q1,q2=>by
  dsimp only at hv K hf q1 q2
  obtain⟨x',ex,hm,hok,hdef,hv⟩:=aA2 hv;have e:=K.g.node;rw [ex]at e;cases e
  obtain⟨y,x2,ey,hsn,hnode,hop,hin⟩:=aEl hf;have hnl:=eY hsn;have kp:=aHJ (aBE k) hin;have ps:idx (a.put n list (pick list y.AI) x2).AP n=some true:=qL hnl.1 hnl.2;have hnew:NewF a a' n:=⟨by rw [hsn];simp,kp.AP n ps⟩
  have hlen:n<(f.AB.length:Int):=(eY ey).2;have e2:=hn n hnew;rw [kp.nd n ps,show idx (a.put n list (pick list y.AI) x2).nd n=some x2 from qL hnl.1 (by rw [hw.nd];exact hlen),ex]at e2;cases e2;have hop':=hop;unfold opN at hop';obtain⟨m,em,hop'⟩:=bind_some hop';obtain⟨ag,ea,hop'⟩:=bind_some hop';have hx:(⟨y.Op,m,ag,y.AM⟩:AZ)=x:=a1u hop';have h1:y.Op=x.Op:=by rw [<- hx]
  have h2:m=x.N:=by rw [<- hx]
  have h3:ag=x.AX:=by rw [<- hx]
  have h4:y.AM=x.AM:=by rw [<- hx]
  subst h2;subst h3
  have tb:=zT hnode.1.2;have ts:=(aCh hnode.1.2).1;have tn:y.AI.length<=list.length:=by have:=xB (b:=list.length) (by omega) hnode.1.2;omega
  have t1:=srt_pick q1 ts tb;have t2:=pick_mem tb;have t3:∀ i∈pick list y.AI,0<=i/\i<z:=fun i hi=>q2 i (t2 i hi)
  unfold opI at em;rw [h1]at em;have hN:x.Op=4->y.N=x.N:=fun o=>by
   rw [a1D (by omega),a1D (by omega)]at em;exact a1u em
  rw [inner_eq (p:=p) (x:=x) hd h1 hN h4 hdef]at hin;rw [<- aDv (list:=list) (w:=pick list y.AI)]at hv;obtain⟨o1,o2⟩:=aFc (run_f C hd k) (cs3 p x list z (pick list y.AI)) _ s' _ a' (fun c hc=>C.srt3 K q1 q2 t1 t3 hc) hv hin hw.put (by simp only [FS.put,mark,hs]) (fun i hi=>hn i ⟨fun h=>hi.1 ((aHk hsn).AP i h),hi.2⟩)
  have hno:fN x.Op=true\/y.AI=[]:=by rw [<- h1];exact hnode.1.1
  obtain⟨u1,u2⟩:=C.up K t2 (fun i hi=>by
   unfold nmN nmO at hi;rcases a0O.1 hi with hi | hi
   ·by_cases o2:x.Op=2
    ·rw [a1E (.inl o2),a0W]at hi;rw [a1E o2]at em;rw [hi];exact eG em
    ·by_cases o6:x.Op=6\/x.Op=8
     ·rw [a1E (.inr o6),a0W]at hi;rw [a1D o2,a1E o6]at em;rw [hi];exact t2 _ (eG em)
     ·rw [a1D (by omega)]at hi;cases hi
   ·exact op_names.2 _ _ ea i hi) (fun o6=>by
   rw [a1D (by omega),a1E o6]at em;exact eG em) (by
   rcases hno with h | h
   ·exact .inl h
   ·exact .inr (by rw [h];rfl)) K.g.ok.stop (okN_678 hok) (fun c hc=>(o2 c hc).1)
  refine⟨o1,⟨q1,q2,u1⟩,fun T hT=>?_⟩
  have mm:=aB9 (aBJ k) _ _ _ hv;have hnI:NewI s s' n:=⟨by rw [hm];simp,mm n (by rw [aAB hm,a1E rfl])⟩
  have hTn:=hT n hnI;rw [kp.AY n ps,kp.AU n ps]at hTn;rw [Bw];refine⟨x,y,⟨ex,ey,?_,?_,h1,hno,tb,tn,t1,u2⟩,⟨q1,q2,u1⟩,fun c hc=>(o2 c hc).2 T fun i hi=>hT i ⟨fun h=>hi.1 (aLi hm h),hi.2⟩⟩
  ·rw [hTn.1];exact qL hnl.1 (by rw [hw.AY];exact hlen)
  ·rw [hTn.2];exact qL hnl.1 (by rw [hw.AU];exact hlen)
theorem ans_bw {f:AH} {t:FS} (ha:fU false f=some t) (C:Cx (cJ f t) vs rk):vis (cJ f t) f.AB.length (start (cJ f t)) f.AG f.AF.length=some vs/\(∀ i,0<=i->i<(f.AB.length:Int)->NewI (start (cJ f t)) vs i)/\Bw (cJ f t) f t f.AB.length f.AG f.AI f.AF.length/\t.nd.length=f.AB.length/\f.AI.length<=f.AF.length:=by
 have hc:=C.chk_
 unfold dT at hc
 split at hc
 ·obtain⟨s1,hv,hc⟩:=bind_some hc;split at hc
  ·rename_i hall;cases hc;unfold fU at ha;obtain⟨t0,h1,h2⟩:=bind_some ha;split at h2
   ·cases h2;obtain⟨_,hl⟩:=zO h1;unfold iH at h1;split at h1
    ·rename_i hr;obtain⟨x,K,_,_⟩:=C.main;have hv:vis (cJ f t) f.AB.length (start (cJ f t)) f.AG f.AF.length=some vs:=by rw [<- hl];exact hv
     have hs0:(gQ f).AP=(start (cJ f t)).AR:=by
      show List.replicate f.AB.length false=List.replicate t.nd.length false
      rw [hl]
     have o:=run_f C (f:=f) rfl f.AB.length (start (cJ f t)) (f.AG,f.AI,(f.AF.length:Int)) vs x (gQ f) t hv K h1 aBg hs0 (fun i hi=>rfl) (aCh hr.2).1 (zT hr.2)
     refine⟨hv,fun i h0 hi=>⟨fun h=>?_,?_⟩,o.bw t (fun i hi=>⟨rfl,rfl⟩),hl,by have:=xB (b:=f.AF.length) (by omega) hr.2;omega⟩
     ·have:=eG h;simp [start]at this
     ·obtain⟨b,hb⟩:=gA (xs:=vs.AR) h0 (by rw [<- o.AP,(vX h1 aBg).AP];exact hi)
      rw [hb,show b=true from a0o.1 hall.1 b (eG hb)]
    ·cases h1
   ·cases h2
  ·cases hc
 ·cases hc
open Go.SX Go.SW Go.Dt
theorem aFj {x:Int}:∀ (l:List Int) (k:Int),x ∉ l->fndA x l k=-1
 | [],_,_=>rfl
 | y :: l,k,h=>by
  rw [fndA,a1D (fun e=>h (by rw [e];exact .head _)),aFj l (k+1) (fun q=>h (.tail _ q))]
theorem fnd_neg {l:List Int} {x:Int}:fnd l x<0 ↔ x ∉ l:=by
 constructor
 ·intro h q;obtain⟨i,h1,_⟩:=fnd_mem q;omega
 ·intro h;rw [fnd,aFj l 0 h];decide
theorem aFL {w l:List Int} (hw:Srt w) (hl:Srt l) (h:∀ i∈w,i∈l):(l.length:Int)=w.length+(sp1 w l:Int):=by
 have e1:=List.length_eq_countP_add_countP (fun i=>decide (fnd w i<0)) (l:=l)
 have e2:l.filter (fun a=>decide ¬ (decide (fnd w a<0))=true)=w:=aB4 (hl.filter _) hw fun i=>by
  rw [List.mem_filter,a1C,a1C,fnd_neg];exact⟨fun q=>Classical.byContradiction q.2,fun q=>⟨h i q,fun k=>k q⟩⟩
 rw [List.countP_eq_length_filter (p:=fun a=>decide ¬ (decide (fnd w a<0))=true),e2]at e1
 unfold sp1
 omega
theorem aEh {g:VS->Int->Int->Option VS} {P:Int->Prop}:∀ (l:List (Int × Int)) (s s':VS),cS g s l=some s'->(∀ c∈l,∀ s s',g s c.1 c.2=some s'->∀ i,NewI s s' i->P i)->∀ i,NewI s s' i->P i
 | [],s,s',h,_,i,hi=>by cases h;exact absurd hi.2 hi.1
 | c :: l,s,s',h,H,i,hi=>by
  obtain⟨s1,e1,e2⟩:=bind_some h;by_cases q:idx s1.AR i=some true
  ·exact H c (.head _) s s1 e1 i ⟨hi.1,q⟩
  ·exact aEh l s1 s' e2 (fun c h=>H c (.tail _ h)) i ⟨q,hi.2⟩
theorem aJj {f:AH} (hm:SmF f) (ha:fU false f=none):qJ F f=some (⟨[],[],[],0⟩,2):=by
 rw [qJ,show(⟨f.AF,f.AI,f.AB,f.AD,f.AG⟩:AH)=f from rfl,aAS hm,ha,bsm]
 rfl
theorem aJt:tS F ⟨[],[],[],0⟩ ⟨[],[],[],0⟩=some true:=by
 have e1:=sprog1 (p:=⟨[],[],[],0⟩) [] [] F rfl (by decide) (by simp) (fun x h=>by cases h)
 have e2:=sprog2 (p:=⟨[],[],[],0⟩) [] [] F rfl (by decide) (by simp) (fun x h=>by cases h)
 simp only [a0J,a0m]at e1 e2
 rw [tS,aGv (by simp),bsm,a0k,a1y,a1D (by simp),a1D (by simp),a1D (by simp),e1,bsm]
 dsimp only
 rw [e2,bsm]
def tkO (t:FS) (i:Int):List Int:=(idx t.AU i).getD []
open Go.SX Go.SW Go.Dt
theorem open_r2 {f:AH} (hm:SmF f):∃ o b,uG F f=some (o,b)/\b=(fU true f).isSome/\∀ s,fU true f=some s->o.AU=s.AU/\o.p=cJ f s:=by
 have m1:=hm.nodes;have m2:=hm.free;have m3:=hm.Ae;have m4:=hm.take
 rw [uG]
 by_cases c1:60<(f.AB.length:Int)
 ·rw [a1E c1,pH (by omega)];exact⟨_,_,rfl,rfl,fun s h=>by cases h⟩
 rw [a1D c1]
 by_cases c2:12<(f.AD.length:Int)
 ·rw [a1E c2,pH (by omega)];exact⟨_,_,rfl,rfl,fun s h=>by cases h⟩
 rw [a1D c2]
 by_cases c3:12<(f.AF.length:Int)
 ·rw [a1E c3,pH (by omega)];exact⟨_,_,rfl,rfl,fun s h=>by cases h⟩
 rw [a1D c3,aFh (by show _<1000000000;omega) (by omega),bsm]
 by_cases hr:dV f.AF.length none f.AI=true
 ·have hc:(f.AB.length<=60/\f.AF.length<=12/\f.AD.length<=12)/\dV f.AF.length none f.AI=true:=⟨by omega,hr⟩
  have htl:=xB (b:=f.AF.length) (by omega) hr
  obtain⟨s',sz',b,q1,q2,q3,q4⟩:=(rvisF hm f.AB.length F (by show _<1000000000;omega)).run (gQ f) (List.replicate f.AB.length 0) f.AG f.AI f.AF.length aBg (by simp) aEO htl (by omega)
  rw [hr,a1z,pD (by omega),bsm,pD (by omega),bsm,bsm,pD (by omega),bsm,a0X,dM (by omega),bsm,pD (by omega),bsm,a0X,dM (by omega),bsm,
   show eE F (⟨(⟨f.AF,f.AI,f.AB,f.AD,f.AG⟩:AH),List.replicate f.AB.length false,List.replicate f.AB.length [],List.replicate f.AB.length 0,List.replicate f.AB.length [],(⟨f.AF,List.replicate f.AB.length (⟨0,0,[],[]⟩:AZ),[],f.AG⟩:AJ),false⟩:Ag) f.AG f.AI f.AF.length=_ from q1,bsm]
  unfold fU;rw [aAP hc];cases hq:aT true f f.AB.length (gQ f) f.AG f.AI f.AF.length with
  | none=>
   rw [hq]at q4;have q4:b=true:=q4;subst q4;exact⟨_,_,rfl,rfl,fun s h=>by cases h⟩
  | some s=>
   rw [hq]at q4;obtain⟨e1,e2⟩:=q4;subst e1;subst e2
   obtain⟨i1,i2⟩:=zO (x:=true) (f:=f) (s:=s') (by rw [aAP hc];exact hq)
   rw [show(cvR f s' sz' false).bad=false from rfl,a1y,copied_r (by show _<1000000000;omega) m3 hm.Ab,bsm,show vW F (⟨(cvR f s' sz' false).p.AF,(cvR f s' sz' false).p.AB,f.AD,(cvR f s' sz' false).p.AG⟩:AJ)=some (if (dT (cJ f s')).isSome=true then 0 else 2)from aJa (aCf hm i1 i2),bsm,bsm];by_cases hk:(dT (cJ f s')).isSome=true
   ·rw [a1E hk,a1E hk];exact⟨_,_,rfl,rfl,fun s h=>by cases h;exact⟨rfl,rfl⟩⟩
   ·rw [a1D hk,a1D hk];exact⟨_,_,rfl,rfl,fun s h=>by cases h⟩
 ·rw [Bool.eq_false_iff.2 hr,a1y,pH (fun h=>hr h.2)];exact⟨_,_,rfl,rfl,fun s h=>by cases h⟩
open Go.SX Go.SW Go.Dt
variable {p:AJ} {vs:VS} {rk:Int->Nat}
theorem bw_all (C:Cx p vs rk) {f:AH} {T:FS}:∀ (k:Nat) (s:VS) (n z:Int) (s':VS) (x:AZ) (l:List Int),vis p k s n z=some s'->Nd p vs rk n x z->Bw p f T k n l z->∀ i,NewI s s' i->∃ x y l,At p f T i l x y/\l.length<=6012
 | 0,s,n,z,s',x,l,h,_,_,_,_=>by simp [vis]at h
 | k+1,s,n,z,s',x,l,h,K,bf,i,hi=>by
  obtain⟨x',ex,hn,hok,hdef,hv⟩:=aA2 h;have e:=K.g.node;rw [ex]at e;cases e
  rw [Bw]at bf;obtain⟨x1,y,A,L,hc⟩:=bf;have e:=A.px;rw [ex]at e;cases e
  have h6:=K.z6;have hp:=K.g.pos;by_cases hin:i=n
  ·subst hin;have l1:=rD L.srt (a:=0) (b:=z) L.bnd;exact⟨x,y,l,A,by omega⟩
  ·refine aEh (P:=fun i=>∃ x y l,At p f T i l x y/\l.length<=6012) _ _ _ hv (fun q hq s s' hv'=>?_) i ⟨by rw [aAB hn,a1D hin];exact hi.1,hi.2⟩
   obtain⟨_,y',K'⟩:=C.child K.g hq;have hq':=hq;rw [<- aDv (list:=l) (w:=pick l y.AI)]at hq';obtain⟨c,m1,rfl⟩:=a0T.1 hq';exact bw_all C k s c.1 c.2.2 s' y' c.2.1 hv' K' (hc c m1)
theorem Cx.wanted (C:Cx p vs rk) {n:Int} {x:AZ} {z:Int} (K:Nd p vs rk n x z):gK F p n=some (dA p n):=by
 by_cases o4:x.Op=4
 ·obtain⟨d,_,_,h,_⟩:=yP C K.g K.z6 o4;exact h F (by decide)
 ·exact(yI C K.g o4).1 F (by decide)
theorem aIa {f:AH} {t:FS} {o:Ag} {b:Bool} (ho:o.AU=t.AU) (hp:o.p=p)
 (hA:∀ i,0<=i->i<(f.AB.length:Int)->∃ x y l,At p f t i l x y/\l.length<=6012) (hW:∀ i x,idx p.AB i=some x->Srt (dA p i)/\(dA p i).length<=6012/\gK F p i=some (dA p i)) (AE:List Ao):
 ∀ (AC:List Ao) (k:Nat) (acc:Int),f.AB=AC++AE->AE.length<k->AC.length+AE.length<=60->0<=acc->acc+10000*AE.length<=900000000->qY F f (o,b) k acc AC.length=some (acc+spN (dA p) (tkO t) AE AC.length):=by
 induction AE with
 | nil=>
  intro AC k acc he hk _ _ _;obtain _ | k:=k
  ·omega
  rw [qY,he,a1D (by simp),spN,Int.add_zero]
 | cons e AE ih=>
  intro AC k acc he hk hB h0 hA';obtain _ | k:=k
  ·omega
  simp only [a0G]at hk hB hA';have hi:idx f.AB (AC.length:Int)=some e:=by rw [he];exact bP _ _ _
  obtain⟨x,y,l,A,hl⟩:=hA AC.length (by omega) (by rw [he];exact bJ _ _ _)
  have ee:=A.fy;rw [hi]at ee;cases ee
  obtain⟨w1,w2,w3⟩:=hW _ x A.px;have ht:tkO t AC.length=pick l e.AI:=by rw [tkO,A.tt];rfl
  have tn:=A.tn;have q1:=aAU (l:=l) (a:=e.AI);rw [qY,a1E (by rw [he];exact bJ _ _ _),hi,bsm,spN];dsimp only
  by_cases tb:fN e.Op=true
  ·have cnt:=aFL w1 A.srt (A.want (by rw [<- A.op];exact tb))
   rw [ht,a1E tb,ho,hp,A.tt,w3];have o4:e.Op=4\/e.Op=6\/e.Op=7\/e.Op=8:=of_decide_eq_true tb;have key:((some (pick l e.AI)).bind fun y4=>(chk (acc+(y4.length:Int))).bind fun z2=>(some (dA p AC.length)).bind fun y5=>(chk (z2 - (y5.length:Int))).bind fun z3=>some z3)=some (acc+(sp1 (dA p AC.length) (pick l e.AI):Int)):=by
    rw [bsm,aQ (by omega),bsm,bsm,aQ (by omega),bsm];congr 1;omega
   have step:(if e.Op=4 then(some (pick l e.AI)).bind fun y4=>(chk (acc+(y4.length:Int))).bind fun z2=>(some (dA p AC.length)).bind fun y5=>(chk (z2 - (y5.length:Int))).bind fun z3=>some z3
    else if e.Op=6 then(some (pick l e.AI)).bind fun y4=>(chk (acc+(y4.length:Int))).bind fun z2=>(some (dA p AC.length)).bind fun y5=>(chk (z2 - (y5.length:Int))).bind fun z3=>some z3
    else if e.Op=7 then(some (pick l e.AI)).bind fun y4=>(chk (acc+(y4.length:Int))).bind fun z2=>(some (dA p AC.length)).bind fun y5=>(chk (z2 - (y5.length:Int))).bind fun z3=>some z3
    else if e.Op=8 then(some (pick l e.AI)).bind fun y4=>(chk (acc+(y4.length:Int))).bind fun z2=>(some (dA p AC.length)).bind fun y5=>(chk (z2 - (y5.length:Int))).bind fun z3=>some z3
    else some acc)=some (acc+(sp1 (dA p AC.length) (pick l e.AI):Int)):=by
    rw [key];rcases o4 with o | o | o | o <;> simp [o]
   rw [step,bsm,aQ (by omega),bsm,bE AC e,ih (AC++[e]) k _ (by rw [he];simp) (by omega) (by simp;omega) (by omega) (by omega)];congr 1;omega
  ·have o4:¬ (e.Op=4\/e.Op=6\/e.Op=7\/e.Op=8):=fun q=>tb (a1B q)
   rw [a1D tb,a1D (by omega),a1D (by omega),a1D (by omega),a1D (by omega),bsm,aQ (by omega),bsm,bE AC e,ih (AC++[e]) k acc (by rw [he];simp) (by omega) (by simp;omega) h0 (by omega)];congr 1;omega
open Go.SX Go.SW Go.Dt
theorem aIo {f:AH} (hm:SmF f):aAC F f=some true:=by
 have hk:aDh=some true:=rfl
 obtain⟨o,b,h1,h2,h3⟩:=open_r2 hm
 rw [aIK]at h2 h3
 unfold aAC
 rw [show(⟨f.AF,f.AI,f.AB,f.AD,f.AG⟩:AH)=f from rfl]
 cases ha:fU false f with
 | none=>
  rw [ha]at h2;have h2:b=false:=h2;subst h2;have e1:qU F f=some (⟨[],[],[],0⟩,2):=by
   rw [qU,show(⟨f.AF,f.AI,f.AB,f.AD,f.AG⟩:AH)=f from rfl,h1,bsm];rfl
  have e2:sU F f=some (0,2):=by
   rw [sU,show(⟨f.AF,f.AI,f.AB,f.AD,f.AG⟩:AH)=f from rfl,aAS hm,ha,bsm];rfl
  have e3:tW F f=some (0,2):=by
   rw [tW,show(⟨f.AF,f.AI,f.AB,f.AD,f.AG⟩:AH)=f from rfl,h1,bsm];rfl
  rw [aJj hm ha,bsm,e1,bsm,e2,bsm,e3,bsm,a1E rfl];dsimp only
  rw [aJt,bsm,a1z,a1E rfl,a1E rfl,hk,bsm,bsm]
 | some t=>
  rw [ha]at h2;have h2:b=true:=h2;subst h2;obtain⟨ho,hp⟩:=h3 t ha;have hs:∃ vs,dT (cJ f t)=some vs/\InvF f t/\t.nd.length=f.AB.length:=by
   have ha':=ha;unfold fU at ha';obtain⟨t0,g1,g2⟩:=bind_some ha';split at g2
   ·rename_i hk;cases g2;obtain⟨vs,hvs⟩:=Option.isSome_iff_exists.1 hk;have hi:=zO g1;exact⟨vs,hvs,hi.1,hi.2⟩
   ·cases g2
  obtain⟨vs,hc,i1,i2⟩:=hs;obtain⟨rk,fm⟩:=fm_of hc;have C:Cx (cJ f t) vs rk:=⟨aCf hm i1 i2,hc,fm⟩;obtain⟨hv,hall,bf,_,htl⟩:=ans_bw ha C;obtain⟨x,K,hr,N⟩:=C.main;have h12:=fm.f12;have h60:f.AB.length<=60:=by rw [<- i2];exact fm.n60
  have hnl:=N.len;have hfree:((cJ f t).AF.length:Int)=f.AF.length:=rfl;have hmain:(cJ f t).AG=f.AG:=rfl;have hneed:=N.r F (by decide)
  have hA:=bw_all C f.AB.length (start (cJ f t)) f.AG f.AF.length vs x f.AI hv K bf;have hA:∀ i,0<=i->i<(f.AB.length:Int)->∃ x y l,At (cJ f t) f t i l x y/\l.length<=6012:=fun i h0 hi=>hA i (hall i h0 hi)
  have L0:Lo (cJ f t) f.AI f.AG f.AF.length:=by
   have h0:0<f.AB.length:=by
    have:=eY K.g.node;have:((cJ f t).AB.length:Int)=f.AB.length:=by rw [show(cJ f t).AB=t.nd from rfl,i2]
    omega
   obtain⟨k,hk⟩:∃ k,f.AB.length=k+1:=⟨f.AB.length - 1,by omega⟩
   rw [hk,Bw]at bf;obtain⟨x',y,A,L,_⟩:=bf;exact L
  have hW:∀ i x,idx (cJ f t).AB i=some x->Srt (dA (cJ f t) i)/\(dA (cJ f t) i).length<=6012/\gK F (cJ f t) i=some (dA (cJ f t) i):=fun i x hi=>by
   have hil:=eY hi;obtain⟨_,x',z,G,h6⟩:=fm.good i hil.1 hil.2;have:=C.want_len ⟨G,h6⟩;exact⟨(C.isWant ⟨G,h6⟩).1,by omega,C.wanted ⟨G,h6⟩⟩
  have hsp:=spare_S hm ha C h60 (by omega) (by rw [hmain]at hnl;omega) (tk:=tkO t) (fun i y hi hty=>by
   have hil:=eY hi;obtain⟨x,y',l,A,l1⟩:=hA i hil.1 hil.2;have tn:=A.tn;have e:tkO t i=pick l y'.AI:=by rw [tkO,A.tt];rfl
   obtain⟨_,w2,_⟩:=hW i x A.px;exact⟨by rw [e];exact A.tt,by omega,by rw [e,aAU];omega⟩) i2
  have cnt:=aFL N.is.1 L0.srt L0.has;rw [hmain]at cnt hneed hnl;have hlp:=aIa (p:=cJ f t) (f:=f) (t:=t) (o:=o) (b:=true) ho hp hA hW f.AB [] F ((f.AI.length:Int) - (cI (cJ f t) f.AG).length) rfl (by show _<1000000000;omega) (by simp;omega) (by omega) (by omega)
  simp only [a0J,a0m]at hlp;have e1:qU F f=some (cJ f t,0):=by
   rw [qU,show(⟨f.AF,f.AI,f.AB,f.AD,f.AG⟩:AH)=f from rfl,h1,bsm];dsimp only
   rw [a1z,hp]
  have e3:tW F f=some ((sp1 (cI (cJ f t) f.AG) f.AI:Int)+spN (dA (cJ f t)) (tkO t) f.AB 0,0):=by
   rw [tW,show(⟨f.AF,f.AI,f.AB,f.AD,f.AG⟩:AH)=f from rfl,h1,bsm];dsimp only
   rw [a1z,hp,hmain,hneed,bsm,aQ (by omega),bsm,hlp,bsm];congr 2;omega
  rw [open_S hm ha,bsm,e1,bsm,hsp,bsm,e3,bsm,a1E rfl];dsimp only
  rw [show(⟨(cJ f t).AF,(cJ f t).AB,(cJ f t).AD,(cJ f t).AG⟩:AJ)=cJ f t from rfl,C.self,bsm,a1z,a1E rfl,a1E rfl,hk,bsm,bsm]
open Go.SX Go.SW
theorem aJ6 {W:World} {a:Addr} {c:Value} (h:W.cell? a=some c):(jL W).cell a=some c:=by
 unfold World.cell? at h
 unfold Mem.cell uP jL
 cases hb:W.heap[a.block]? with
 | none=>rw [hb]at h;cases h
 | some o=>
  rw [hb]at h;cases o with
  | cells c t fr=>
   dsimp only at h ⊢
   first
    | exact h
    | (cases hs:a.spot with
       | none=>rw [hs]at h;simpa using h
       | some s=>rw [hs]at h;simp at h)
  | _=>cases h
theorem aF5 {H:Type} {d:DataW H} {l:List (DataW H)} (h:d∈l):Rows.uptoBulk d<=Rows.uptoBulkAll l:=by
 induction l with
 | nil=>cases h
 | cons x r ih=>
  simp only [Rows.uptoBulkAll];cases h with
  | head=>omega
  | tail _ e=>have:=ih e;omega
theorem bulk_one {H:Type} (d:DataW H):1<=Rows.uptoBulk d:=by
 cases d with
 | lit l=>cases l <;> simp [Rows.uptoBulk]
 | _=>simp [Rows.uptoBulk]
section
variable {H:Type} {enc:TypeId × Value->H} {P:Program} {W:World}
def Rd (enc:TypeId × Value->H) (P:Program) (W:World) (n:Nat) {α:Type} (T:Ty α) (t:TypeId) (μ:α->Nat) (S:α->Prop):Prop:=
 ∀ cs x,DataW.trod enc P W 0 (fun _=>true) true n t cs=some x->Rows.uptoBulk x.1<=1048576->∃ a,aX (T.An a) (jL W) cs/\μ a<=Rows.uptoBulk x.1/\S a
def RdF (enc:TypeId × Value->H) (P:Program) (W:World) (n:Nat) (fs:List Field) (o e:Nat) {β:Type} (L:β->List AK) (μ:β->Nat) (S:β->Prop):Prop:=
 ∀ (cs:List Value) xs,cs.length=e->(fs.mapM fun f=>DataW.trod enc P W 0 (fun _=>true) true n f.type ((cs.drop f.offset).take (P.cellsOf f.type)))=some xs->Rows.uptoBulkAll (xs.map (·.1))<=1048576->∃ b,aX (L b) (jL W) (cs.drop o)/\μ b<=Rows.uptoBulkAll (xs.map (·.1))/\S b
theorem nG {α:Type} {T:Ty α} {t:TypeId} {μ:α->Nat} {S:α->Prop}:Rd enc P W 0 T t μ S:=fun cs x h=>by cases h
theorem pX {n e:Nat}:RdF enc P W n [] e e (β:=Unit) (fun _=>[]) (fun _=>0) (fun _=>True):=fun cs xs hl h hb=>⟨(),by rw [a0r (by omega)];rfl,a1o _,trivial⟩
theorem aFf {α β:Type} {f:α->Option β} {x:α} {l:List α} {ys:List β} (h:(x :: l).mapM f=some ys):∃ y r,f x=some y/\l.mapM f=some r/\ys=y :: r:=by
 rw [List.mapM_cons]at h
 cases hx:f x with
 | none=>rw [hx]at h;cases h
 | some y=>
  cases hl:l.mapM f with
  | none=>rw [hx,hl]at h;cases h
  | some r=>rw [hx,hl]at h;cases h;exact⟨y,r,rfl,rfl,rfl⟩
theorem eR {n o e:Nat} {f:Field} {fs:List Field} {α β:Type} {T:Ty α} {μ:α->Nat} {S:α->Prop} {L:β->List AK} {ν:β->Nat} {R:β->Prop} (h:Rd enc P W n T f.type μ S) (ho:f.offset=o) (hz:P.cellsOf f.type=T.sz) (k:RdF enc P W n fs (o+T.sz) e L ν R):
 RdF enc P W n (f :: fs) o e (fun x:α × β=>T.An x.1++L x.2) (fun x=>μ x.1+ν x.2) (fun x=>S x.1/\R x.2):=fun cs xs hl hm hb=>by
 obtain⟨y,r,h1,h2,rfl⟩:=aFf hm
 simp only [a0N,Rows.uptoBulkAll]at hb
 obtain⟨a,a1,a2,a3⟩:=h _ _ h1 (by omega)
 obtain⟨b,b1,b2,b3⟩:=k cs r hl h2 (by omega)
 refine⟨(a,b),?_,by simp only [a0N,Rows.uptoBulkAll];omega,a3,b3⟩
 have:=a1.append b1
 rw [ho,hz,<- List.drop_drop,List.take_append_drop]at this
 exact this
theorem pG {n e:Nat} {α β:Type} {T:Ty α} {t:TypeId} {fs:Array Field} {μ:α->Nat} {S:α->Prop} {L:β->List AK} {ν:β->Nat} {R:β->Prop} (mk:β->α) (ht:P.underlying t=some (.struct fs)) (hc:P.cellsOf t=e) (k:RdF enc P W n fs.toList 0 e L ν R)
 (hL:∀ b,T.An (mk b)=L b) (hμ:∀ b,μ (mk b)<=ν b+1) (hS:∀ b,R b->ν b+1<=1048576->S (mk b)):Rd enc P W (n+1) T t μ S:=fun cs x h hb=>by
 rw [DataW.trod_step]at h
 unfold DataW.trodStep at h
 rw [ht]at h
 dsimp only at h
 split at h
 ·rename_i hcs;cases hm:(fs.toList.mapM fun f=>DataW.trod enc P W 0 (fun _=>true) true n f.type ((cs.drop f.offset).take (P.cellsOf f.type)))with
  | none=>rw [hm]at h;cases h
  | some xs=>
   rw [hm]at h;cases h;simp only [Rows.uptoBulk]at hb;obtain⟨b,b1,b2,b3⟩:=k cs xs (by omega) hm (by omega)
   rw [List.drop_zero]at b1;have:=hμ b;refine⟨mk b,by rw [hL];exact b1,by simp only [Rows.uptoBulk];omega,hS b b3 (by omega)⟩
 ·cases h
theorem rd_int {n:Nat} {t:TypeId} {k:IntKind} (ht:P.underlying t=some (.int k)):Rd enc P W n (bS k) t (fun _=>1) (fun i=>(Lit.int k i).wf=true):=fun cs x h hb=>by
 obtain _ | n:=n
 ·cases h
 rw [DataW.trod_step]at h
 unfold DataW.trodStep at h
 rw [ht]at h
 match cs,h with
 | [.int k' i],h=>
  dsimp only at h
  split at h
  ·rename_i hc;obtain⟨rfl,hw⟩:=hc;cases h;exact⟨i,⟨_,[],rfl,rfl,rfl⟩,a1k _,hw⟩
  ·cases h
theorem rd_str {n:Nat} {t:TypeId} (ht:P.underlying t=some .string):Rd enc P W n aD t (fun s=>s.size+1) (fun s=>s.size<=1048576):=fun cs x h hb=>by
 obtain _ | n:=n
 ·cases h
 rw [DataW.trod_step]at h
 unfold DataW.trodStep at h
 rw [ht]at h
 match cs,h with
 | [.string s],h=>
  dsimp only at h
  split at h
  ·cases h;have e:s.data.toList.length=s.size:=rfl;simp only [Rows.uptoBulk]at hb;exact⟨s,⟨_,[],rfl,rfl,rfl⟩,by simp only [Rows.uptoBulk];omega,by omega⟩
  ·cases h
def msum {α:Type} (μ:α->Nat):List α->Nat
 | []=>0
 | a :: l=>μ a+msum μ l
theorem aFF {α:Type} {f:Nat->Option α} {n:Nat} {l:List α} (h:(List.range n).mapM f=some l):l.length=n/\∀ i,i<n->∃ y,l[i]? =some y/\f i=some y:=by
 have g:∀ (ks:List Nat) (l:List α),ks.mapM f=some l->l.length=ks.length/\∀ (i k:Nat),ks[i]? =some k->∃ y,l[i]? =some y/\f k=some y:=fun ks=>by
  induction ks with
  | nil=>intro l h;cases h;exact⟨rfl,fun i k h=>by simp at h⟩
  | cons k ks ih=>
   intro l h;obtain⟨y,r,h1,h2,rfl⟩:=aFf h;obtain⟨a,b⟩:=ih r h2;refine⟨by simp [a],fun i q hq=>?_⟩
   cases i with
   | zero=>simp at hq;subst hq;exact⟨y,rfl,h1⟩
   | succ i=>exact b i q (by simpa using hq)
 obtain⟨a,b⟩:=g _ _ h
 exact⟨by simpa using a,fun i hi=>b i i (by simp [hi])⟩
theorem aJl {W:World} {b z:Nat} {a:Addr} {cs:List Value} (h:W.cells? b a z=some cs):∀ (j:Nat) c,cs[j]? =some c->W.cell? (a.add j)=some c:=by
 unfold World.cells? at h
 split at h
 ·obtain⟨h1,h2⟩:=aFF h;intro j c hj;have:=(a0z.1 hj).1;obtain⟨y,y1,y2⟩:=h2 j (by omega)
  rw [hj]at y1;cases y1;exact y2
 ·cases h
theorem aFX {α γ:Type} {Q:γ->α->Prop}:∀ (l:List γ),(∀ c∈l,∃ a,Q c a)->∃ r:List α,r.length=l.length/\∀ (i:Nat) c,l[i]? =some c->∃ a,r[i]? =some a/\Q c a
 | [],_=>⟨[],rfl,fun i c h=>by simp at h⟩
 | c :: l,h=>by
  obtain⟨a,ha⟩:=h c (.head _);obtain⟨r,h1,h2⟩:=aFX l (fun c hc=>h c (.tail _ hc))
  refine⟨a :: r,by simp [h1],fun i q hq=>?_⟩
  cases i with
  | zero=>simp at hq;subst hq;exact⟨a,rfl,ha⟩
  | succ i=>exact h2 i q (by simpa using hq)
theorem aEP {α:Type} {μ:α->Nat}:∀ {r:List α} {ds:List (DataW H)},r.length=ds.length->(∀ (i:Nat) d a,ds[i]? =some d->r[i]? =some a->μ a<=Rows.uptoBulk d)->msum μ r<=Rows.uptoBulkAll ds/\r.length<=Rows.uptoBulkAll ds
 | [],[],_,_=>⟨a1o _,a1o _⟩
 | a :: r,d :: ds,hl,h=>by
  obtain⟨h1,h2⟩:=aEP (r:=r) (ds:=ds) (by simpa using hl) (fun i d a hd ha=>h (i+1) d a (by simpa using hd) (by simpa using ha))
  have:=h 0 d a rfl rfl;have:=bulk_one d;simp only [msum,Rows.uptoBulkAll,a0G];omega
theorem rd_sl {n:Nat} {t e:TypeId} {α:Type} {T:Ty α} {μ:α->Nat} {S:α->Prop} (ht:P.underlying t=some (.slice e)) (hz:P.cellsOf e=T.sz) (h:Rd enc P W n T e μ S):Rd enc P W (n+1) (tSl T) t (fun l=>msum μ l+1) (fun l=>l.length<=1048576/\∀ a∈l,S a):=fun cs x hx hb=>by
 rw [DataW.trod_step]at hx
 unfold DataW.trodStep at hx
 rw [ht]at hx
 match cs,hx with
 | [.slice none 0 0],hx=>
  cases hx;exact⟨[],⟨_,[],rfl,cC (jL W) _ rfl,rfl⟩,a1k _,by simp,fun a ha=>by cases ha⟩
 | [.slice (some p) len cap],hx=>
  dsimp only at hx
  split at hx
  ·rename_i hc;cases h1:((List.range len).mapM fun i=>(W.cells? 0 (p.add (i*P.cellsOf e)) (P.cellsOf e)).bind (DataW.trod enc P W 0 (fun _=>true) true n e))with
   | none=>rw [h1]at hx;cases hx
   | some es=>
    rw [h1]at hx;obtain⟨rest,_,rfl⟩:=a1r.1 hx;obtain⟨l1,l2⟩:=aFF h1;simp only [Rows.uptoBulk]at hb;have each:∀ y∈es,∃ a,(μ a<=Rows.uptoBulk y.1/\S a)/\∀ i cs',W.cells? 0 (p.add (i*P.cellsOf e)) (P.cellsOf e)=some cs'->DataW.trod enc P W 0 (fun _=>true) true n e cs'=some y->True:=fun y hy=>by
     obtain⟨i,hi,rfl⟩:=List.mem_iff_getElem.1 hy;obtain⟨y,y1,y2⟩:=l2 i (by omega)
     obtain⟨cs',c1,c2⟩:=Option.bind_eq_some_iff.1 y2;have e1:es[i]=y:=by rw [a0y hi]at y1;exact a1u y1
     have m1:Rows.uptoBulk y.1<=Rows.uptoBulkAll (es.map (·.1)):=aF5 (a0U (by rw [<- e1];exact List.getElem_mem _))
     obtain⟨a,a1,a2,a3⟩:=h _ _ c2 (by omega)
     exact⟨a,⟨by rw [e1];exact a2,a3⟩,fun _ _ _ _=>trivial⟩
    have each2:∀ i∈List.range len,∃ a,(∃ y,es[i]? =some y/\μ a<=Rows.uptoBulk y.1)/\S a/\T.at (jL W) (p.add (i*T.sz)) a:=fun i hi=>by
     obtain⟨y,y1,y2⟩:=l2 i (by simpa using hi)
     obtain⟨cs',c1,c2⟩:=Option.bind_eq_some_iff.1 y2;have m1:Rows.uptoBulk y.1<=Rows.uptoBulkAll (es.map (·.1)):=aF5 (a0U (a0V y1));obtain⟨a,a1,a2,a3⟩:=h _ _ c2 (by omega)
     exact⟨a,⟨y,y1,a2⟩,a3,cs',a1,fun j c hj=>by rw [<- hz];exact aJ6 (aJl c1 j c hj)⟩
    obtain⟨r,r1,r2⟩:=aFX (List.range len) each2;have rl:r.length=len:=by simpa using r1
    have r3:∀ i,i<len->∃ a,r[i]? =some a/\(∃ y,es[i]? =some y/\μ a<=Rows.uptoBulk y.1)/\S a/\T.at (jL W) (p.add (i*T.sz)) a:=fun i hi=>r2 i i (by simp [hi])
    obtain⟨m1,m2⟩:=aEP (μ:=μ) (r:=r) (ds:=es.map (·.1)) (by simp [rl,l1]) (fun i d a hd ha=>by
     obtain⟨a',a1,⟨y,y1,y2⟩,_⟩:=r3 i (by have:=(a0z.1 ha).1;omega)
     rw [ha]at a1;cases a1
     rw [a0A,y1]at hd;cases hd
     exact y2)
    refine⟨r,⟨_,[],rfl,⟨fun i=>p.add (i*T.sz),⟨some p,cap,by rw [rl],by rw [rl];exact hc.2.1,fun i _=>⟨p,rfl,rfl⟩⟩,by omega,fun i a ha=>?_⟩,rfl⟩,by simp only [Rows.uptoBulk];omega,by omega,fun a ha=>?_⟩
    ·obtain⟨a',a1,_,_,a2⟩:=r3 i (by have:=(a0z.1 ha).1;omega)
     rw [ha]at a1;cases a1;exact a2
    ·obtain⟨i,hi,rfl⟩:=List.mem_iff_getElem.1 ha;obtain⟨a',a1,_,a2,_⟩:=r3 i (by omega)
     rw [a0y hi]at a1;cases a1;exact a2
  ·cases hx
theorem Rd.mono {n:Nat} {α:Type} {T:Ty α} {t:TypeId} {μ ν:α->Nat} {S R:α->Prop} (h:Rd enc P W n T t μ S) (hμ:∀ a,ν a<=μ a) (hS:∀ a,S a->μ a<=1048576->R a):Rd enc P W n T t ν R:=fun cs x hx hb=>by
 obtain⟨a,a1,a2,a3⟩:=h cs x hx hb
 exact⟨a,a1,a1l (hμ a) a2,hS a a3 (by omega)⟩
theorem arg_st {α:Type} {T:Ty α} {t:TypeId} {μ:α->Nat} {S:α->Prop} {fs:Array Field} {r:Reach} {b0:Nat} {v:Value} {d:DataW H} {ps:List MemPlace} (h:∀ n,Rd enc P W n T t μ S) (ht:P.underlying t=some (.struct fs)) (hval:Value.okWide P W r b0 t v)
 (hd:DataW.Trod enc P W 0 (fun _=>true) true t v d ps) (hb:Rows.uptoBulk d<=1048576):∃ a,(fSt T a).p (jL W) v/\S a:=by
 unfold Value.okWide at hval
 rw [ht]at hval
 obtain⟨cs,rfl,_⟩:=hval
 obtain⟨n,hn⟩:=hd
 obtain⟨a,a1,_,a2⟩:=h n _ _ hn hb
 exact⟨a,⟨cs.toList,by simp,a1⟩,a2⟩
end
open Go.SX Go.SW Go.Dt
section
variable {H:Type} {enc:TypeId × Value->H} {W:World}
abbrev RdP (enc:TypeId × Value->H) (W:World) (n:Nat) {α:Type} (T:Ty α) (t:TypeId) (μ:α->Nat) (S:α->Prop):Prop:=Rd enc Tryz.prog W n T t μ S
theorem iR (n:Nat) {t:TypeId} (ht:Tryz.prog.underlying t=some (.int .i64)):RdP enc W n (bS .i64) t (fun _=>1) (fun _=>True):=(rd_int ht).mono (fun _=>a1k _) (fun _ _ _=>trivial)
theorem pB {n:Nat} {t e:TypeId} {α:Type} {T:Ty α} {μ:α->Nat} {S:α->Prop} (ht:Tryz.prog.underlying t=some (.slice e)) (hz:Tryz.prog.cellsOf e=T.sz) (h:∀ k,RdP enc W k T e μ S):RdP enc W n (tSl T) t (fun l=>msum μ l+1) (fun l=>l.length<=1048576/\∀ a∈l,S a):=by
 cases n with
 | zero=>exact nG
 | succ n=>exact rd_sl ht hz (h n)
theorem aBu (n:Nat) {t e:TypeId} (ht:Tryz.prog.underlying t=some (.slice e)) (he:Tryz.prog.underlying e=some (.int .i64)) (hz:Tryz.prog.cellsOf e=1):RdP enc W n (tSl (bS .i64)) t (fun _=>0) (fun l=>l.length<=1048576):=
 (pB ht hz (fun k=>iR k he)).mono (fun _=>a1o _) (fun _ h _=>h.1)
theorem zD:∀ l:List AV,nL l=msum nE l
 | []=>rfl
 | a :: l=>by simp only [nL,msum,zD l]
theorem aG8 (a b:Int) (c:List AV):aN.An ⟨a,b,c⟩=[bI .i64 a,bI .i64 b,fSl aN c]:=by
 show [_,_,dD c]=_
 rw [eO]
theorem rd_exp:∀ n:Nat,RdP enc W n aN 71 nE (fun e=>nE e<=1048576)
 | 0=>nG
 | 1=>fun cs x h hb=>(pG (μ:=nE) (S:=fun e=>nE e<=1048576) (T:=aN) (fun b:Int × Int × List AV × Unit=>⟨b.1,b.2.1,b.2.2.1⟩) Tryz.underlying71 (e:=3) (by kernel_rfl)
  (eR (iR 0 Tryz.underlying69) rfl (by kernel_rfl) (eR (iR 0 Tryz.underlying3) rfl (by kernel_rfl) (eR (T:=tSl aN) (μ:=fun l=>msum nE l+1) (S:=fun _=>True) nG rfl (by kernel_rfl) pX)))
  (fun b=>aG8 b.1 b.2.1 b.2.2.1) (fun b=>by simp only [nE,zD];omega) (fun b _ hb=>by simp only [nE,zD]at *;omega)) cs x h hb
 | n+2=>fun cs x h hb=>(pG (μ:=nE) (S:=fun e=>nE e<=1048576) (T:=aN) (fun b:Int × Int × List AV × Unit=>⟨b.1,b.2.1,b.2.2.1⟩) Tryz.underlying71 (e:=3) (by kernel_rfl)
  (eR (iR _ Tryz.underlying69) rfl (by kernel_rfl) (eR (iR _ Tryz.underlying3) rfl (by kernel_rfl) (eR (rd_sl Tryz.underlying52 (by kernel_rfl) (rd_exp n)) rfl (by kernel_rfl) pX)))
  (fun b=>aG8 b.1 b.2.1 b.2.2.1) (fun b=>by simp only [nE,zD];omega) (fun b _ hb=>by simp only [nE,zD]at *;omega)) cs x h hb
theorem aJZ:∀ n:Nat,RdP enc W n aZ 135 (fun _=>0) (fun _=>True)
 | 0=>nG
 | n+1=>pG (T:=aZ) (fun b:Int × Int × Unit=>⟨b.1,b.2.1⟩) Tryz.underlying135 (e:=2) (by kernel_rfl)
  (eR (iR n Tryz.underlying3) rfl (by kernel_rfl) (eR (iR n Tryz.underlying3) rfl (by kernel_rfl) pX))
  (fun _=>rfl) (fun _=>a1o _) (fun _ _ _=>trivial)
theorem aJE:∀ n:Nat,RdP enc W n aU 84 (fun _=>0) (fun _=>True)
 | 0=>nG
 | n+1=>pG (T:=aU) (fun b:Int × Int × Unit=>⟨b.1,b.2.1⟩) Tryz.underlying84 (e:=2) (by kernel_rfl)
  (eR (iR n Tryz.underlying3) rfl (by kernel_rfl) (eR (iR n Tryz.underlying3) rfl (by kernel_rfl) pX))
  (fun _=>rfl) (fun _=>a1o _) (fun _ _ _=>trivial)
theorem aJ1:∀ n:Nat,RdP enc W n aY 81 (fun _=>0) (fun x=>x.Ad.length<=2000000)
 | 0=>nG
 | n+1=>pG (T:=aY) (fun b:Int × List Int × Int × Unit=>⟨b.1,b.2.1,b.2.2.1⟩) Tryz.underlying81 (e:=3) (by kernel_rfl)
  (eR (iR n Tryz.underlying3) rfl (by kernel_rfl) (eR (aBu n Tryz.underlying27 Tryz.underlying3 (by kernel_rfl)) rfl (by kernel_rfl) (eR (iR n Tryz.underlying3) rfl (by kernel_rfl) pX)))
  (fun _=>rfl) (fun _=>a1o _) (fun b h _=>by have:=h.2.1;show b.2.1.length<=_;omega)
theorem aJR:∀ n:Nat,RdP enc W n aB 77 (fun _=>0) (smD)
 | 0=>nG
 | n+1=>pG (T:=aB) (fun b:List Aq × List Ap × List Ah × Unit=>⟨b.1,b.2.1,b.2.2.1⟩) Tryz.underlying77 (e:=3) (by kernel_rfl)
  (eR (pB Tryz.underlying73 (by kernel_rfl) aJZ) rfl (by kernel_rfl) (eR (pB Tryz.underlying74 (by kernel_rfl) aJE) rfl (by kernel_rfl) (eR (pB Tryz.underlying75 (by kernel_rfl) aJ1) rfl (by kernel_rfl) pX)))
  (fun _=>rfl) (fun _=>a1o _) (fun b h _=>⟨by have:=h.1.1;show b.1.length<=_;omega,by have:=h.2.1.1;show b.2.1.length<=_;omega,by have:=h.2.2.1.1;show b.2.2.1.length<=_;omega,h.2.2.1.2⟩)
theorem aKu:∀ n:Nat,RdP enc W n aW 54 (fun _=>0) (fun x=>(x.AX.length<=2000000/\x.AM.length<=2000000/\∀ e∈x.AX,nE e<=2000000)/\x.AI.length<=2000000)
 | 0=>nG
 | n+1=>pG (T:=aW) (fun b:Int × Int × List AV × List Int × List Int × Unit=>⟨b.1,b.2.1,b.2.2.1,b.2.2.2.1,b.2.2.2.2.1⟩) Tryz.underlying54 (e:=5) (by kernel_rfl)
  (eR (iR n Tryz.underlying51) rfl (by kernel_rfl) (eR (iR n Tryz.underlying3) rfl (by kernel_rfl) (eR (pB Tryz.underlying52 (by kernel_rfl) rd_exp) rfl (by kernel_rfl) (eR (aBu n Tryz.underlying27 Tryz.underlying3 (by kernel_rfl)) rfl (by kernel_rfl) (eR (aBu n Tryz.underlying27 Tryz.underlying3 (by kernel_rfl)) rfl (by kernel_rfl) pX)))))
  (fun _=>rfl) (fun _=>a1o _) (fun b h _=>⟨⟨by have:=h.2.2.1.1;show b.2.2.1.length<=_;omega,by have:=h.2.2.2.1;show b.2.2.2.1.length<=_;omega,fun e he=>a1l (h.2.2.1.2 e he) (by omega)⟩,by have:=h.2.2.2.2.1;show b.2.2.2.2.1.length<=_;omega⟩)
theorem aID:∀ n:Nat,RdP enc W n jB 30 (fun _=>0) (SmF)
 | 0=>nG
 | n+1=>pG (T:=jB) (fun b:List ByteArray × List Int × List Ao × List AN × Int × Unit=>⟨b.1,b.2.1,b.2.2.1,b.2.2.2.1,b.2.2.2.2.1⟩) Tryz.underlying30 (e:=5) (by kernel_rfl)
  (eR (pB (S:=fun s:ByteArray=>s.size<=1048576) Tryz.underlying22 (by kernel_rfl) (fun k=>(rd_str (n:=k) Tryz.underlying9))) rfl (by kernel_rfl) (eR (aBu n Tryz.underlying27 Tryz.underlying3 (by kernel_rfl)) rfl (by kernel_rfl) (eR (pB Tryz.underlying28 (by kernel_rfl) aKu) rfl (by kernel_rfl) (eR (pB Tryz.underlying24 (by kernel_rfl) aJR) rfl (by kernel_rfl) (eR (iR n Tryz.underlying3) rfl (by kernel_rfl) pX)))))
  (fun _=>rfl) (fun _=>a1o _) (fun b h _=>⟨by have:=h.2.2.1.1;show b.2.2.1.length<=_;omega,by have:=h.2.2.2.1.1;show b.2.2.2.1.length<=_;omega,by have:=h.1.1;show b.1.length<=_;omega,fun x hx=>a1l (h.1.2 x hx) (by omega),fun x hx=>(h.2.2.1.2 x hx).1,fun x hx=>(h.2.2.1.2 x hx).2,h.2.2.2.1.2,by have:=h.2.1;show b.2.1.length<=_;omega⟩)
end
end Go.Proofs.YtgidgoahhepmlaaGreat
namespace Go.SW
open Go.SX
theorem aKy {w w':World} (h:w.keptBut w' (fun _=>False)) {p:MemPlace} (hp:p.block<w.heap.size):w.sameAt w' p:=by
 obtain⟨_,_,h⟩:=h
 cases p with
 | cell b off=>
  have:=h b hp;show w'.cell? _=w.cell? _
  grind [World.cell?]
 | map b=>
  have:=h b hp;show w'.heap[b]? =w.heap[b]?
  cases h1:w.heap[b]? with
  | none=>grind
  | some o=>
   rw [h1]at this;cases o with
   | cells c t fr=>
    cases h2:w'.heap[b]? with
    | none=>grind
    | some o'=>
     rw [h2]at this;cases o' with
     | cells c' t' fr'=>
      dsimp only at this
      obtain⟨rfl,rfl,hs,hc⟩:=this;have:c'=c:=Array.ext_getElem? fun j=>hc j (fun f=>f)
      rw [this]
     | _=>cases this
   | map es clock=>
    grind
   | _=>exact this
theorem aGZ {H:Type} {enc:TypeId × Value->H} {P:Program} {W W':World} (hl:laidOutB P=true) (hm:mapsRowed P=true) (hz:∀ t e,t<P.types.size->P.underlying t=some (.slice e)->0<P.cellsOf e) (hk:W.keptBut W' (fun _=>False)):
 ∀ {ts:List TypeId} {vs:List Value} {ds:List (DataW H)} {ps:List MemPlace},(∀ t∈ts,t<P.types.size)->DataW.TrodAll enc P W 0 (fun _=>true) true ts vs ds ps->DataW.TrodAll enc P W' 0 (fun b=>decide (b<W.heap.size)) true ts vs ds ps
 | [],[],[],_,_,h=>h
 | t :: _,_ :: _,_ :: _,ps,ht,h=>by
  have hlt:=h.lt;obtain⟨p,q,⟨n,hn⟩,h2,e⟩:=h;refine⟨p,q,⟨n,?_⟩,aGZ hl hm hz hk (fun t h=>ht t (.tail _ h)) h2,e⟩
  have hp:∀ x∈p,x.block<W.heap.size:=by grind
  exact DataW.trod_stays (kids_rows hl hm) (fun a b=>hz _ _ a b) (fun f=>by cases f) (ht t (.head _)) hn (by grind [aKy]) (by grind)
 | [],_ :: _,_,_,_,h=>h.elim
 | [],[],_ :: _,_,_,h=>h.elim
 | _ :: _,[],_,_,_,h=>h.elim
 | _ :: _,_ :: _,[],_,_,h=>h.elim
end Go.SW
