/- Parts of the proof: lemmas, and the steps through the program. -/
import Derived.Test.YtgidgoahhepmlaaGreatFl5
import Derived.Test.YtgidgoahhepmlaaGreatRows
import Derived.ChangeSame
import Derived.ChangeReads
import Derived.ReadAgain
import Derived.ChangeStays
import Derived.ChangeBears
set_option linter.unusedVariables false
set_option linter.unusedSimpArgs false
set_option maxRecDepth 100000
set_option maxHeartbeats 2000000
namespace Go.Proofs.YtgidgoahhepmlaaGreat
open Go.SX Go.SW Go.Dt
theorem aFd {x:Int}:∀ (l:List Int) (k:Int),x ∉ l->fndA x l k=-1
 | [],_,_=>rfl
 | y :: l,k,h=>by
  rw [fndA,a2c (fun e=>h (by rw [e];exact .head _)),aFd l (k+1) (fun q=>h (.tail _ q))]
theorem fnd_neg {l:List Int} {x:Int}:fnd l x<0 ↔ x ∉ l:=by
 constructor
 ·intro h q;obtain⟨i,h1,_⟩:=aAd q;omega
 ·intro h;rw [fnd,aFd l 0 h];decide
theorem aCU {w l:List Int} (hw:Srt w) (hl:Srt l) (h:∀ i∈w,i∈l):(l.length:Int)=w.length+(sp1 w l:Int):=by
 have e1:=List.length_eq_countP_add_countP (fun i=>decide (fnd w i<0)) (l:=l)
 have e2:l.filter (fun a=>decide ¬ (decide (fnd w a<0))=true)=w:=aBR (hl.filter _) hw fun i=>by
  rw [a1g,a2b,a2b,fnd_neg];exact⟨fun q=>Classical.byContradiction q.2,fun q=>⟨h i q,fun k=>k q⟩⟩
 rw [List.countP_eq_length_filter (p:=fun a=>decide ¬ (decide (fnd w a<0))=true),e2]at e1
 unfold sp1
 omega
theorem aIl {a0:List Int} (AC:List Int):∀ (AB acc:List Int) (k:Nat),AC.length<k->AB.length+AC.length<=900000000->acc.length+AC.length<=900000000->(∀ i∈AC,0<=i/\i<(a0.length:Int))->nM a0 (AB++AC) k acc AB.length=some (.inl (acc++pick a0 AC)):=by
 induction AC with
 | nil=>
  intro AB acc k hk _ _ _;obtain _ | k:=k
  ·omega
  rw [nM,a2c (by simp)];simp [pick]
 | cons e AC ih=>
  intro AB acc k hk hB hA hi;obtain _ | k:=k
  ·omega
  simp only [a0S]at hk hB hA;obtain⟨h0,h1⟩:=hi e (.head _);obtain⟨v,hv⟩:=gK h0 h1;rw [nM,a2d (aV _ _ _),aX,bsm,a2c (by omega),bsm,a2c (by omega),bsm,hv,bsm,cX (by simp;omega),bsm,aM (by omega),bsm,bA,aU,ih (AB++[e]) (acc++[v]) k (by omega) (by simp;omega) (by simp;omega) (fun i h=>hi i (.tail _ h))];simp [pick,hv]
theorem aGK {l t:List Int} (ht:t.length<=1000000) (hi:∀ i∈t,0<=i/\i<(l.length:Int)):tM F l t=some (pick l t,true):=by
 have g:=aIl (a0:=l) t [] [] F (by show _<1000000000;omega) (by simp;omega) (by simp;omega) hi
 simp only [a1n,a0W,a0q]at g
 rw [tM,g,bsm]
theorem among_l2 {a0:List Int} {j v:Int} (hv:idx a0 j=some v) (AC:List Int):∀ (AB:List Int) (k:Nat) (b:Bool),AC.length<k->AB.length+AC.length<=900000000->oW a0 (AB++AC) j k b AB.length=some (b || decide (v∈AC)):=by
 induction AC with
 | nil=>
  intro AB k b hk _;obtain _ | k:=k
  ·omega
  rw [oW,a2c (by simp)];simp
 | cons e AC ih=>
  intro AB k b hk hB;obtain _ | k:=k
  ·omega
  simp only [a0S]at hk hB;rw [oW,a2d (aV _ _ _)];cases b with
  | true=>rw [a1Y,bsm,aM (by omega),bsm,bA,aU,ih (AB++[e]) k true (by omega) (by simp;omega),Bool.true_or,Bool.true_or]
  | false=>
   rw [a1X,hv,bsm,aX,bsm,bsm,aM (by omega),bsm,bA,aU,ih (AB++[e]) k _ (by omega) (by simp;omega),Bool.false_or];congr 1
   rw [a0l];simp only [Bool.or_eq_true,a2b,a1f]
theorem aKB {a1:List Int} (hl:a1.length<=1000000) (AC:List Int):∀ (AB:List Int) (k:Nat),AC.length<k->AB.length+AC.length<=900000000->(∀ i∈AC,i∈a1)->nO F (AB++AC) a1 k AB.length=some (.inl ()):=by
 induction AC with
 | nil=>
  intro AB k hk _ _;obtain _ | k:=k
  ·omega
  rw [nO,a2c (by simp)]
 | cons e AC ih=>
  intro AB k hk hB hi;obtain _ | k:=k
  ·omega
  simp only [a0S]at hk hB;have g:=among_l2 (aX AB AC e) a1 [] F false (by show _<1000000000;omega) (by simp;omega)
  simp only [a1n,a0W,a0q]at g;rw [nO,a2d (aV _ _ _),g,bsm,Bool.false_or,a2a (hi e (.head _)),a1Y,bsm];dsimp only
  rw [aM (by omega),bsm,bA,aU,ih (AB++[e]) k (by omega) (by simp;omega) (fun i h=>hi i (.tail _ h))]
theorem aCz {a b:List Int} (ha:a.length<=1000000) (hb:b.length<=1000000) (h:∀ i∈a,i∈b):sK F a b=some true:=by
 have g:=aKB hb a [] F (by show _<1000000000;omega) (by simp;omega) h
 simp only [a1n,a0W,a0q]at g
 rw [sK,g,bsm]
theorem aKY {v:Af} (AC:List (List Int)):∀ (AB:List (List Int)) (k:Nat),v.Aa=AB++AC->AC.length<k->AB.length+AC.length<=900000000->(∀ x∈AC,x.length<=400000000)->nX v k AB AB.length=some v.Aa:=by
 induction AC with
 | nil=>
  intro AB k hv hk _ _;obtain _ | k:=k
  ·omega
  rw [nX,hv,a2c (by simp)];simp
 | cons e AC ih=>
  intro AB k hv hk hB hx;obtain _ | k:=k
  ·omega
  simp only [a0S]at hk hB;have:=hx e (.head _);rw [nX,a2d (by rw [hv];exact aV _ _ _),show idx v.Aa (AB.length:Int)=some e from by rw [hv];exact aX _ _ _,bsm,fC,a1n,cX (by omega),bsm,bsm,cX (by simp;omega),bsm,aM (by omega),bsm,aU,ih (AB++[e]) k (by rw [hv,bA]) (by omega) (by simp;omega) (fun x h=>hx x (.tail _ h))]
theorem aFB {f:AE} (hm:SmF f) {s:FS} (ha:fV false f=some s) (hn:s.Aa.length<=60) (hl:∀ x∈s.Aa,x.length<=400000000):tE F f=some (s.Aa,0):=by
 have hc:=aKY (v:=cvP f s) s.Aa [] F rfl (by show _<1000000000;omega) (by simp;omega) hl
 simp only [a0W,a0q]at hc
 rw [tE,show(⟨f.AH,f.AM,f.AD,f.AF,f.AG⟩:AE)=f from rfl,aAx hm,ha,bsm]
 dsimp only
 rw [Option.isNone_some,a1X,bsm,hc,bsm]
 rfl
theorem aEc {g:VS->Int->Int->Option VS} {P:Int->Prop}:∀ (l:List (Int × Int)) (s s':VS),bY g s l=some s'->(∀ c∈l,∀ s s',g s c.1 c.2=some s'->∀ i,eZ s s' i->P i)->∀ i,eZ s s' i->P i
 | [],s,s',h,_,i,hi=>by cases h;exact absurd hi.2 hi.1
 | c :: l,s,s',h,H,i,hi=>by
  obtain⟨s1,e1,e2⟩:=bind_some h;by_cases q:idx s1.AR i=some true
  ·exact H c (.head _) s s1 e1 i ⟨hi.1,q⟩
  ·exact aEc l s1 s' e2 (fun c h=>H c (.tail _ h)) i ⟨q,hi.2⟩
theorem aBc {a b c:List Int} (h:∀ j∈a,j∈b):∀ j∈a++c,j∈b++c:=fun j hj=>by
 rcases a1c.1 hj with q | q
 ·exact a1d _ (h j q)
 ·exact a1e _ q
variable {p:AI} {vs:VS} {rk:Int->Nat}
theorem cs3_pair {x:AV} {lf lg tf tg:List Int} {z:Int} (h1:∀ j∈lg,j∈lf) (h2:cS x.Op=true->∀ j∈tg,j∈tf) {q:Int × Int} (h:q∈eH p x z):∃ c∈cs3 p x lf z tf,∃ d∈cs3 p x lg z tg,c2 c=q/\c2 d=q/\∀ j∈d.2.1,j∈c.2.1:=by
 unfold eH at h
 unfold cs3 fD fK
 by_cases o4:x.Op=4
 ·have h2:=h2 (a2a (.inl o4));simp only [a2d o4]at h ⊢;cases ed:idx p.AF x.N with
  | none=>rw [ed]at h;cases h
  | some d=>
   rw [ed]at h;simp only [chD,a1c,a1i]at h;rcases h with(⟨r,hr,rfl⟩ | ⟨y,hy,rfl⟩) | ⟨k,hk,rfl⟩
   ·exact⟨_,a1d _ (a1d _ (a1i.2 ⟨r,hr,rfl⟩)),_,a1d _ (a1d _ (a1i.2 ⟨r,hr,rfl⟩)),rfl,rfl,aBc (aBc h2)⟩
   ·exact⟨_,a1d _ (a1e _ (a1i.2 ⟨y,hy,rfl⟩)),_,a1d _ (a1e _ (a1i.2 ⟨y,hy,rfl⟩)),rfl,rfl,aBc h2⟩
   ·exact⟨_,a1e _ (a1i.2 ⟨k,hk,rfl⟩),_,a1e _ (a1i.2 ⟨k,hk,rfl⟩),rfl,rfl,aBc h1⟩
 ·simp only [a2c o4,a1n]at h ⊢;obtain⟨k,hk,rfl⟩:=a1i.1 h;refine⟨_,a1i.2 ⟨k,hk,rfl⟩,_,a1i.2 ⟨k,hk,rfl⟩,rfl,rfl,?_⟩;dsimp only
  split
  ·rename_i o6;exact h2 (a2a (by omega))
  ·exact h1
def Cm (p:AI) (f:AE) (T:FS) (g:AE) (U:FS) (i:Int):Prop:=∃ x y yg lf lg,At p f T i lf x y/\At p g U i lg x yg/\(∀ j∈lg,j∈lf)/\lf.length<=6012/\lg.length<=6012
theorem cmp (C:Cx p vs rk) {f g:AE} {T U:FS} (hU:∀ i x,idx p.AD i=some x->idx U.AZ i=some (if cS x.Op=true then aZ p i else [])):∀ (k:Nat) (s:VS) (n z:Int) (s':VS) (x:AV) (lf lg:List Int),vis p k s n z=some s'->Nd p vs rk n x z->Bw p f T k n lf z->Bw p g U k n lg z->(∀ j∈lg,j∈lf)->∀ i,eZ s s' i->Cm p f T g U i
 | 0,s,n,z,s',x,lf,lg,h,_,_,_,_,_,_=>by simp [vis]at h
 | k+1,s,n,z,s',x,lf,lg,h,K,bf,bg,hs,i,hi=>by
  obtain⟨x',ex,hn,hok,hdef,hv⟩:=rN h;have e:=K.g.node;rw [ex]at e;cases e
  rw [Bw]at bf bg;obtain⟨x1,y,A,L,hc⟩:=bf;obtain⟨x2,yg,A',L',hc'⟩:=bg;have e:=A.px;rw [ex]at e;cases e
  have e:=A'.px;rw [ex]at e;cases e
  have e:=hU n x ex;rw [A'.tt]at e;have e:=a1T e;have h6:=K.z6;have hp:=K.g.pos;by_cases hin:i=n
  ·subst hin;have l1:=pL L.srt (a:=0) (b:=z) L.bnd;have l2:=pL L'.srt (a:=0) (b:=z) L'.bnd;exact⟨x,y,yg,lf,lg,A,A',hs,by omega,by omega⟩
  ·refine aEc _ _ _ hv (fun q hq s s' hv'=>?_) i ⟨by rw [iM hn,a2c hin];exact hi.1,hi.2⟩
   obtain⟨c,m1,d,m2,e1,e2,e3⟩:=cs3_pair (lf:=lf) (lg:=lg) (tf:=pick lf y.AM) (tg:=pick lg yg.AM) hs (fun t j hj=>A.want t j (by rw [e,a2d t]at hj;exact hj)) hq
   obtain⟨_,y',K'⟩:=C.child K.g hq;subst e1;have f1:d.1=c.1:=congrArg (fun q:Int × Int=>q.1) e2
   have f2:d.2.2=c.2.2:=congrArg (fun q:Int × Int=>q.2) e2
   have B':=hc' d m2;rw [f1,f2]at B';exact cmp C hU k s c.1 c.2.2 s' y' c.2.1 d.2.1 hv' K' (hc c m1) B' e3
theorem aI5 {f:AE} (hm:SmF f) (ha:fV false f=none):rA F f=some (⟨[],[],[],0⟩,2):=by
 rw [rA,show(⟨f.AH,f.AM,f.AD,f.AF,f.AG⟩:AE)=f from rfl,aAx hm,ha,bsm]
 rfl
theorem aJf:zY F ⟨[],[],[],0⟩ ⟨[],[],[],0⟩=some true:=by
 have e1:=sprog1 (p:=⟨[],[],[],0⟩) [] [] F rfl (by decide) (by simp) (fun x h=>by cases h)
 have e2:=sprog2 (p:=⟨[],[],[],0⟩) [] [] F rfl (by decide) (by simp) (fun x h=>by cases h)
 simp only [a0W,a0q]at e1 e2
 rw [zY,aJW (by simp),bsm,a0o,a1X,a2c (by simp),a2c (by simp),a2c (by simp),e1,bsm]
 dsimp only
 rw [e2,bsm]
def tkO (t:FS) (i:Int):List Int:=(idx t.AZ i).getD []
theorem aKS {f g:AE} {t u:FS} {e4 e5 e6:Int} (hU:∀ i x,idx p.AD i=some x->idx u.AZ i=some (if cS x.Op=true then aZ p i else [])) (hws:∀ i x,idx p.AD i=some x->Srt (aZ p i))
 (AC:List Ah):∀ (AB:List Ah) (k:Nat) (acc:Int),f.AD=AB++AC->AC.length<k->AB.length+AC.length<=60->(∀ i,0<=i->i<(f.AD.length:Int)->Cm p f t g u i)->0<=acc->acc+10000*AC.length<=900000000 ->
 oA F f (g,e4) (t.Aa,e5) (u.Aa,e6) k acc AB.length=some (.inl (acc+spN (aZ p) (tkO t) AC AB.length)):=by
 induction AC with
 | nil=>
  intro AB k acc he hk _ _ _ _;obtain _ | k:=k
  ·omega
  rw [oA,he,a2c (by simp),spN,Int.add_zero]
 | cons e AC ih=>
  intro AB k acc he hk hB hC h0 hA;obtain _ | k:=k
  ·omega
  simp only [a0S]at hk hB hA;have hi:idx f.AD (AB.length:Int)=some e:=by rw [he];exact aX _ _ _
  obtain⟨x,y,yg,lf,lg,A,A',hs,l1,l2⟩:=hC AB.length (by omega) (by rw [he];exact aV _ _ _)
  have ee:=A.fy;rw [hi]at ee;cases ee
  have eu:=hU _ x A'.px;rw [A'.tt]at eu;have eu:=a1T eu;have ht:tkO t AB.length=pick lf e.AM:=by rw [tkO,A.tt];rfl
  have t1:=A.tn;have t2:=A'.tn;have p1:e.AM.length<=1000000:=by omega
  have p2:yg.AM.length<=1000000:=by omega
  have q1:=aAB (l:=lf) (a:=e.AM);have q2:=aAB (l:=lg) (a:=yg.AM);have sub:∀ j∈pick lg yg.AM,j∈pick lf e.AM:=by
   rw [eu];split
   ·rename_i tb;exact A.want tb
   ·intro j hj;cases hj
  have cnt:((pick lf e.AM).length:Int) - (pick lg yg.AM).length=if cS e.Op=true then(sp1 (aZ p AB.length) (tkO t AB.length):Int) else 0:=by
   rw [eu,A.op,ht];by_cases tb:cS x.Op=true
   ·rw [a2d tb,a2d tb,aCU (hws _ x A.px) A.srt (A.want tb)];omega
   ·rw [a2c tb,a2c tb,(A.no.resolve_left tb)];rfl
  have c0:0<=((pick lf e.AM).length:Int) - (pick lg yg.AM).length:=by
   rw [cnt];split <;> omega
  rw [oA,a2d (by rw [he];exact aV _ _ _)];dsimp only
  rw [A.tl,bsm,hi,bsm,aGK p1 A.tb,bsm,A'.tl,bsm,A'.fy,bsm,aGK p2 A'.tb,bsm];dsimp only
  rw [a0o,a1X,a1X,aCz (by omega) (by omega) sub,bsm,a0o,a1X,bsm,bsm,aCz (by omega) (by omega) hs,bsm,a1Y,aM (by omega),bsm,aM (by omega),bsm,aM (by omega),bsm,spN,<- cnt,aU AB e,
   ih (AB++[e]) k _ (by rw [he];simp) (by omega) (by simp;omega) hC (by omega) (by omega)]
  congr 2;omega
theorem aJR {f:AE} (hm:SmF f):aBb F f=some true:=by
 have hk:aA9=some true:=rfl
 unfold aBb
 rw [show(⟨f.AH,f.AM,f.AD,f.AF,f.AG⟩:AE)=f from rfl]
 cases ha:fV false f with
 | none=>
  rw [aI5 hm ha,bsm,a2d (by decide)];dsimp only
  rw [aJf,bsm,a1Y,hk,bsm,bsm]
 | some t=>
  have hs:∃ vs,dZ (bM f t)=some vs/\InvF f t/\t.nd.length=f.AD.length/\t.Aa.length=f.AD.length:=by
   have ha':=ha;unfold fV at ha';obtain⟨t0,h1,h2⟩:=bind_some ha';split at h2
   ·rename_i hk;cases h2;obtain⟨vs,hvs⟩:=Option.isSome_iff_exists.1 hk;have hi:=aDb h1;refine⟨vs,hvs,hi.1,hi.2,?_⟩;unfold oU at h1;split at h1
    ·exact(pW h1 uC).Aa
    ·cases h1
   ·cases h2
  obtain⟨vs,hc,i1,i2,i3⟩:=hs;obtain⟨rk,fm⟩:=fm_of hc;have C:Cx (bM f t) vs rk:=⟨aEd hm i1 i2,hc,fm⟩;obtain⟨u,hb,hob,hut⟩:=C.back;obtain⟨hv,hall,bf,_,htl⟩:=ans_bw ha C;have C':Cx (bM (dU (bM f t)) u) vs rk:=by rw [hob];exact C
  obtain⟨_,_,bg,hul,_⟩:=ans_bw hb C';rw [hob]at bg;have hgl:(dU (bM f t)).AD.length=f.AD.length:=by rw [aHQ];exact i2
  rw [hgl]at bg;obtain⟨x,K,hr,N⟩:=C.main;have h12:=fm.f12;have h60:f.AD.length<=60:=by rw [<- i2];exact fm.n60
  have hnl:=N.len;have hfree:((bM f t).AH.length:Int)=f.AH.length:=rfl;have hmain:(bM f t).AG=f.AG:=rfl;rw [hmain]at hnl N K;have root:∃ y,At (bM f t) f t f.AG f.AM x y/\Lo (bM f t) f.AM f.AG f.AH.length:=by
   have h0:0<f.AD.length:=by
    have:=dF K.g.node
    have:((bM f t).AD.length:Int)=f.AD.length:=by rw [show(bM f t).AD=t.nd from rfl,i2]
    omega
   obtain⟨k,hk⟩:∃ k,f.AD.length=k+1:=⟨f.AD.length - 1,by omega⟩
   rw [hk,Bw]at bf;obtain⟨x',y,A,L,_⟩:=bf;have e:=A.px;rw [K.g.node]at e;cases e
   exact⟨y,A,L⟩
  obtain⟨y0,_,L0⟩:=root;have hC:=cmp C hut f.AD.length (start (bM f t)) f.AG f.AH.length vs x f.AM (bB (bM f t) f.AG) hv K bf bg L0.has;have hC:∀ i,0<=i->i<(f.AD.length:Int)->Cm (bM f t) f t (dU (bM f t)) u i:=fun i h0 hi=>hC i (hall i h0 hi)
  have len1:∀ l∈t.Aa,l.length<=400000000:=fun l hl=>by
   obtain⟨j,hj⟩:=a1h.1 hl;have hj:=iP hj;have hjl:=dF hj;obtain⟨x,y,yg,lf,lg,A,A',_,l1,l2⟩:=hC j hjl.1 (by rw [<- i3];exact hjl.2)
   have e:=A.tl;rw [hj]at e;cases e
   omega
  have hu3:u.Aa.length=f.AD.length:=by
   unfold fV at hb;obtain⟨t0,h1,h2⟩:=bind_some hb;split at h2
   ·cases h2;unfold oU at h1;split at h1
    ·rw [<- hgl];exact(pW h1 uC).Aa
    ·cases h1
   ·cases h2
  have len2:∀ l∈u.Aa,l.length<=400000000:=fun l hl=>by
   obtain⟨j,hj⟩:=a1h.1 hl;have hj:=iP hj;have hjl:=dF hj;obtain⟨x,y,yg,lf,lg,A,A',_,l1,l2⟩:=hC j hjl.1 (by rw [<- hu3];exact hjl.2)
   have e:=A'.tl;rw [hj]at e;cases e
   omega
  have hsp:=spare_S hm ha C h60 (by omega) (by omega) (tk:=tkO t) (fun i y hi hty=>by
   have hil:=dF hi;obtain⟨x,y',yg,lf,lg,A,A',_,l1,l2⟩:=hC i hil.1 hil.2;obtain⟨_,x',z,G,h6⟩:=fm.good i hil.1 (by rw [show(bM f t).AD=t.nd from rfl,i2];exact hil.2)
   have hw:=C.want_len ⟨G,h6⟩;have e:tkO t i=pick lf y'.AM:=by rw [tkO,A.tt];rfl
   have tn:=A.tn;exact⟨by rw [e];exact A.tt,by omega,by rw [e,aAB];omega⟩) i2
  have hlp:=aKS (p:=bM f t) (f:=f) (g:=dU (bM f t)) (t:=t) (u:=u) (e4:=0) (e5:=0) (e6:=0) hut (fun i x hi=>by
   have hil:=dF hi;obtain⟨_,x',z,G,h6⟩:=fm.good i hil.1 hil.2;exact(C.isWant ⟨G,h6⟩).1) f.AD [] F ((f.AM.length:Int) - (bB (bM f t) f.AG).length) rfl (by show _<1000000000;omega) (by simp;omega) hC (by
    have:=aCU N.is.1 L0.srt L0.has;omega) (by omega)
  simp only [a0W,a0q]at hlp;rw [open_S hm ha,bsm,a2c (by simp)];dsimp only
  rw [show(⟨(bM f t).AH,(bM f t).AD,(bM f t).AF,(bM f t).AG⟩:AI)=bM f t from rfl,flat_S C,bsm,aFB hm ha (by omega) len1,bsm];dsimp only
  rw [show(⟨(dU (bM f t)).AH,(dU (bM f t)).AM,(dU (bM f t)).AD,(dU (bM f t)).AF,(dU (bM f t)).AG⟩:AE)=dU (bM f t)from rfl,aFB C.smF hb (by omega) len2,bsm,hsp,bsm,a2c (by simp),a2c (by simp),a2c (by simp),a2c (by simp),a2c (by rw [i3];simp),a2c (by rw [hu3];simp),a2c (by rw [hgl];simp),
   aCz (a:=(dU (bM f t)).AM) (b:=f.AM) (by show(bB (bM f t) f.AG).length<=_;omega) (by omega) L0.has,bsm,a1Y,show(dU (bM f t)).AM=bB (bM f t) f.AG from rfl,aM (by omega),bsm,hlp,bsm]
  dsimp only
  rw [a2d (by rw [aCU N.is.1 L0.srt L0.has];omega),hk,bsm,bsm]
open Go.SX Go.SW
theorem aJJ {W:World} {a:Addr} {c:Value} (h:W.cell? a=some c):(jA W).cell a=some c:=by
 unfold World.cell? at h
 unfold Mem.cell tG jA
 cases hb:W.heap[a.block]? with
 | none=>rw [hb]at h;cases h
 | some o=>
  rw [hb]at h;cases o with
  | cells c t fr=>
   dsimp only at h ⊢
   first
    | exact h
    | (cases hs:a.spot with
       | none=>rw [hs]at h;simpa using h
       | some s=>rw [hs]at h;simp at h)
  | _=>cases h
theorem aF3 {H:Type} {d:DataW H} {l:List (DataW H)} (h:d∈l):Rows.uptoBulk d<=Rows.uptoBulkAll l:=by
 induction l with
 | nil=>cases h
 | cons x r ih=>
  simp only [Rows.uptoBulkAll];cases h with
  | head=>omega
  | tail _ e=>have:=ih e;omega
theorem bulk_one {H:Type} (d:DataW H):1<=Rows.uptoBulk d:=by
 cases d with
 | lit l=>cases l <;> simp [Rows.uptoBulk]
 | _=>simp [Rows.uptoBulk]
section
variable {H:Type} {enc:TypeId × Value->H} {P:Program} {W:World}
def Rd (enc:TypeId × Value->H) (P:Program) (W:World) (n:Nat) {α:Type} (T:Ty α) (t:TypeId) (μ:α->Nat) (S:α->Prop):Prop:=
 ∀ cs x,DataW.trod enc P W 0 (fun _=>true) true n t cs=some x->Rows.uptoBulk x.1<=1048576->∃ a,aT (T.Al a) (jA W) cs/\μ a<=Rows.uptoBulk x.1/\S a
def RdF (enc:TypeId × Value->H) (P:Program) (W:World) (n:Nat) (fs:List Field) (o e:Nat) {β:Type} (L:β->List AJ) (μ:β->Nat) (S:β->Prop):Prop:=
 ∀ (cs:List Value) xs,cs.length=e->(fs.mapM fun f=>DataW.trod enc P W 0 (fun _=>true) true n f.type ((cs.drop f.offset).take (P.cellsOf f.type)))=some xs->Rows.uptoBulkAll (xs.map (·.1))<=1048576->∃ b,aT (L b) (jA W) (cs.drop o)/\μ b<=Rows.uptoBulkAll (xs.map (·.1))/\S b
theorem oO {α:Type} {T:Ty α} {t:TypeId} {μ:α->Nat} {S:α->Prop}:Rd enc P W 0 T t μ S:=fun cs x h=>by cases h
theorem qT {n e:Nat}:RdF enc P W n [] e e (β:=Unit) (fun _=>[]) (fun _=>0) (fun _=>True):=fun cs xs hl h hb=>⟨(),by rw [a0y (by omega)];rfl,a1P _,trivial⟩
theorem aFa {α β:Type} {f:α->Option β} {x:α} {l:List α} {ys:List β} (h:(x :: l).mapM f=some ys):∃ y r,f x=some y/\l.mapM f=some r/\ys=y :: r:=by
 rw [List.mapM_cons]at h
 cases hx:f x with
 | none=>rw [hx]at h;cases h
 | some y=>
  cases hl:l.mapM f with
  | none=>rw [hx,hl]at h;cases h
  | some r=>rw [hx,hl]at h;cases h;exact⟨y,r,rfl,rfl,rfl⟩
theorem eF {n o e:Nat} {f:Field} {fs:List Field} {α β:Type} {T:Ty α} {μ:α->Nat} {S:α->Prop} {L:β->List AJ} {ν:β->Nat} {R:β->Prop} (h:Rd enc P W n T f.type μ S) (ho:f.offset=o) (hz:P.cellsOf f.type=T.sz) (k:RdF enc P W n fs (o+T.sz) e L ν R):
 RdF enc P W n (f :: fs) o e (fun x:α × β=>T.Al x.1++L x.2) (fun x=>μ x.1+ν x.2) (fun x=>S x.1/\R x.2):=fun cs xs hl hm hb=>by
 obtain⟨y,r,h1,h2,rfl⟩:=aFa hm
 simp only [a1a,Rows.uptoBulkAll]at hb
 obtain⟨a,a1,a2,a3⟩:=h _ _ h1 (by omega)
 obtain⟨b,b1,b2,b3⟩:=k cs r hl h2 (by omega)
 refine⟨(a,b),?_,by simp only [a1a,Rows.uptoBulkAll];omega,a3,b3⟩
 have:=a1.append b1
 rw [ho,hz,<- List.drop_drop,List.take_append_drop]at this
 exact this
theorem qG {n e:Nat} {α β:Type} {T:Ty α} {t:TypeId} {fs:Array Field} {μ:α->Nat} {S:α->Prop} {L:β->List AJ} {ν:β->Nat} {R:β->Prop} (mk:β->α) (ht:P.underlying t=some (.struct fs)) (hc:P.cellsOf t=e) (k:RdF enc P W n fs.toList 0 e L ν R)
 (hL:∀ b,T.Al (mk b)=L b) (hμ:∀ b,μ (mk b)<=ν b+1) (hS:∀ b,R b->ν b+1<=1048576->S (mk b)):Rd enc P W (n+1) T t μ S:=fun cs x h hb=>by
 rw [DataW.trod_step]at h
 unfold DataW.trodStep at h
 rw [ht]at h
 dsimp only at h
 split at h
 ·rename_i hcs;cases hm:(fs.toList.mapM fun f=>DataW.trod enc P W 0 (fun _=>true) true n f.type ((cs.drop f.offset).take (P.cellsOf f.type)))with
  | none=>rw [hm]at h;cases h
  | some xs=>
   rw [hm]at h;cases h;simp only [Rows.uptoBulk]at hb;obtain⟨b,b1,b2,b3⟩:=k cs xs (by omega) hm (by omega)
   rw [List.drop_zero]at b1;have:=hμ b;refine⟨mk b,by rw [hL];exact b1,by simp only [Rows.uptoBulk];omega,hS b b3 (by omega)⟩
 ·cases h
theorem rd_int {n:Nat} {t:TypeId} {k:IntKind} (ht:P.underlying t=some (.int k)):Rd enc P W n (cP k) t (fun _=>1) (fun i=>(Lit.int k i).wf=true):=fun cs x h hb=>by
 obtain _ | n:=n
 ·cases h
 rw [DataW.trod_step]at h
 unfold DataW.trodStep at h
 rw [ht]at h
 match cs,h with
 | [.int k' i],h=>
  dsimp only at h
  split at h
  ·rename_i hc;obtain⟨rfl,hw⟩:=hc;cases h;exact⟨i,⟨_,[],rfl,rfl,rfl⟩,a1G _,hw⟩
  ·cases h
theorem rd_str {n:Nat} {t:TypeId} (ht:P.underlying t=some .string):Rd enc P W n aL t (fun s=>s.size+1) (fun s=>s.size<=1048576):=fun cs x h hb=>by
 obtain _ | n:=n
 ·cases h
 rw [DataW.trod_step]at h
 unfold DataW.trodStep at h
 rw [ht]at h
 match cs,h with
 | [.string s],h=>
  dsimp only at h
  split at h
  ·cases h;have e:s.data.toList.length=s.size:=rfl;simp only [Rows.uptoBulk]at hb;exact⟨s,⟨_,[],rfl,rfl,rfl⟩,by simp only [Rows.uptoBulk];omega,by omega⟩
  ·cases h
def msum {α:Type} (μ:α->Nat):List α->Nat
 | []=>0
 | a :: l=>μ a+msum μ l
theorem aFy {α:Type} {f:Nat->Option α} {n:Nat} {l:List α} (h:(List.range n).mapM f=some l):l.length=n/\∀ i,i<n->∃ y,l[i]? =some y/\f i=some y:=by
 have g:∀ (ks:List Nat) (l:List α),ks.mapM f=some l->l.length=ks.length/\∀ (i k:Nat),ks[i]? =some k->∃ y,l[i]? =some y/\f k=some y:=fun ks=>by
  induction ks with
  | nil=>intro l h;cases h;exact⟨rfl,fun i k h=>by simp at h⟩
  | cons k ks ih=>
   intro l h;obtain⟨y,r,h1,h2,rfl⟩:=aFa h;obtain⟨a,b⟩:=ih r h2;refine⟨by simp [a],fun i q hq=>?_⟩
   cases i with
   | zero=>simp at hq;subst hq;exact⟨y,rfl,h1⟩
   | succ i=>exact b i q (by simpa using hq)
 obtain⟨a,b⟩:=g _ _ h
 exact⟨by simpa using a,fun i hi=>b i i (by simp [hi])⟩
theorem aI7 {W:World} {b z:Nat} {a:Addr} {cs:List Value} (h:W.cells? b a z=some cs):∀ (j:Nat) c,cs[j]? =some c->W.cell? (a.add j)=some c:=by
 unfold World.cells? at h
 split at h
 ·obtain⟨h1,h2⟩:=aFy h;intro j c hj;have:=(a0K.1 hj).1;obtain⟨y,y1,y2⟩:=h2 j (by omega)
  rw [hj]at y1;cases y1;exact y2
 ·cases h
theorem aFV {α γ:Type} {Q:γ->α->Prop}:∀ (l:List γ),(∀ c∈l,∃ a,Q c a)->∃ r:List α,r.length=l.length/\∀ (i:Nat) c,l[i]? =some c->∃ a,r[i]? =some a/\Q c a
 | [],_=>⟨[],rfl,fun i c h=>by simp at h⟩
 | c :: l,h=>by
  obtain⟨a,ha⟩:=h c (.head _);obtain⟨r,h1,h2⟩:=aFV l (fun c hc=>h c (.tail _ hc))
  refine⟨a :: r,by simp [h1],fun i q hq=>?_⟩
  cases i with
  | zero=>simp at hq;subst hq;exact⟨a,rfl,ha⟩
  | succ i=>exact h2 i q (by simpa using hq)
theorem aEK {α:Type} {μ:α->Nat}:∀ {r:List α} {ds:List (DataW H)},r.length=ds.length->(∀ (i:Nat) d a,ds[i]? =some d->r[i]? =some a->μ a<=Rows.uptoBulk d)->msum μ r<=Rows.uptoBulkAll ds/\r.length<=Rows.uptoBulkAll ds
 | [],[],_,_=>⟨a1P _,a1P _⟩
 | a :: r,d :: ds,hl,h=>by
  obtain⟨h1,h2⟩:=aEK (r:=r) (ds:=ds) (by simpa using hl) (fun i d a hd ha=>h (i+1) d a (by simpa using hd) (by simpa using ha))
  have:=h 0 d a rfl rfl;have:=bulk_one d;simp only [msum,Rows.uptoBulkAll,a0S];omega
theorem rd_sl {n:Nat} {t e:TypeId} {α:Type} {T:Ty α} {μ:α->Nat} {S:α->Prop} (ht:P.underlying t=some (.slice e)) (hz:P.cellsOf e=T.sz) (h:Rd enc P W n T e μ S):Rd enc P W (n+1) (tSl T) t (fun l=>msum μ l+1) (fun l=>l.length<=1048576/\∀ a∈l,S a):=fun cs x hx hb=>by
 rw [DataW.trod_step]at hx
 unfold DataW.trodStep at hx
 rw [ht]at hx
 match cs,hx with
 | [.slice none 0 0],hx=>
  cases hx;exact⟨[],⟨_,[],rfl,cW (jA W) _ rfl,rfl⟩,a1G _,by simp,fun a ha=>by cases ha⟩
 | [.slice (some p) len cap],hx=>
  dsimp only at hx
  split at hx
  ·rename_i hc;cases h1:((List.range len).mapM fun i=>(W.cells? 0 (p.add (i*P.cellsOf e)) (P.cellsOf e)).bind (DataW.trod enc P W 0 (fun _=>true) true n e))with
   | none=>rw [h1]at hx;cases hx
   | some es=>
    rw [h1]at hx;obtain⟨rest,_,rfl⟩:=a1R.1 hx;obtain⟨l1,l2⟩:=aFy h1;simp only [Rows.uptoBulk]at hb;have each:∀ y∈es,∃ a,(μ a<=Rows.uptoBulk y.1/\S a)/\∀ i cs',W.cells? 0 (p.add (i*P.cellsOf e)) (P.cellsOf e)=some cs'->DataW.trod enc P W 0 (fun _=>true) true n e cs'=some y->True:=fun y hy=>by
     obtain⟨i,hi,rfl⟩:=List.mem_iff_getElem.1 hy;obtain⟨y,y1,y2⟩:=l2 i (by omega)
     obtain⟨cs',c1,c2⟩:=Option.bind_eq_some_iff.1 y2;have e1:es[i]=y:=by rw [a0I hi]at y1;exact a1T y1
     have m1:Rows.uptoBulk y.1<=Rows.uptoBulkAll (es.map (·.1)):=aF3 (a1j (by rw [<- e1];exact List.getElem_mem _))
     obtain⟨a,a1,a2,a3⟩:=h _ _ c2 (by omega)
     exact⟨a,⟨by rw [e1];exact a2,a3⟩,fun _ _ _ _=>trivial⟩
    have each2:∀ i∈List.range len,∃ a,(∃ y,es[i]? =some y/\μ a<=Rows.uptoBulk y.1)/\S a/\T.at (jA W) (p.add (i*T.sz)) a:=fun i hi=>by
     obtain⟨y,y1,y2⟩:=l2 i (by simpa using hi)
     obtain⟨cs',c1,c2⟩:=Option.bind_eq_some_iff.1 y2;have m1:Rows.uptoBulk y.1<=Rows.uptoBulkAll (es.map (·.1)):=aF3 (a1j (a1k y1));obtain⟨a,a1,a2,a3⟩:=h _ _ c2 (by omega)
     exact⟨a,⟨y,y1,a2⟩,a3,cs',a1,fun j c hj=>by rw [<- hz];exact aJJ (aI7 c1 j c hj)⟩
    obtain⟨r,r1,r2⟩:=aFV (List.range len) each2;have rl:r.length=len:=by simpa using r1
    have r3:∀ i,i<len->∃ a,r[i]? =some a/\(∃ y,es[i]? =some y/\μ a<=Rows.uptoBulk y.1)/\S a/\T.at (jA W) (p.add (i*T.sz)) a:=fun i hi=>r2 i i (by simp [hi])
    obtain⟨m1,m2⟩:=aEK (μ:=μ) (r:=r) (ds:=es.map (·.1)) (by simp [rl,l1]) (fun i d a hd ha=>by
     obtain⟨a',a1,⟨y,y1,y2⟩,_⟩:=r3 i (by have:=(a0K.1 ha).1;omega)
     rw [ha]at a1;cases a1
     rw [a0L,y1]at hd;cases hd
     exact y2)
    refine⟨r,⟨_,[],rfl,⟨fun i=>p.add (i*T.sz),⟨some p,cap,by rw [rl],by rw [rl];exact hc.2.1,fun i _=>⟨p,rfl,rfl⟩⟩,by omega,fun i a ha=>?_⟩,rfl⟩,by simp only [Rows.uptoBulk];omega,by omega,fun a ha=>?_⟩
    ·obtain⟨a',a1,_,_,a2⟩:=r3 i (by have:=(a0K.1 ha).1;omega)
     rw [ha]at a1;cases a1;exact a2
    ·obtain⟨i,hi,rfl⟩:=List.mem_iff_getElem.1 ha;obtain⟨a',a1,_,a2,_⟩:=r3 i (by omega)
     rw [a0I hi]at a1;cases a1;exact a2
  ·cases hx
theorem Rd.mono {n:Nat} {α:Type} {T:Ty α} {t:TypeId} {μ ν:α->Nat} {S R:α->Prop} (h:Rd enc P W n T t μ S) (hμ:∀ a,ν a<=μ a) (hS:∀ a,S a->μ a<=1048576->R a):Rd enc P W n T t ν R:=fun cs x hx hb=>by
 obtain⟨a,a1,a2,a3⟩:=h cs x hx hb
 exact⟨a,a1,a1H (hμ a) a2,hS a a3 (by omega)⟩
theorem arg_st {α:Type} {T:Ty α} {t:TypeId} {μ:α->Nat} {S:α->Prop} {fs:Array Field} {r:Reach} {b0:Nat} {v:Value} {d:DataW H} {ps:List MemPlace} (h:∀ n,Rd enc P W n T t μ S) (ht:P.underlying t=some (.struct fs)) (hval:Value.okWide P W r b0 t v)
 (hd:DataW.Trod enc P W 0 (fun _=>true) true t v d ps) (hb:Rows.uptoBulk d<=1048576):∃ a,(fSt T a).p (jA W) v/\S a:=by
 unfold Value.okWide at hval
 rw [ht]at hval
 obtain⟨cs,rfl,_⟩:=hval
 obtain⟨n,hn⟩:=hd
 obtain⟨a,a1,_,a2⟩:=h n _ _ hn hb
 exact⟨a,⟨cs.toList,by simp,a1⟩,a2⟩
end
open Go.SX Go.SW Go.Dt
section
variable {H:Type} {enc:TypeId × Value->H} {W:World}
abbrev RdP (enc:TypeId × Value->H) (W:World) (n:Nat) {α:Type} (T:Ty α) (t:TypeId) (μ:α->Nat) (S:α->Prop):Prop:=Rd enc Tryz.prog W n T t μ S
theorem iG (n:Nat) {t:TypeId} (ht:Tryz.prog.underlying t=some (.int .i64)):RdP enc W n (cP .i64) t (fun _=>1) (fun _=>True):=(rd_int ht).mono (fun _=>a1G _) (fun _ _ _=>trivial)
theorem qC {n:Nat} {t e:TypeId} {α:Type} {T:Ty α} {μ:α->Nat} {S:α->Prop} (ht:Tryz.prog.underlying t=some (.slice e)) (hz:Tryz.prog.cellsOf e=T.sz) (h:∀ k,RdP enc W k T e μ S):RdP enc W n (tSl T) t (fun l=>msum μ l+1) (fun l=>l.length<=1048576/\∀ a∈l,S a):=by
 cases n with
 | zero=>exact oO
 | succ n=>exact rd_sl ht hz (h n)
theorem aBk (n:Nat) {t e:TypeId} (ht:Tryz.prog.underlying t=some (.slice e)) (he:Tryz.prog.underlying e=some (.int .i64)) (hz:Tryz.prog.cellsOf e=1):RdP enc W n (tSl (cP .i64)) t (fun _=>0) (fun l=>l.length<=1048576):=
 (qC ht hz (fun k=>iG k he)).mono (fun _=>a1P _) (fun _ h _=>h.1)
theorem xV:∀ l:List AT,nL l=msum nE l
 | []=>rfl
 | a :: l=>by simp only [nL,msum,xV l]
theorem aG5 (a b:Int) (c:List AT):aN.Al ⟨a,b,c⟩=[aW .i64 a,aW .i64 b,fSl aN c]:=by
 show [_,_,dK c]=_
 rw [iB]
theorem rd_exp:∀ n:Nat,RdP enc W n aN 71 nE (fun e=>nE e<=1048576)
 | 0=>oO
 | 1=>fun cs x h hb=>(qG (μ:=nE) (S:=fun e=>nE e<=1048576) (T:=aN) (fun b:Int × Int × List AT × Unit=>⟨b.1,b.2.1,b.2.2.1⟩) Tryz.underlying71 (e:=3) (by kernel_rfl)
  (eF (iG 0 Tryz.underlying69) rfl (by kernel_rfl) (eF (iG 0 Tryz.underlying3) rfl (by kernel_rfl) (eF (T:=tSl aN) (μ:=fun l=>msum nE l+1) (S:=fun _=>True) oO rfl (by kernel_rfl) qT)))
  (fun b=>aG5 b.1 b.2.1 b.2.2.1) (fun b=>by simp only [nE,xV];omega) (fun b _ hb=>by simp only [nE,xV]at *;omega)) cs x h hb
 | n+2=>fun cs x h hb=>(qG (μ:=nE) (S:=fun e=>nE e<=1048576) (T:=aN) (fun b:Int × Int × List AT × Unit=>⟨b.1,b.2.1,b.2.2.1⟩) Tryz.underlying71 (e:=3) (by kernel_rfl)
  (eF (iG _ Tryz.underlying69) rfl (by kernel_rfl) (eF (iG _ Tryz.underlying3) rfl (by kernel_rfl) (eF (rd_sl Tryz.underlying52 (by kernel_rfl) (rd_exp n)) rfl (by kernel_rfl) qT)))
  (fun b=>aG5 b.1 b.2.1 b.2.2.1) (fun b=>by simp only [nE,xV];omega) (fun b _ hb=>by simp only [nE,xV]at *;omega)) cs x h hb
theorem aJB:∀ n:Nat,RdP enc W n bX 135 (fun _=>0) (fun _=>True)
 | 0=>oO
 | n+1=>qG (T:=bX) (fun b:Int × Int × Unit=>⟨b.1,b.2.1⟩) Tryz.underlying135 (e:=2) (by kernel_rfl)
  (eF (iG n Tryz.underlying3) rfl (by kernel_rfl) (eF (iG n Tryz.underlying3) rfl (by kernel_rfl) qT))
  (fun _=>rfl) (fun _=>a1P _) (fun _ _ _=>trivial)
theorem aJm:∀ n:Nat,RdP enc W n bQ 84 (fun _=>0) (fun _=>True)
 | 0=>oO
 | n+1=>qG (T:=bQ) (fun b:Int × Int × Unit=>⟨b.1,b.2.1⟩) Tryz.underlying84 (e:=2) (by kernel_rfl)
  (eF (iG n Tryz.underlying3) rfl (by kernel_rfl) (eF (iG n Tryz.underlying3) rfl (by kernel_rfl) qT))
  (fun _=>rfl) (fun _=>a1P _) (fun _ _ _=>trivial)
theorem aJD:∀ n:Nat,RdP enc W n bF 81 (fun _=>0) (fun x=>x.Ab.length<=2000000)
 | 0=>oO
 | n+1=>qG (T:=bF) (fun b:Int × List Int × Int × Unit=>⟨b.1,b.2.1,b.2.2.1⟩) Tryz.underlying81 (e:=3) (by kernel_rfl)
  (eF (iG n Tryz.underlying3) rfl (by kernel_rfl) (eF (aBk n Tryz.underlying27 Tryz.underlying3 (by kernel_rfl)) rfl (by kernel_rfl) (eF (iG n Tryz.underlying3) rfl (by kernel_rfl) qT)))
  (fun _=>rfl) (fun _=>a1P _) (fun b h _=>by have:=h.2.1;show b.2.1.length<=_;omega)
theorem aJu:∀ n:Nat,RdP enc W n aE 77 (fun _=>0) (smD)
 | 0=>oO
 | n+1=>qG (T:=aE) (fun b:List An × List Am × List Ai × Unit=>⟨b.1,b.2.1,b.2.2.1⟩) Tryz.underlying77 (e:=3) (by kernel_rfl)
  (eF (qC Tryz.underlying73 (by kernel_rfl) aJB) rfl (by kernel_rfl) (eF (qC Tryz.underlying74 (by kernel_rfl) aJm) rfl (by kernel_rfl) (eF (qC Tryz.underlying75 (by kernel_rfl) aJD) rfl (by kernel_rfl) qT)))
  (fun _=>rfl) (fun _=>a1P _) (fun b h _=>⟨by have:=h.1.1;show b.1.length<=_;omega,by have:=h.2.1.1;show b.2.1.length<=_;omega,by have:=h.2.2.1.1;show b.2.2.1.length<=_;omega,h.2.2.1.2⟩)
theorem aJ5:∀ n:Nat,RdP enc W n bH 54 (fun _=>0) (fun x=>(x.AW.length<=2000000/\x.AO.length<=2000000/\∀ e∈x.AW,nE e<=2000000)/\x.AM.length<=2000000)
 | 0=>oO
 | n+1=>qG (T:=bH) (fun b:Int × Int × List AT × List Int × List Int × Unit=>⟨b.1,b.2.1,b.2.2.1,b.2.2.2.1,b.2.2.2.2.1⟩) Tryz.underlying54 (e:=5) (by kernel_rfl)
  (eF (iG n Tryz.underlying51) rfl (by kernel_rfl) (eF (iG n Tryz.underlying3) rfl (by kernel_rfl) (eF (qC Tryz.underlying52 (by kernel_rfl) rd_exp) rfl (by kernel_rfl) (eF (aBk n Tryz.underlying27 Tryz.underlying3 (by kernel_rfl)) rfl (by kernel_rfl) (eF (aBk n Tryz.underlying27 Tryz.underlying3 (by kernel_rfl)) rfl (by kernel_rfl) qT)))))
  (fun _=>rfl) (fun _=>a1P _) (fun b h _=>⟨⟨by have:=h.2.2.1.1;show b.2.2.1.length<=_;omega,by have:=h.2.2.2.1;show b.2.2.2.1.length<=_;omega,fun e he=>a1H (h.2.2.1.2 e he) (by omega)⟩,by have:=h.2.2.2.2.1;show b.2.2.2.2.1.length<=_;omega⟩)
theorem aIr:∀ n:Nat,RdP enc W n lF 30 (fun _=>0) (SmF)
 | 0=>oO
 | n+1=>qG (T:=lF) (fun b:List ByteArray × List Int × List Ah × List AN × Int × Unit=>⟨b.1,b.2.1,b.2.2.1,b.2.2.2.1,b.2.2.2.2.1⟩) Tryz.underlying30 (e:=5) (by kernel_rfl)
  (eF (qC (S:=fun s:ByteArray=>s.size<=1048576) Tryz.underlying22 (by kernel_rfl) (fun k=>(rd_str (n:=k) Tryz.underlying9))) rfl (by kernel_rfl) (eF (aBk n Tryz.underlying27 Tryz.underlying3 (by kernel_rfl)) rfl (by kernel_rfl) (eF (qC Tryz.underlying28 (by kernel_rfl) aJ5) rfl (by kernel_rfl) (eF (qC Tryz.underlying24 (by kernel_rfl) aJu) rfl (by kernel_rfl) (eF (iG n Tryz.underlying3) rfl (by kernel_rfl) qT)))))
  (fun _=>rfl) (fun _=>a1P _) (fun b h _=>⟨by have:=h.2.2.1.1;show b.2.2.1.length<=_;omega,by have:=h.2.2.2.1.1;show b.2.2.2.1.length<=_;omega,by have:=h.1.1;show b.1.length<=_;omega,fun x hx=>a1H (h.1.2 x hx) (by omega),fun x hx=>(h.2.2.1.2 x hx).1,fun x hx=>(h.2.2.1.2 x hx).2,h.2.2.2.1.2,by have:=h.2.1;show b.2.1.length<=_;omega⟩)
end
end Go.Proofs.YtgidgoahhepmlaaGreat
namespace Go.SW
open Go.SX
theorem aKa {w w':World} (h:w.keptBut w' (fun _=>False)) {p:MemPlace} (hp:p.block<w.heap.size):w.sameAt w' p:=by
 obtain⟨_,_,h⟩:=h
 cases p with
 | cell b off=>
  have:=h b hp;show w'.cell? _=w.cell? _
  unfold World.cell?
  dsimp only at *
  cases h1:w.heap[b]? with
  | none=>rw [h1]at this;dsimp only at this;rw [this]
  | some o=>
   rw [h1]at this;cases o with
   | cells c t fr=>
    cases h2:w'.heap[b]? with
    | none=>rw [h2]at this;cases this
    | some o'=>
     rw [h2]at this;cases o' with
     | cells c' t' fr'=>
      dsimp only at this ⊢
      rw [this.2.2.2 off (fun f=>f)]
     | _=>cases this
   | map es clock=>
    cases h2:w'.heap[b]? with
    | none=>rfl
    | some o'=>
     rw [h2]at this;cases o' with
     | cells=>cases this
     | _=>rfl
   | _=>dsimp only at this;rw [this]
 | map b=>
  have:=h b hp;show w'.heap[b]? =w.heap[b]?
  cases h1:w.heap[b]? with
  | none=>rw [h1]at this;exact this
  | some o=>
   rw [h1]at this;cases o with
   | cells c t fr=>
    cases h2:w'.heap[b]? with
    | none=>rw [h2]at this;cases this
    | some o'=>
     rw [h2]at this;cases o' with
     | cells c' t' fr'=>
      dsimp only at this
      obtain⟨rfl,rfl,hs,hc⟩:=this;have:c'=c:=Array.ext_getElem? fun j=>hc j (fun f=>f)
      rw [this]
     | _=>cases this
   | map es clock=>
    cases h2:w'.heap[b]? with
    | none=>rw [h2]at this;cases this
    | some o'=>
     rw [h2]at this;cases o' with
     | map es' clock'=>
      rcases this with f | ⟨rfl,rfl⟩
      ·exact f.elim
      ·rfl
     | _=>cases this
   | _=>exact this
theorem aGX {H:Type} {enc:TypeId × Value->H} {P:Program} {W W':World} (hl:laidOutB P=true) (hm:mapsRowed P=true) (hz:∀ t e,t<P.types.size->P.underlying t=some (.slice e)->0<P.cellsOf e) (hk:W.keptBut W' (fun _=>False)):
 ∀ {ts:List TypeId} {vs:List Value} {ds:List (DataW H)} {ps:List MemPlace},(∀ t∈ts,t<P.types.size)->DataW.TrodAll enc P W 0 (fun _=>true) true ts vs ds ps->DataW.TrodAll enc P W' 0 (fun b=>decide (b<W.heap.size)) true ts vs ds ps
 | [],[],[],_,_,h=>h
 | t :: _,_ :: _,_ :: _,ps,ht,h=>by
  have hlt:=h.lt;obtain⟨p,q,⟨n,hn⟩,h2,e⟩:=h;refine⟨p,q,⟨n,?_⟩,aGX hl hm hz hk (fun t h=>ht t (.tail _ h)) h2,e⟩
  have hp:∀ x∈p,x.block<W.heap.size:=fun x hx=>hlt x (by rw [e];exact a1d _ hx)
  exact DataW.trod_stays (kids_rows hl hm) (fun a b=>hz _ _ a b) (fun f=>by cases f) (ht t (.head _)) hn (fun x hx=>aKa hk (hp x hx)) (fun x hx=>a2a (hp x hx))
 | [],_ :: _,_,_,_,h=>h.elim
 | [],[],_ :: _,_,_,h=>h.elim
 | _ :: _,[],_,_,_,h=>h.elim
 | _ :: _,_ :: _,[],_,_,h=>h.elim
end Go.SW
