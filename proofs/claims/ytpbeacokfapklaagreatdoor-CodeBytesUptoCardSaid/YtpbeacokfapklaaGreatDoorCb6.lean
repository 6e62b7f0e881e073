/- Parts of the proof: lemmas, and the steps through the program. -/
import Derived.Test.YtpbeacokfapklaaGreatDoorCb5
import Derived.ReadAgain
import Derived.ChangeReads
import Derived.ChangeStays
import Derived.ChangeBears
set_option linter.unusedVariables false
set_option linter.unusedSimpArgs false
set_option maxRecDepth 100000
set_option maxHeartbeats 2000000
namespace Go.Proofs.YtpbeacokfapklaaGreatDoor
open Go.SX Go.SW Go.Dt
theorem sd1 {d:AO} (hl:d.AQ.length<=2000000):∀ (k n:Nat),n<=d.AQ.length->d.AQ.length - n<k->tL d d k (n:Int)=some (.inl ())
 | 0,_,_,hk=>by omega
 | k+1,n,hn,hk=>by
  rw [tL];by_cases g:n<d.AQ.length
  ·rw [a1H (by omega)];refine b1 (dO (a0B g)) ?_;refine b1 (dO (a0B g)) ?_;rw [a1F rfl,a1F rfl,Bool.and_self,a1D];refine b1 (aN (by omega)) ?_
   rw [show(n:Int)+1=((n+1:Nat):Int) by omega];exact sd1 hl k (n+1) (by omega) (by omega)
  ·rw [a1G (by omega)]
theorem sd2 {d:AO} (hl:d.AN.length<=2000000):∀ (k n:Nat),n<=d.AN.length->d.AN.length - n<k->tS d d k (n:Int)=some (.inl ())
 | 0,_,_,hk=>by omega
 | k+1,n,hn,hk=>by
  rw [tS];by_cases g:n<d.AN.length
  ·rw [a1H (by omega)];refine b1 (dO (a0B g)) ?_;refine b1 (dO (a0B g)) ?_;rw [a1F rfl,a1F rfl,Bool.and_self,a1D];refine b1 (aN (by omega)) ?_
   rw [show(n:Int)+1=((n+1:Nat):Int) by omega];exact sd2 hl k (n+1) (by omega) (by omega)
  ·rw [a1G (by omega)]
theorem sd4 {r:AZ} (hl:r.AX.length<=2000000):∀ (k n:Nat),n<=r.AX.length->r.AX.length - n<k->sA r r k (n:Int)=some (.inl ())
 | 0,_,_,hk=>by omega
 | k+1,n,hn,hk=>by
  rw [sA];by_cases g:n<r.AX.length
  ·rw [a1H (by omega)];refine b1 (dO (a0B g)) ?_;refine b1 (dO (a0B g)) ?_;rw [a1G (fun g=>g rfl)];refine b1 (aN (by omega)) ?_
   rw [show(n:Int)+1=((n+1:Nat):Int) by omega];exact sd4 hl k (n+1) (by omega) (by omega)
  ·rw [a1G (by omega)]
theorem sd3 {AA:Nat} {d:AO} (hf:3000000<=AA) (hl:d.AP.length<=2000000) (hj:∀ r∈d.AP,r.AX.length<=2000000):∀ (k n:Nat),n<=d.AP.length->d.AP.length - n<k->rY AA d d k (n:Int)=some (.inl ())
 | 0,_,_,hk=>by omega
 | k+1,n,hn,hk=>by
  rw [rY];by_cases g:n<d.AP.length
  ·rw [a1H (by omega)];have hr:=hj _ (a0H g);refine b1 (z:= .inl ()) ?_ ?_
   ·refine b1 (dO (a0B g)) ?_;refine b1 (dO (a0B g)) ?_;rw [a1G (fun g=>g rfl),a1G (fun g=>g rfl),a1G (fun g=>g rfl)];exact sd4 hr AA 0 (by omega) (by omega)
   refine b1 (aN (by omega)) ?_
   rw [show(n:Int)+1=((n+1:Nat):Int) by omega];exact sd3 hf hl hj k (n+1) (by omega) (by omega)
  ·rw [a1G (by omega)]
theorem sd_eq {AA:Nat} {d:AO} (hf:3000000<=AA) (hs:smD d):uZ AA d d=some true:=by
 obtain⟨s1,s2,s3,s4⟩:=hs
 rw [uZ,a1G (fun g=>g rfl),a1G (fun g=>g rfl),a1G (fun g=>g rfl)]
 refine b1 (sd1 s1 AA 0 (by omega) (by omega)) ?_
 refine b1 (sd2 s2 AA 0 (by omega) (by omega)) ?_
 exact b1 (sd3 hf s3 s4 AA 0 (by omega) (by omega)) rfl
theorem sds1 {AA:Nat} {l:List AO} (hf:3000000<=AA) (hl:l.length<=2000000) (hs:∀ d∈l,smD d):∀ (k n:Nat),n<=l.length->l.length - n<k->tF AA l l k (n:Int)=some (.inl ())
 | 0,_,_,hk=>by omega
 | k+1,n,hn,hk=>by
  rw [tF];by_cases g:n<l.length
  ·rw [a1H (by omega)];refine b1 (dO (a0B g)) ?_;refine b1 (dO (a0B g)) ?_;refine b1 (sd_eq hf (hs _ (a0H g))) ?_;rw [a1D];refine b1 (aN (by omega)) ?_
   rw [show(n:Int)+1=((n+1:Nat):Int) by omega];exact sds1 hf hl hs k (n+1) (by omega) (by omega)
  ·rw [a1G (by omega)]
theorem sc1 {c:AB} (hl:c.Code.length<=2000000):∀ (k n:Nat),n<=c.Code.length->c.Code.length - n<k->tT c c k (n:Int)=some (.inl ())
 | 0,_,_,hk=>by omega
 | k+1,n,hn,hk=>by
  rw [tT];by_cases g:n<c.Code.length
  ·rw [a1H (by omega)];refine b1 (dO (a0B g)) ?_;refine b1 (dO (a0B g)) ?_;rw [a1F rfl,a1F rfl,a1F rfl,Bool.and_self,Bool.and_self,a1D];refine b1 (aN (by omega)) ?_
   rw [show(n:Int)+1=((n+1:Nat):Int) by omega];exact sc1 hl k (n+1) (by omega) (by omega)
  ·rw [a1G (by omega)]
theorem aIv {AA:Nat} {c:AB} (hf:3000000<=AA) (hl:c.Code.length<=2000000) (hd:c.AD.length<=2000000) (hs:∀ d∈c.AD,smD d):qO AA c c=some true:=by
 rw [qO,a1G (fun g=>g rfl),a1G (fun g=>g rfl),a1G (fun g=>g rfl)]
 refine b1 (z:=true) ?_ ?_
 ·rw [aAc,a1G (fun g=>g rfl)];exact b1 (sds1 hf hd hs AA 0 (by omega) (by omega)) rfl
 rw [a1D]
 exact b1 (sc1 hl AA 0 (by omega) (by omega)) rfl
theorem sb_l:∀ (s t AC:Bs) (k:Nat),s.length=t.length->s.length<k->AC.length+s.length<=3000000->rP (AC++s) (AC++t) k (AC.length:Int)=some (if s=t then .inl () else .inr false)
 | s,t,AC,0,_,h,_=>by omega
 | [],[],AC,k+1,_,_,_=>by rw [rP,a1G (by simp),a1H rfl]
 | [],y :: t,_,_,h,_,_=>by cases h
 | x :: s,[],_,_,h,_,_=>by cases h
 | x :: s,y :: t,AC,k+1,h1,h2,h3=>by
  simp only [a0J]at h1 h2 h3;rw [rP,a1H (cI AC s x),bS,bsm,bS,bsm];by_cases c:x=y
  ·subst c;rw [a1G (fun h=>h rfl),aN (by omega),bsm,fF AC s,fF AC t,cK AC x,sb_l s t (AC++[x]) k (by omega) (by omega) (by simp;omega)];simp
  ·rw [a1H c,a1G (fun h=>c (List.cons.inj h).1)];rfl
theorem sb_eq {AA:Nat} (hf:4000000<=AA) {s t:Bs} (hs:s.length<=3000000):oM AA s t=some (decide (s=t)):=by
 rw [oM]
 by_cases h:s.length=t.length
 ·rw [a1G (by omega)];have:=sb_l s t [] AA h (by omega) (by simp;omega)
  refine b1 this ?_;by_cases c:s=t
  ·rw [a1H c,a1F c]
  ·rw [a1G c,a1E c]
 ·rw [a1H (by omega),a1E (fun e=>h (by rw [e]))]
theorem aCO {AA:Nat} {c:AB} (hf:4000000<=AA) (hl:c.Code.length<=12000) (hd:∀ d∈c.AD,smD d):(lB c/\kW AA c=some 0/\lZ AA c=some 0)\/(¬ lB c/\kW AA c=some 2/\lZ AA c=some 2):=by
 rcases aGh (AA:=AA) hf hl hd with⟨hF,x,e1,_,_⟩ | ⟨hF,e1⟩
 ·rcases aE5 (AA:=AA) hf hl hd with⟨_,lv,e2,_,_⟩ | ⟨g,_⟩
  ·exact .inl ⟨hF,by rw [kW];exact b1 e1 rfl,by rw [lZ];exact b1 e2 rfl⟩
  ·exact absurd hF g
 ·rcases aE5 (AA:=AA) hf hl hd with⟨g,_⟩ | ⟨_,e2⟩
  ·exact absurd g hF
  ·exact .inr ⟨hF,by rw [kW];exact b1 e1 rfl,by rw [lZ];exact b1 e2 rfl⟩
theorem aEJ:∀ {l:List Ab} {i:Nat},gN i l->∀ s∈l,s.In<=((i+l.length:Nat):Int)
 | [],_,_,s,h=>by cases h
 | x :: l,i,⟨h1,h2⟩,s,h=>by
  rcases a0S.1 h with rfl | h
  ·have:=h1.2;simp only [a0J];omega
  ·have:=aEJ h2 s h;simp only [a0J]at this ⊢;omega
theorem aFg {ch:List Ad} {a:Int}:∀ {l AC:List Int},eM ch a AC l->∀ j∈l,j<(ch.length:Int)
 | [],_,_,j,h=>by cases h
 | x :: l,AC,⟨h1,h2⟩,j,h=>by
  rcases a0S.1 h with rfl | h
  ·exact h1.2.1
  ·exact aFg h2 j h
theorem wfD_of {d:AO} {n:Nat} (h:okD d) (h2:inD n d) (hn:n<=12000):wfD d:=by
 obtain⟨h1,hc,hs,hr,_⟩:=h
 refine⟨h1,fun x hx=>?_,fun x hx=>?_,fun x hx=>?_⟩
 ·obtain⟨_,a,_,b⟩:=hc x hx;unfold fitN;omega
 ·have:=aEJ hs x hx;have:=(h2.1 x hx).2;unfold fitN;omega
 ·obtain⟨⟨_,a,_,b⟩,j⟩:=hr x hx;have:=(h2.2 x hx).2;refine⟨by unfold fitN;omega,by unfold fitN;omega,b,fun y hy=>?_⟩
  have:=aFg j y hy;unfold fitN;omega
theorem wfI_of {dl len:Nat} {n:Int} {i:AL} (h:okI dl len n i) (h2:inI len i) (hl:len<=12000) (ha:fitN i.A):wfI i:=by
 refine⟨h.op,h.int,ha,?_⟩
 have h3:=h.b;have h4:=h.send
 unfold inI at h2
 unfold many at h3
 unfold fitN
 rcases h3 with h3 | h3
 ·by_cases c:i.Op=8
  ·have:=h4 c;omega
  ·by_cases c2:i.Op=13\/i.Op=15
   ·have:=h2 c2;omega
   ·rw [a1G (by omega)]at h3;split at h3 <;> omega
 ·omega
theorem aGO {c:AB} (h:lB c) (ha:∀ i∈c.Code,fitN i.A):c.AD.length<=12/\c.Code.length<=12000/\(∀ d∈c.AD,wfD d)/\(∀ i∈c.Code,wfI i)/\fitN c.AH/\fitN c.AG:=by
 obtain⟨hb,_⟩:=h
 have h1:=hb.free;have h2:=hb.main;have h3:=hb.code
 refine⟨hb.Aa,h3.2,fun d hd=>wfD_of (hb.okD d hd).1 (hb.okD d hd).2 h3.2,fun i hi=>?_,by unfold fitN;omega,by unfold fitN;omega⟩
 obtain⟨j,hj⟩:=a0U.1 hi
 obtain⟨k1,k2⟩:=wK.1 hb.ins.1.1 j i hj
 exact wfI_of k1 k2 h3.2 (ha i hi)
theorem ePr_le {c:AB} (h1:c.AD.length<=12) (h2:c.Code.length<=12000) (h3:∀ d∈c.AD,wfD d) (h4:∀ i∈c.Code,wfI i) (h5:fitN c.AH/\fitN c.AG):(ePr c).length<=3000000:=by
 have l1:=mB (e:=fT) c.AD fun d hd=>aFW (h3 d hd)
 have l2:=mB (e:=dT) c.Code fun d hd=>aC9 (h4 d hd)
 have p1:=eQ h5.1;have p2:=eQ h5.2;have p3:=eQ (eY (n:=c.AD.length) (by omega));have p4:=eQ (eY (n:=c.Code.length) (by omega))
 simp only [ePr,eL,a0I];omega
theorem aHe {AA:Nat} {c:AB} (hf:4000000<=AA) (hl:c.Code.length<=12000) (hd:∀ d∈c.AD,smD d) (ha:∀ i∈c.Code,fitN i.A):∃ l e,nG AA c=some (l,e)/\rB AA c=some (l,e)/\l.length<=3000000:=by
 rcases aCO hf hl hd with⟨hF,e1,e2⟩ | ⟨hF,e1,e2⟩
 ·obtain⟨h1,h2,h3,h4,h5⟩:=aGO hF ha;have hle:=ePr_le h1 h2 h3 h4 h5;refine⟨ePr c,0,bytes_ok (by omega) e1 h1 h2 h3 h4 h5,?_,hle⟩
  rw [rB];refine b1 e2 ?_;rw [a1G (by decide)];refine b1 (aD8 (c:=c) (by omega) (by omega) (by omega) (fun d hd=>?_) (fun i hi=>?_) h5 (by omega)) rfl
  ·have k:=h3 d hd;have kl:=k.ln;exact⟨by omega,k.ch,k.sp,fun x hx=>⟨(k.ru x hx).1,(k.ru x hx).2.1,by have:=(k.ru x hx).2.2.1;omega,(k.ru x hx).2.2.2⟩⟩
  ·have k:=h4 i hi;exact⟨k.op,fun q=>by have:=k.int q;omega,k.a,k.b⟩
 ·refine⟨[],2,?_,?_,by simp⟩
  ·rw [nG];refine b1 e1 ?_;rw [a1H (by decide)]
  ·rw [rB];refine b1 e2 ?_;rw [a1H (by decide)]
theorem qQ {α:Type} {e:α->Bs}:∀ xs:List α,(∀ x∈xs,1<=(e x).length)->xs.length<=(xs.flatMap e).length
 | [],_=>by simp
 | x :: xs,h=>by
  have h1:=h x (.head _);have h2:=qQ xs fun y hy=>h y (.tail _ hy)
  rw [a0w,a0I,a0J];omega
theorem kY {n:Int} (h:okN n):fitN n:=by have:=h.2;unfold fitN;omega
theorem aBB {α:Type} {e:α->Bs} {x:α}:∀ {xs:List α},x∈xs->(e x).length<=(xs.flatMap e).length
 | y :: xs,h=>by
  rw [a0w,a0I];rcases a0S.1 h with rfl | h
  ·omega
  ·have:=aBB (e:=e) h;omega
theorem aGs {c:AB} {b:Bs} (hq:qkP c) (hl:(ePr c).length<=b.length) (hb:b.length<=4000):c.AD.length<=4000/\c.Code.length<=4000/\(∀ d∈c.AD,pkD d/\smD d)/\∀ i∈c.Code,pkI i:=by
 simp only [ePr,eL,a0I]at hl
 have g1:=qQ (e:=fT) c.AD fun d _=>by have:=oN d.AQ.length;simp only [fT,eL,a0I];omega
 have g2:=qQ (e:=dT) c.Code fun i _=>by have:=oN i.Op;simp only [dT,a0I];omega
 obtain⟨_,_,q1,q2⟩:=hq
 refine⟨by omega,by omega,fun d hd=>?_,fun i hi=>?_⟩
 ·obtain⟨c1,c2,c3⟩:=q1.2 d hd;have m:=aBB (e:=fT) hd;simp only [fT,eL,a0I]at m;have g3:=qQ (e:=iZ) d.AQ fun x _=>by have:=oN x.At;simp only [iZ,a0I];omega
  have g4:=qQ (e:=iP) d.AN fun x _=>by have:=oN x.In;simp only [iP,a0I];omega
  have g5:=qQ (e:=gO) d.AP fun x _=>by have:=oN x.At;simp only [gO,a0I];omega
  have hj:∀ x∈d.AP,x.AX.length<=4000:=fun x hx=>by
   have m2:=aBB (e:=gO) hx;simp only [gO,eL,a0I]at m2;have g6:=qQ (e:=put) x.AX fun j _=>oN j
   omega
  exact⟨⟨⟨by omega,by omega,by omega⟩,fun x hx=>⟨kY (c1.2 x hx).1,kY (c1.2 x hx).2⟩,fun x hx=>⟨kY (c2.2 x hx).1,kY (c2.2 x hx).2⟩,fun x hx=>⟨kY (c3.2 x hx).1,kY (c3.2 x hx).2.1,by have:=hj x hx;omega,fun j hj2=>kY ((c3.2 x hx).2.2.2 j hj2)⟩⟩,by omega,by omega,by omega,fun x hx=>by have:=hj x hx;omega⟩
 ·have k:=q2.2 i hi;have ka:=k.a;unfold fX okN at ka;refine⟨k.op,fun q=>?_,?_,kY k.b⟩
  ·rw [a1H q]at ka;split at ka <;> omega
  ·unfold fitN;split at ka
   ·split at ka <;> omega
   ·omega
theorem aIe {AA:Nat} {b:Bs} (hf:4000000<=AA) (hb:IsB b) (hl:b.length<=4000\/400000<b.length):∃ c e,mJ AA b=some (c,e)/\nI AA b=some (c,e)/\c.Code.length<=4000/\c.AD.length<=4000/\∀ d∈c.AD,smD d:=by
 have z:(⟨0,[],[],0⟩:AB).Code.length<=4000/\(⟨0,[],[],0⟩:AB).AD.length<=4000/\∀ d∈(⟨0,[],[],0⟩:AB).AD,smD d:=⟨by decide,by decide,fun d h=>by cases h⟩
 rcases hl with hl | hl
 rotate_left
 ·exact⟨_,3,by rw [mJ,a1H (by omega)],by rw [nI,a1H (by omega)],z⟩
 have hf2:2000000<=AA:=by omega
 have hl4:b.length<=400000:=by omega
 obtain⟨r1,fr,e1,o1,_⟩:=Out.next (AA:=AA) hf2 hb hl4 (Out.of (b:=b) (l:=b) (r:=⟨b,0,false⟩) ⟨rfl,rfl,0,rfl,by omega,rfl⟩)
 obtain⟨r2,ma,e2,o2,_⟩:=Out.next (AA:=AA) hf2 hb hl4 o1
 obtain⟨y3,r3,ds,e3,e4,o3⟩:=d1_eq (AA:=AA) hf2 hb hl4 o2
 obtain⟨y5,r4,is,e5,e6,o4⟩:=ri_eq (AA:=AA) hf2 hb hl4 o3
 have o5:Out b (rProg false b) r4 (⟨fr,ds,is,ma⟩:AB):=by
  refine o4.map (fun t=>(⟨t.1.1.1.2,t.1.2,t.2,t.1.1.2⟩:AB)) ?_
  unfold rProg fB eI;cases h1:rN false b with
  | none=>simp [h1]
  | some p=>
   cases h2:rN false p.2 with
   | none=>simp [h1,h2]
   | some q=>
    cases h3:dA rDef false q.2 with
    | none=>simp [h1,h2,h3]
    | some s=>cases h4:dA fY false s.2 <;> simp [h1,h2,h3,h4]
 have hsub:∀ c r,rProg true b=some (c,r)->rProg false b=some (c,r):=fun c r h=>(xH.inv true b c r hb h).2.1
 have hR:nI AA b=(bif r4.bad then some ((⟨0,[],[],0⟩:AB),4) else if r4.at_<(b.length:Int)then some ((⟨0,[],[],0⟩:AB),4) else
  (oV AA (⟨fr,ds,is,ma⟩:AB)).bind fun y10=>(oM AA y10 b).bind fun y11=>bif y11 then(lZ AA (⟨fr,ds,is,ma⟩:AB)).bind fun y12=>if y12≠0 then some ((⟨0,[],[],0⟩:AB),2) else some ((⟨fr,ds,is,ma⟩:AB),0) else some ((⟨0,[],[],0⟩:AB),4)):=by
  rw [nI,a1G (by omega)];exact b1 e1 (b1 e2 (b1 e3 (b1 e4 (b1 e5 (b1 e6 rfl)))))
 have hP:=pread_eq (AA:=AA) hf2 hb hl4
 generalize hc:(⟨fr,ds,is,ma⟩:AB)=c at o5 hR
 cases hbad:r4.bad with
 | true=>
  have hn:rProg false b=none:=by
   cases h:rProg false b with
   | none=>rfl
   | some p=>rw [h]at o5;have:=o5.2.1;rw [hbad]at this;cases this
  have ht:rProg true b=none:=by
   cases h:rProg true b with
   | none=>rfl
   | some p=>have:=hsub p.1 p.2 h;rw [hn]at this;cases this
  rw [ht]at hP;rw [hbad,a1D]at hR;exact⟨_,_,hP,hR,z⟩
 | false=>
  obtain⟨l,h1,hS⟩:=o5.sat hbad;rw [hbad,a1C]at hR;obtain⟨_,_,n,hn,hnl,hdrop⟩:=hS;obtain⟨hq,_,_,hlen,_⟩:=xH.inv false b c l hb h1;by_cases hat:n<b.length
  ·rw [a1H (by omega)]at hR;have hne:l.length≠0:=by rw [<- hdrop];simp;omega
   cases h:rProg true b with
   | none=>rw [h]at hP;exact⟨_,_,hP,hR,z⟩
   | some p=>
    have hp:p=(c,l):=a1y ((hsub p.1 p.2 h).symm.trans h1);rw [h,hp]at hP;dsimp only at hP
    rw [show(decide ((l.length:Int)=0))=false from a1E (by omega)]at hP;exact⟨_,_,hP,hR,z⟩
  ·rw [a1G (by omega)]at hR;have hnil:l=[]:=by rw [<- hdrop];exact a0t (by omega)
   subst hnil;obtain⟨f1,f2,f3,f4⟩:=aGs hq (by simpa using hlen.1) hl
   have hpk:=aD8 (AA:=AA) hf2 (c:=c) (by omega) (by omega) (fun d hd=>(f3 d hd).1) f4 ⟨kY hq.1,kY hq.2.1⟩ (by have:=hlen.1;omega)
   rw [hpk,bsm,sb_eq hf (by have:=hlen.1;omega),bsm]at hR;by_cases he:ePr c=b
   ·rw [a1F he,a1D]at hR;have ht:=(reads hb c).2 ⟨h1,he⟩;rw [ht]at hP;have hP:mJ AA b=(sM AA c true).bind fun y=>some (⟨y.1.AH,y.1.AD,y.1.Code,y.1.AG⟩,y.2):=hP
    rw [sM,a1D]at hP;rcases aCO (AA:=AA) hf (by omega) (fun d hd=>(f3 d hd).2)with⟨_,k1,k2⟩ | ⟨_,k1,k2⟩
    ·refine⟨c,0,hP.trans (bb k1 ?_),hR.trans (b1 k2 ?_),f2,f1,fun d hd=>(f3 d hd).2⟩
     ·rw [a1G (by decide)];rfl
     ·rw [a1G (by decide)]
    ·refine⟨_,2,hP.trans (bb k1 ?_),hR.trans (b1 k2 ?_),z⟩
     ·rw [a1H (by decide)];rfl
     ·rw [a1H (by decide)]
   ·rw [a1E he,a1C]at hR;cases h:rProg true b with
    | none=>rw [h]at hP;exact⟨_,_,hP,hR,z⟩
    | some p=>
     exfalso
     have hp:p=(c,[]):=a1y ((hsub p.1 p.2 h).symm.trans h1);rw [hp]at h;exact he ((reads hb c).1 h).2
theorem aHk {AA:Nat} {c:AB} {b:Bs} (hf:4000000<=AA) (hd:∀ d∈c.AD,smD d) (ha:∀ i∈c.Code,fitN i.A) (hb:IsB b):zT AA c b=some true:=by
 have hkn:nO=some true:=rfl
 rw [zT,aAk,bsm]
 by_cases hlg:400<(c.Code.length:Int)
 ·rw [a1F hlg,a1D,hkn];rfl
 rw [a1E hlg,a1C]
 have main:b.length<=4000\/400000<b.length->((nG AA (⟨c.AH,c.AD,c.Code,c.AG⟩:AB)).bind fun y6=>
  (rB AA (⟨c.AH,c.AD,c.Code,c.AG⟩:AB)).bind fun y7=>
  (mJ AA b).bind fun y8=>
  (nI AA b).bind fun y9=>
  (if y6.2=y7.2 then
   (oM AA y6.1 y7.1).bind fun y10=>
   bif y10 then
    if y8.2=y9.2 then
     (qO AA (⟨y8.1.AH,y8.1.AD,y8.1.Code,y8.1.AG⟩:AB) (⟨y9.1.AH,y9.1.AD,y9.1.Code,y9.1.AG⟩:AB)).bind fun y11=>
     bif y11 then
      (nO).bind fun y12=>
      some y12
     else
      some false
    else
     some false
   else
    some false
  else
   some false).bind fun x1=>
  some x1)=some true:=fun h=>by
  obtain⟨l,e,e1,e2,hle⟩:=aHe (AA:=AA) (c:=c) hf (by omega) hd ha
  obtain⟨x,g,e3,e4,s1,s2,s3⟩:=aIe (AA:=AA) hf hb h;refine b1 e1 (b1 e2 (b1 e3 (b1 e4 ?_)));dsimp only
  rw [a1H rfl,sb_eq hf hle,bsm,a1F rfl,a1D,a1H rfl];have hs:qO AA (⟨x.AH,x.AD,x.Code,x.AG⟩:AB) (⟨x.AH,x.AD,x.Code,x.AG⟩:AB)=some true:=aIv (c:=x) (by omega) (by omega) (by omega) s3
  rw [hs,bsm,a1D,hkn];rfl
 by_cases h1:4000<(b.length:Int)
 ·rw [a1H h1];by_cases h2:(b.length:Int)<=400000
  ·rw [a1H h2,hkn];rfl
  ·rw [a1G h2];by_cases h3:400009<(b.length:Int)
   ·rw [a1H h3,hkn];rfl
   ·rw [a1G h3,bsm];exact main (.inr (by omega))
 ·rw [a1G h1,a1G (by omega),bsm];exact main (.inl (by omega))
end Go.Proofs.YtpbeacokfapklaaGreatDoor
namespace Go.SW
open Go.SX
theorem aHx {w w':World} (h:w.keptBut w' (fun _=>False)) {p:MemPlace} (hp:p.block<w.heap.size):w.sameAt w' p:=by
 obtain⟨_,_,h⟩:=h
 cases p with
 | cell b off=>
  have:=h b hp;show w'.cell? _=w.cell? _
  grind [World.cell?]
 | map b=>
  have:=h b hp;show w'.heap[b]? =w.heap[b]?
  cases h1:w.heap[b]? with
  | none=>grind
  | some o=>
   rw [h1]at this;cases o with
   | cells c t fr=>
    cases h2:w'.heap[b]? with
    | none=>grind
    | some o'=>
     rw [h2]at this;cases o' with
     | cells c' t' fr'=>
      dsimp only at this
      obtain⟨rfl,rfl,hs,hc⟩:=this;have:c'=c:=Array.ext_getElem? fun j=>hc j (fun f=>f)
      rw [this]
     | _=>cases this
   | map es clock=>
    grind
   | _=>exact this
theorem aFd {H:Type} {enc:TypeId × Value->H} {P:Program} {W W':World} (hl:laidOutB P=true) (hm:mapsRowed P=true) (hz:∀ t e,t<P.types.size->P.underlying t=some (.slice e)->0<P.cellsOf e) (hk:W.keptBut W' (fun _=>False)):
 ∀ {ts:List TypeId} {vs:List Value} {ds:List (DataW H)} {ps:List MemPlace},(∀ t∈ts,t<P.types.size)->DataW.TrodAll enc P W 0 (fun _=>true) true ts vs ds ps->DataW.TrodAll enc P W' 0 (fun b=>decide (b<W.heap.size)) true ts vs ds ps
 | [],[],[],_,_,h=>h
 | t :: _,_ :: _,_ :: _,ps,ht,h=>by
  have hlt:=h.lt;obtain⟨p,q,⟨n,hn⟩,h2,e⟩:=h;refine⟨p,q,⟨n,?_⟩,aFd hl hm hz hk (fun t h=>ht t (.tail _ h)) h2,e⟩
  have hp:∀ x∈p,x.block<W.heap.size:=by grind
  exact DataW.trod_stays (kids_rows hl hm) (fun a b=>hz _ _ a b) (fun f=>by cases f) (ht t (.head _)) hn (by grind [aHx]) (by grind)
 | [],_ :: _,_,_,_,h=>h.elim
 | [],[],_ :: _,_,_,h=>h.elim
 | _ :: _,[],_,_,_,h=>h.elim
 | _ :: _,_ :: _,[],_,_,h=>h.elim
end Go.SW
