/- Parts of the proof: lemmas, and the steps through the program. -/
import Derived.Test.YtjahnkcjbglnoaaGreatDoorCs4
import Derived.Test.YtjahnkcjbglnoaaGreatDoorRows
import Derived.ChangeSame
import Derived.ChangeReads
import Derived.ReadAgain
import Derived.ChangeStays
import Derived.ChangeBears
set_option linter.unusedVariables false
set_option linter.unusedSimpArgs false
set_option maxRecDepth 100000
set_option maxHeartbeats 2000000
namespace Go.Proofs.YtjahnkcjbglnoaaGreatDoor
open Go.SX Go.SW Go.Dt
def ansR (c:CodeProg) (r:Option St) (x:cA):Prop:=r.elim (x.long=true) fun s=>x=⟨c,s.nc,s.ns,s.ac,false⟩
def ansT (c:CodeProg) (r:Option St) (x:Int × List ScopeDef × List CodeIns × Int × Int × Int × List CodeAct × Bool):Prop:=r.elim (x.2.2.2.2.2.2.2=true) fun s=>x=(c.Free,c.Defs,c.Code,c.Main,s.nc,s.ns,s.ac,false)
theorem rdef {c:CodeProg} {n fuel:Nat} {d:ScopeDef} {a0:cA} {env:List SolVal} (hd:d.Spots.length ≤ 30) (hb:0 ≤ a0.spots ∧ a0.spots ≤ 24) (ih:∀ m h s r,cT c n m h env [] s=some r → ∃ x,gX fuel ⟨c,s.nc,s.ns,s.ac,false⟩ m h env=some x ∧ ansR c r x) (suf:List ScopeSpot):∀ (pre:List ScopeSpot) (k:Nat) (s:St) (r:Option St),d.Spots=pre++suf → suf.length+1<k → gV (cT c n) suf (a0.spots+pre.length) env s=some r →
 ∃ x,iQ (gX fuel) a0 d env k (pre.length:Int) c.Free c.Defs c.Code c.Main s.nc s.ns s.ac false=some x ∧ ansT c r x:=by
 induction suf with
 | nil=>
  intro pre k s r h hk H;obtain _ | k:=k
  ·omega
  cases H;exact⟨_,by rw [iQ,h,if_neg (by simp)],rfl⟩
 | cons e suf ihl=>
  intro pre k s r h hk H;obtain _ | k:=k
  ·omega
  simp only [List.length_cons]at hk;have hlen:pre.length<d.Spots.length:=by rw [h];simp
  rw [gV]at H;obtain⟨r1,e1,H⟩:=Option.bind_eq_some_iff.1 H;obtain⟨x1,e2,a2⟩:=ih e.Node (a0.spots+pre.length) s r1 e1;have hgo:∀ z,iQ (gX fuel) a0 d env k ((pre.length:Int)+1) x1.c.Free x1.c.Defs x1.c.Code x1.c.Main x1.chans x1.spots x1.acts x1.long=some z → iQ (gX fuel) a0 d env (k+1) (pre.length:Int) c.Free c.Defs c.Code c.Main s.nc s.ns s.ac false=some z:=fun z hz=>by
   rw [iQ,if_pos (by omega),cond_false];refine b1 (by rw [h];exact bP _ _ _) ?_
   refine b1 (aI (by omega)) ?_
   refine b1 e2 ?_;refine b1 (aI (by omega)) ?_
   exact hz
  cases r1 with
  | none=>
   cases H;have a2:x1.long=true:=a2;obtain _ | k:=k
   ·omega
   refine⟨(x1.c.Free,x1.c.Defs,x1.c.Code,x1.c.Main,x1.chans,x1.spots,x1.acts,x1.long),hgo _ ?_,a2⟩;rw [iQ];by_cases g:(pre.length:Int)+1<(d.Spots.length:Int)
   ·rw [if_pos g,a2,cond_true]
   ·rw [if_neg g]
  | some s1=>
   have a2:x1=⟨c,s1.nc,s1.ns,s1.ac,false⟩:=a2;subst a2;obtain⟨x,e3,a3⟩:=ihl (pre++[e]) k s1 r (by rw [h];simp) (by omega) (by rw [← bR pre e,← Int.add_assoc];exact H)
   rw [← bR pre e]at e3;exact⟨x,hgo _ e3,a3⟩
theorem aDh {f:cA → Int → Int → (List SolVal) → Option (cA × List SolVal)} {k:Nat} {h m:Int} {env stk:List SolVal} {F M cc ss:Int} {D:List ScopeDef} {C:List CodeIns} {A:List CodeAct} (hk:0<k):gL f h k m env stk F D C M cc ss A true=some ⟨⟨F,D,C,M⟩,cc,ss,A,true⟩:=by
 obtain _ | k:=k
 ·omega
 rw [gL];rfl
def sndA (v:SolVal) (h:Int) (l:List SolVal) (s:St):St:=if v.Kind=2 then fH s ⟨1,h,v.N,l⟩ else s
def sndB (v:SolVal) (h:Int) (l:List SolVal) (s:St):St:=if v.Kind=3 then fH s ⟨2,h,v.N,l⟩ else s
theorem snd_AB {v:SolVal} {h:Int} {l:List SolVal} {s:St}:sndB v h l (sndA v h l s)=sends v h l s:=by
 unfold sndB sndA sends
 by_cases g:v.Kind=2
 ·rw [if_pos g,if_pos g,if_neg (by omega)]
 ·rw [if_neg g,if_neg g]
theorem rsendA {c:CodeProg} {v:SolVal} {h z:Int} {env stk l:List SolVal} {A B:Int} {s:St} (e1:idx env A=some v) (e2:chk ((stk.length:Int) - B)=some z) (e3:slc stk z (stk.length:Int)=some l) (hl:l.length ≤ 1000000) (ha:s.ac.length ≤ 2000000):
 ((idx env A).bind fun y4=>
  if y4.Kind=2 then
   (idx env A).bind fun y5=>
   (chk ((stk.length:Int) - B)).bind fun z5=>
   (slc stk z5 (stk.length:Int)).bind fun y6=>
   (mD (⟨(⟨c.Free,c.Defs,c.Code,c.Main⟩:CodeProg),s.nc,s.ns,s.ac,false⟩:cA) 1 h y5.N y6).bind fun y7=>
   some (y7.c.Free,y7.c.Defs,y7.c.Code,y7.c.Main,y7.chans,y7.spots,y7.acts,y7.long)
  else
   some (c.Free,c.Defs,c.Code,c.Main,s.nc,s.ns,s.ac,false))=some (c.Free,c.Defs,c.Code,c.Main,(sndA v h l s).nc,(sndA v h l s).ns,(sndA v h l s).ac,false):=by
 rw [e1,bsm,sndA]
 by_cases g:v.Kind=2
 ·rw [if_pos g,if_pos g,bsm,e2,bsm,e3,bsm,vS (x:=⟨c,s.nc,s.ns,s.ac,false⟩) (by omega) (by dsimp only;omega)];rfl
 ·rw [if_neg g,if_neg g]
theorem rsendB {c:CodeProg} {v:SolVal} {h z:Int} {env stk l:List SolVal} {A B:Int} {s:St} (e1:idx env A=some v) (e2:chk ((stk.length:Int) - B)=some z) (e3:slc stk z (stk.length:Int)=some l) (hl:l.length ≤ 1000000) (ha:s.ac.length ≤ 2000000):
 ((idx env A).bind fun y4=>
  if y4.Kind=3 then
   (idx env A).bind fun y5=>
   (chk ((stk.length:Int) - B)).bind fun z5=>
   (slc stk z5 (stk.length:Int)).bind fun y6=>
   (mD (⟨(⟨c.Free,c.Defs,c.Code,c.Main⟩:CodeProg),s.nc,s.ns,s.ac,false⟩:cA) 2 h y5.N y6).bind fun y7=>
   some (y7.c.Free,y7.c.Defs,y7.c.Code,y7.c.Main,y7.chans,y7.spots,y7.acts,y7.long)
  else
   some (c.Free,c.Defs,c.Code,c.Main,s.nc,s.ns,s.ac,false))=some (c.Free,c.Defs,c.Code,c.Main,(sndB v h l s).nc,(sndB v h l s).ns,(sndB v h l s).ac,false):=by
 rw [e1,bsm,sndB]
 by_cases g:v.Kind=3
 ·rw [if_pos g,if_pos g,bsm,e2,bsm,e3,bsm,vS (x:=⟨c,s.nc,s.ns,s.ac,false⟩) (by omega) (by dsimp only;omega)];rfl
 ·rw [if_neg g,if_neg g]
theorem sndA_len {v:SolVal} {h:Int} {l:List SolVal} {s:St}:(sndA v h l s).ac.length ≤ s.ac.length+1:=by
 unfold sndA fH
 split
 ·simp
 ·omega
theorem rrun {c:CodeProg} (hl:c.Code.length ≤ 400):∀ (n:Nat) (m h:Int) (env stk:List SolVal) (s:St) (r:Option St),cT c n m h env stk s=some r → ∀ (k fuel:Nat),n<k → 3900000+2*n ≤ fuel →
 ∃ x,gL (xG fuel) h k m env stk c.Free c.Defs c.Code c.Main s.nc s.ns s.ac false=some x ∧ ansR c r x
 | 0,_,_,_,_,_,_,H,_,_,_,_=>by cases H
 | n+1,m,h,env,stk,s,r,H,0,fuel,hk,hf=>by omega
 | n+1,m,h,env,stk,s,r,H,k+1,fuel,hk,hf=>by
  rw [cT]at H;by_cases hC:okC env stk s
  rotate_left
  ·rw [if_neg hC]at H;cases H
  rw [if_pos hC]at H;obtain⟨i,hi,H⟩:=Option.bind_eq_some_iff.1 H;obtain⟨⟨hc1,hc2,hc3⟩,hc4,hc5⟩:=hC;have hm:=oU hi;have ih:=fun m env stk s H=>rrun hl n m h env stk s r H k fuel (by omega) (by omega)
  rw [gL,Bool.not_false,cond_true];have head:∀ {T E:Option cA},((idx c.Code m).bind fun y1=>if y1.Op≠16 then T else E)=if i.Op≠16 then T else E:=by intros;rw [hi,bsm]
  rw [head];by_cases o16:i.Op=16
  ·rw [if_neg (by omega),if_neg (by omega),if_neg (by omega),if_neg (by omega),if_neg (by omega),if_neg (by omega),if_neg (by omega),if_neg (by omega),if_pos o16]at H;rw [if_neg (fun q=>q o16)];cases H;exact⟨_,rfl,rfl⟩
  rw [if_pos o16,hi,bsm,aI (by omega),bsm];by_cases o1:i.Op=1
  ·rw [if_pos o1]at H ⊢;rw [dP (by simp;omega),bsm];exact ih _ _ _ _ H
  rw [if_neg o1]at H ⊢;by_cases o2:i.Op=2
  ·rw [if_pos o2]at H ⊢;obtain⟨v,e1,H⟩:=Option.bind_eq_some_iff.1 H;rw [e1,bsm,dP (by simp;omega),bsm];exact ih _ _ _ _ H
  rw [if_neg o2]at H ⊢;by_cases o8:i.Op=8
  ·rw [if_pos o8]at H ⊢;obtain⟨v,e1,H⟩:=Option.bind_eq_some_iff.1 H;obtain⟨l,e2,H⟩:=Option.bind_eq_some_iff.1 H;obtain⟨t,e3,H⟩:=Option.bind_eq_some_iff.1 H;have k2:=wS e2;unfold aL at *
   have e4:=aI (i:=(stk.length:Int) - i.B) (by omega)
   obtain⟨x,e5,a5⟩:=ih _ _ _ _ H;refine⟨x,?_,a5⟩;have hA:=sndA_len (v:=v) (h:=h) (l:=l) (s:=s);refine b1 (rsendA (c:=c) (s:=s) (h:=h) e1 e4 e2 (by omega) (by omega)) ?_
   refine b1 (rsendB (c:=c) (s:=sndA v h l s) (h:=h) e1 e4 e2 (by omega) (by omega)) ?_
   rw [snd_AB];refine b1 e4 ?_;refine b1 e3 ?_;exact e5
  rw [if_neg o8]at H ⊢;by_cases o9:i.Op=9
  ·rw [if_pos o9]at H ⊢;obtain⟨v,e1,H⟩:=Option.bind_eq_some_iff.1 H;obtain⟨t,e3,H⟩:=Option.bind_eq_some_iff.1 H;unfold aL at *
   have e4:=aI (i:=(stk.length:Int) - 1) (by omega)
   obtain⟨x,e5,a5⟩:=ih _ _ _ _ H;refine⟨x,?_,a5⟩;refine b1 (z:=if cK v=0 then i.A else m+1) ?_ ?_
   ·refine b1 e4 ?_;refine b1 e1 ?_;refine b1 (aBy v) ?_;by_cases g:cK v=0
    ·rw [if_pos g,if_pos g]
    ·rw [if_neg g,if_neg g]
   refine b1 e4 ?_;refine b1 e3 ?_;exact e5
  rw [if_neg o9]at H ⊢;by_cases o10:i.Op=10
  ·rw [if_pos o10]at H ⊢;exact ih _ _ _ _ H
  rw [if_neg o10]at H ⊢;by_cases o11:i.Op=11
  ·rw [if_pos o11]at H ⊢;obtain⟨d,e1,H⟩:=Option.bind_eq_some_iff.1 H;by_cases hd:d.Chans.length ≤ 30 ∧ d.Spots.length ≤ 30
   rotate_left
   ·rw [if_neg hd]at H;cases H
   rw [if_pos hd]at H;obtain _ | fuel:=fuel
   ·omega
   have q1:=rdef1 (x:=⟨c,s.nc,s.ns,s.ac,false⟩) (d:=d) (by omega) (by dsimp only;omega) d.Chans.length fuel 0 env (by omega) (by omega) (by omega)
   have q2:=rdef2 (x:=⟨c,s.nc,s.ns,s.ac,false⟩) (d:=d) (by omega) (by dsimp only;omega) d.Spots.length fuel 0 (env++dF 3 s.nc d.Chans.length) (by omega) (by omega) (by rw [List.length_append,mH];omega)
   simp only [Int.natCast_zero,Int.add_zero]at q1 q2;have hel:=pO d s.nc s.ns env;have hdef:∀ b,(if 60<s.nc+(d.Chans.length:Int)then some true else some (decide (24<s.ns+(d.Spots.length:Int))))=some b → ∀ x,iQ (gX fuel) ⟨c,s.nc,s.ns,s.ac,false⟩ d (bY d s.nc s.ns env) fuel 0 c.Free c.Defs c.Code c.Main (mkS s d i.A h env).nc (mkS s d i.A h env).ns (mkS s d i.A h env).ac b=some x → xG (fuel+1) ⟨c,s.nc,s.ns,s.ac,false⟩ i.A h env=some (⟨⟨x.1,x.2.1,x.2.2.1,x.2.2.2.1⟩,x.2.2.2.2.1,x.2.2.2.2.2.1,x.2.2.2.2.2.2.1,x.2.2.2.2.2.2.2⟩,bY d s.nc s.ns env):=fun b hb x hx=>by
    rw [xG];refine b1 e1 ?_;rw [List.nil_append];refine b1 (dP (by omega)) ?_
    refine b1 q1 ?_;refine b1 q2 ?_;refine b1 (aI (by dsimp only;omega)) ?_
    refine b1 (aI (by dsimp only;omega)) ?_
    refine b1 (z:=b) (by rw [cond_false];exact hb) ?_
    refine b1 (vS (x:=⟨c,s.nc+(d.Chans.length:Int),s.ns+(d.Spots.length:Int),s.ac,b⟩) (by rw [show(env++dF 3 s.nc d.Chans.length++dF 4 s.ns d.Spots.length)=bY d s.nc s.ns env from rfl];omega) (by dsimp only;omega)) ?_
    refine b1 hx ?_;rfl
   by_cases g:s.nc+aL d.Chans ≤ 60 ∧ s.ns+aL d.Spots ≤ 24
   rotate_left
   ·rw [if_neg g]at H;cases H
    unfold aL at g;have hb:(if 60<s.nc+(d.Chans.length:Int)then some true else some (decide (24<s.ns+(d.Spots.length:Int))))=some true:=by
     by_cases g1:60<s.nc+(d.Chans.length:Int)
     ·rw [if_pos g1]
     ·rw [if_neg g1,decide_eq_true (by omega)]
    have h3:iQ (gX fuel) ⟨c,s.nc,s.ns,s.ac,false⟩ d (bY d s.nc s.ns env) fuel 0 c.Free c.Defs c.Code c.Main (mkS s d i.A h env).nc (mkS s d i.A h env).ns (mkS s d i.A h env).ac true=some (c.Free,c.Defs,c.Code,c.Main,(mkS s d i.A h env).nc,(mkS s d i.A h env).ns,(mkS s d i.A h env).ac,true):=by
     obtain _ | fuel:=fuel
     ·omega
     rw [iQ];by_cases g1:0<(d.Spots.length:Int)
     ·rw [if_pos g1,cond_true]
     ·rw [if_neg g1]
    refine⟨⟨⟨c.Free,c.Defs,c.Code,c.Main⟩,(mkS s d i.A h env).nc,(mkS s d i.A h env).ns,(mkS s d i.A h env).ac,true⟩,b1 (hdef true hb _ h3) ?_,rfl⟩;dsimp only;exact aDh (by omega)
   rw [if_pos g]at H;obtain⟨r1,e2,H⟩:=Option.bind_eq_some_iff.1 H;unfold aL at g;have hb:(if 60<s.nc+(d.Chans.length:Int)then some true else some (decide (24<s.ns+(d.Spots.length:Int))))=some false:=by
    rw [if_neg (by omega),decide_eq_false (by omega)]
   obtain _ | fuel:=fuel
   ·omega
   have hrun:∀ m h' s' r',cT c n m h' (bY d s.nc s.ns env) [] s'=some r' → ∃ x,gX (fuel+1) ⟨c,s'.nc,s'.ns,s'.ac,false⟩ m h' (bY d s.nc s.ns env)=some x ∧ ansR c r' x:=fun m h' s' r' H'=>by
    obtain⟨x,p1,p2⟩:=rrun hl n m h' _ [] s' r' H' fuel fuel (by omega) (by omega)
    refine⟨x,?_,p2⟩;rw [gX,List.nil_append];refine b1 (dP (by omega)) ?_
    exact p1
   obtain⟨x,e3,a3⟩:=rdef (c:=c) (n:=n) (fuel:=fuel+1) (d:=d) (a0:=⟨c,s.nc,s.ns,s.ac,false⟩) (env:=bY d s.nc s.ns env) hd.2 hc5 hrun d.Spots [] (fuel+1) (mkS s d i.A h env) r1 rfl (by omega) (by rw [List.length_nil,Int.natCast_zero,Int.add_zero];exact e2)
   have e4:=hdef false hb x e3;cases r1 with
   | none=>
    cases H;have a3:x.2.2.2.2.2.2.2=true:=a3;refine⟨⟨⟨x.1,x.2.1,x.2.2.1,x.2.2.2.1⟩,x.2.2.2.2.1,x.2.2.2.2.2.1,x.2.2.2.2.2.2.1,true⟩,b1 e4 ?_,rfl⟩;dsimp only;rw [a3];exact aDh (by omega)
   | some s1=>
    have a3:x=(c.Free,c.Defs,c.Code,c.Main,s1.nc,s1.ns,s1.ac,false):=a3;subst a3;obtain⟨x,e5,a5⟩:=ih _ _ _ _ H;exact⟨x,b1 e4 e5,a5⟩
  rw [if_neg o11]at H ⊢;by_cases o12:i.Op=12
  ·rw [if_pos o12]at H ⊢;obtain⟨t,e1,H⟩:=Option.bind_eq_some_iff.1 H;rw [e1,bsm];exact ih _ _ _ _ H
  rw [if_neg o12]at H ⊢;rw [grp3,bsm];by_cases o13:i.Op=13 ∨ i.Op=14 ∨ i.Op=15
  ·rw [if_pos o13]at H;rw [decide_eq_true o13,cond_true,aI (by omega),bsm,show m+1 - 1=m by omega,vS (x:=⟨c,s.nc,s.ns,s.ac,false⟩) (by omega) (by dsimp only;omega),bsm];exact ih _ _ _ _ H
  rw [if_neg o13]at H;rw [decide_eq_false o13,cond_false];rw [if_neg o16]at H;obtain⟨v,e1,H⟩:=Option.bind_eq_some_iff.1 H;obtain⟨w,e2,H⟩:=Option.bind_eq_some_iff.1 H;obtain⟨t,e3,H⟩:=Option.bind_eq_some_iff.1 H;by_cases g:okV v ∧ okV w
  rotate_left
  ·rw [if_neg g]at H;cases H
  rw [if_pos g]at H;have k1:=wS e3;unfold aL at *
  obtain⟨x,e5,a5⟩:=ih _ _ _ _ H;refine⟨x,?_,a5⟩;refine b1 (aI (by omega)) ?_
  refine b1 e1 ?_;refine b1 (aI (by omega)) ?_
  refine b1 e2 ?_;refine b1 (sum_eq g.1 g.2) ?_;refine b1 (aI (by omega)) ?_
  refine b1 e3 ?_;refine b1 (dP (by simp;omega)) ?_
  exact e5
open Go.SX Go.SW Go.Dt
theorem wD (x:Int):∀ (l:List CodeIns) (ds:List Int),x∈dK ds l ↔ x∈ds ∨ ∃ i∈l,i.Op=11 ∧ i.A=x
 | [],ds=>by simp [dK]
 | i :: l,ds=>by
  rw [dK,wD x l];by_cases h:i.Op=11
  ·rw [if_pos h];simp [h,or_assoc,eq_comm]
  ·rw [if_neg h];simp [h]
theorem aCu:∀ (l:List CodeIns) (ds:List Int),dE ds l → ds.Nodup → (dK ds l).Nodup
 | [],_,_,h=>h
 | i :: l,ds,hn,h=>by
  rw [dK];refine aCu l _ hn.2 ?_;split
  ·rename_i g;exact List.nodup_append.2 ⟨h,by simp,fun a ha b hb e=>by rw [List.mem_singleton.1 hb]at e;subst e;exact hn.1 g ha⟩
  ·exact h
theorem def_made {c:CodeProg} (hp:Pre c) (hb:iO c) {j:Nat} (hj:j<c.Defs.length):∃ i∈c.Code,i.Op=11 ∧ i.A=(j:Int):=by
 obtain⟨⟨h1,h2⟩,h3⟩:=hb.ins
 have hn:=aCu c.Code [] h2 List.nodup_nil
 have hm:=wD (l:=c.Code) (ds:=[])
 have hpm:(dK [] c.Code).Perm ((List.range c.Defs.length).map fun n:Nat=>(n:Int)):=qM hn (fun x hx=>by
  obtain⟨i,hi,ho,rfl⟩:=((wD x c.Code []).1 hx).resolve_left (by simp)
  obtain⟨n,hn⟩:=List.mem_iff_getElem?.1 hi;have hok:=(hp.okI n i hn).1;have:=hok.df ho;have:=(hok.pos (by omega)).1
  exact List.mem_map.2 ⟨i.A.toNat,List.mem_range.2 (by omega),by omega⟩) (by simp;omega)
 have:=(wD (j:Int) c.Code []).1 (hpm.mem_iff.2 (List.mem_map.2 ⟨j,List.mem_range.2 hj,rfl⟩))
 exact this.resolve_left (by simp)
theorem vZ {c:CodeProg} (hF:fE c) {m:Int} {l l':CodeLevel} (h:R (scP c) c.Main ⟨0,c.Free⟩ m l) (h':R (scP c) c.Main ⟨0,c.Free⟩ m l'):l'=l:=
 Classical.byContradiction fun g=>hF.2.1 ⟨m,l,h, .inr ⟨l',h',g⟩⟩
theorem wT {b:Int}:∀ l:List CodeIns,b∈onB l ↔ ∃ i∈l,(i.Op=13 ∨ i.Op=15) ∧ i.B=b
 | []=>by simp [onB]
 | i :: l=>by
  rw [onB,List.mem_append,wT l];by_cases h:i.Op=13 ∨ i.Op=15
  ·simp [iA,h,eq_comm]
  ·simp [iA,h]
theorem R_all {c:CodeProg} (hp:Pre c) (hF:fE c) {i:CodeIns} (hi:i∈c.Code):∃ (n:Nat) (l:CodeLevel) (s:List (Int × CodeLevel)),c.Code[n]? =some i ∧ scI c n i l=some s ∧ ∀ p∈s,R (scP c) c.Main ⟨0,c.Free⟩ p.1 p.2:=by
 obtain⟨n,hn⟩:=List.mem_iff_getElem?.1 hi
 obtain⟨l,hl⟩:=hF.2.2 n (List.getElem?_eq_some_iff.1 hn).1
 obtain⟨i',s,_,_,h3,h4,h5⟩:=R_at hp hF hl
 rw [Int.toNat_natCast,hn]at h3
 cases h3
 exact⟨n,l,s,hn,h4,h5⟩
theorem aFJ {c:CodeProg} (hp:Pre c) (hF:fE c) {b:Int} (hb:b∈bgs c) {l:CodeLevel} (hl:R (scP c) c.Main ⟨0,c.Free⟩ b l):l.Stack=0:=by
 rcases List.mem_cons.1 hb with rfl | hb
 ·rw [vZ hF .base hl]
 rcases List.mem_append.1 hb with hb | hb
 ·obtain⟨d,hd,hb⟩:=List.mem_flatMap.1 hb;obtain⟨j,hj⟩:=List.mem_iff_getElem?.1 hd;obtain⟨i,hi,ho,hA⟩:=def_made hp hF.1 (List.getElem?_eq_some_iff.1 hj).1;obtain⟨n,l',s,_,h2,h3⟩:=R_all hp hF hi;rw [scI,if_neg (by omega),if_neg (by omega),if_neg (by omega),if_neg (by omega),if_neg (by omega),if_neg (by omega),if_pos ho,hA,Int.toNat_natCast,hj]at h2;split at h2
  ·cases h2;rcases List.mem_append.1 hb with hb | hb
   ·obtain⟨r,r1,rfl⟩:=List.mem_map.1 hb;rw [vZ hF (h3 (r.Node,_) (List.mem_append_left _ (List.mem_append_right _ (List.mem_map.2 ⟨r,r1,rfl⟩)))) hl]
   ·obtain⟨r,r1,rfl⟩:=List.mem_map.1 hb;rw [vZ hF (h3 (r.Node,_) (List.mem_append_left _ (List.mem_append_left _ (List.mem_map.2 ⟨r,r1,rfl⟩)))) hl]
  ·cases h2
 ·obtain⟨i,hi,ho,rfl⟩:=(wT _).1 hb;obtain⟨n,l',s,_,h2,h3⟩:=R_all hp hF hi;rw [scI,if_neg (by omega),if_neg (by omega),if_neg (by omega),if_neg (by omega),if_neg (by omega),if_neg (by omega),if_neg (by omega),if_neg (by omega),if_pos ho]at h2;split at h2
  ·cases h2;rw [vZ hF (h3 _ (.head _)) hl]
  ·cases h2
def bL (fr nc ns:Int) (v:SolVal):Prop:=(v.Kind=1 ∧ -1000000000 ≤ v.N ∧ v.N ≤ 1000000000) ∨ (v.Kind=2 ∧ 0 ≤ v.N ∧ v.N<fr) ∨ (v.Kind=3 ∧ 0 ≤ v.N ∧ v.N<nc) ∨ (v.Kind=4 ∧ 0 ≤ v.N ∧ v.N<ns)
instance {fr nc ns:Int} {v:SolVal}:Decidable (bL fr nc ns v):=by unfold bL;infer_instance
theorem bL.okV {fr nc ns:Int} {v:SolVal} (h:bL fr nc ns v):okV v:=by
 unfold bL at h;unfold Go.Proofs.YtjahnkcjbglnoaaGreatDoor.okV cK
 split <;> omega
theorem ifb {a b:Int} {P:Prop} [Decidable P]:(if 0 ≤ a then some (decide (a<b)) else some false)=some (decide (0 ≤ a ∧ a<b)):=by
 by_cases h:0 ≤ a
 ·rw [if_pos h];simp [h]
 ·rw [if_neg h,decide_eq_false (by omega)]
theorem ifm {a:Int}:(if -1000000000 ≤ a then some (decide (a ≤ 1000000000)) else some false)=some (decide (-1000000000 ≤ a ∧ a ≤ 1000000000)):=by
 by_cases h:-1000000000 ≤ a
 ·rw [if_pos h];simp [h]
 ·rw [if_neg h,decide_eq_false (by omega)]
theorem value_eq {c:CodeProg} {x:Ref09_Doing} {v:SolVal}:aA8 c v x=some (decide (bL c.Free x.Chans x.Spots v)):=by
 rw [aA8]
 by_cases h1:v.Kind=1
 ·rw [if_pos h1,ifm,bsm];congr 1;refine decide_eq_decide.2 ?_;unfold bL;omega
 rw [if_neg h1]
 by_cases h2:v.Kind=2
 ·rw [if_pos h2,ifb (P:=True),bsm];congr 1;refine decide_eq_decide.2 ?_;unfold bL;omega
 rw [if_neg h2]
 by_cases h3:v.Kind=3
 ·rw [if_pos h3,ifb (P:=True),bsm];congr 1;refine decide_eq_decide.2 ?_;unfold bL;omega
 rw [if_neg h3]
 by_cases h4:v.Kind=4
 ·rw [if_pos h4,ifb (P:=True),bsm];congr 1;refine decide_eq_decide.2 ?_;unfold bL;omega
 rw [if_neg h4,decide_eq_false (by unfold bL;omega)]
theorem may_eq {x:aP} {v:SolVal}:rM x v=some (x,decide (bL x.CodeProg.Free x.chans x.spots v)):=by
 rw [rM]
 have go:∀ b:Int,(v.Kind≠1) → ((0 ≤ v.N ∧ v.N<b) ↔ bL x.CodeProg.Free x.chans x.spots v) → ((some (Sum.inl b):Option (Int ⊕ (aP × Bool))).bind fun o=>match o with
  | Sum.inr r=>some r
  | Sum.inl x1=>(if 0 ≤ v.N then some (decide (v.N<x1)) else some false).bind fun x3=>some ((⟨(⟨x.CodeProg.Free,x.CodeProg.Defs,x.CodeProg.Code,x.CodeProg.Main⟩:CodeProg),x.chans,x.spots,x.acts⟩:aP),x3))=some (x,decide (bL x.CodeProg.Free x.chans x.spots v)):=fun b _ hb=>by
  rw [bsm];dsimp only;rw [ifb (P:=True),bsm,decide_eq_decide.2 hb]
 by_cases h1:v.Kind=1
 ·rw [if_pos h1,ifm,bsm,bsm,bsm];dsimp only
  rw [decide_eq_decide.2 (show(-1000000000 ≤ v.N ∧ v.N ≤ 1000000000) ↔ bL x.CodeProg.Free x.chans x.spots v by unfold bL;omega)]
 rw [if_neg h1]
 by_cases h2:v.Kind=2
 ·rw [if_pos h2];exact go _ h1 (by unfold bL;omega)
 rw [if_neg h2]
 by_cases h3:v.Kind=3
 ·rw [if_pos h3];exact go _ h1 (by unfold bL;omega)
 rw [if_neg h3]
 by_cases h4:v.Kind=4
 ·rw [if_pos h4];exact go _ h1 (by unfold bL;omega)
 rw [if_neg h4];exact go _ h1 (by unfold bL;omega)
theorem qS {α:Type} {P:α → Prop} {a:α} {l:List α}:(∀ x∈a :: l,P x) ↔ P a ∧ ∀ x∈l,P x:=by simp
open Classical in
theorem pval {c:CodeProg} {nc ns:Int} (suf:List SolVal):∀ (pre:List SolVal) (k:Nat),suf.length<k → pre.length+suf.length ≤ 3000000 →
 jQ (pre++suf) k (pre.length:Int) c.Free c.Defs c.Code c.Main nc ns []=some (if ∀ v∈suf,bL c.Free nc ns v then .inl (c.Free,c.Defs,c.Code,c.Main,nc,ns,[]) else .inr ([],2)):=by
 induction suf with
 | nil=>
  intro pre k hk _;obtain _ | k:=k
  ·omega
  rw [jQ,if_neg (by simp),if_pos (fun v h=>by cases h)]
 | cons e suf ih=>
  intro pre k hk hB;obtain _ | k:=k
  ·omega
  simp only [List.length_cons]at hk hB;rw [jQ,if_pos (bU _ _ _),bP,bsm];refine b1 (may_eq (x:=⟨c,nc,ns,[]⟩) (v:=e)) ?_;dsimp only
  by_cases g:bL c.Free nc ns e
  ·rw [decide_eq_true g,cond_true,aI (by omega),bsm,eY pre suf e,bR pre e,ih (pre++[e]) k (by omega) (by simp;omega)];by_cases g2:∀ v∈suf,bL c.Free nc ns v
   ·rw [if_pos g2,if_pos (qS.2 ⟨g,g2⟩)]
   ·rw [if_neg g2,if_neg (fun q=>g2 (qS.1 q).2)]
  ·rw [decide_eq_false g,cond_false,if_neg (fun q=>g (qS.1 q).1)];rfl
open Classical in
theorem rval {c:CodeProg} {x:Ref09_Doing} (suf:List SolVal):∀ (pre:List SolVal) (k:Nat),x.Env=pre++suf → suf.length<k → pre.length+suf.length ≤ 3000000 →
 pW c x k (pre.length:Int)=some (if ∀ v∈suf,bL c.Free x.Chans x.Spots v then .inl () else .inr ([],2)):=by
 induction suf with
 | nil=>
  intro pre k h hk _;obtain _ | k:=k
  ·omega
  rw [pW,h,if_neg (by simp),if_pos (fun v h=>by cases h)]
 | cons e suf ih=>
  intro pre k h hk hB;obtain _ | k:=k
  ·omega
  simp only [List.length_cons]at hk hB;rw [pW,h,if_pos (bU _ _ _),bP,bsm];refine b1 (value_eq (c:=c) (x:=⟨x.Start,x.Here,pre++e :: suf,x.Chans,x.Spots⟩)) ?_;dsimp only
  by_cases g:bL c.Free x.Chans x.Spots e
  ·rw [decide_eq_true g,cond_true,aI (by omega),bsm,bR pre e,ih (pre++[e]) k (by rw [h];simp) (by omega) (by simp;omega)];by_cases g2:∀ v∈suf,bL c.Free x.Chans x.Spots v
   ·rw [if_pos g2,if_pos (qS.2 ⟨g,g2⟩)]
   ·rw [if_neg g2,if_neg (fun q=>g2 (qS.1 q).2)]
  ·rw [decide_eq_false g,cond_false,if_neg (fun q=>g (qS.1 q).1)];rfl
theorem ladder {α:Type} {X Z:α} {nc ns here:Int}:(if nc<0 then X else if 60<nc then X else if ns<1 then X else if 24<ns then X else if here<0 then X else if ns ≤ here then X else Z)=if (0 ≤ nc ∧ nc ≤ 60) ∧ (1 ≤ ns ∧ ns ≤ 24) ∧ 0 ≤ here ∧ here<ns then Z else X:=by
 by_cases h:(0 ≤ nc ∧ nc ≤ 60) ∧ (1 ≤ ns ∧ ns ≤ 24) ∧ 0 ≤ here ∧ here<ns
 ·rw [if_pos h,if_neg (by omega),if_neg (by omega),if_neg (by omega),if_neg (by omega),if_neg (by omega),if_neg (by omega)]
 ·rw [if_neg h]
  repeat' split
  all_goals first | rfl | omega
structure DoOK (c:CodeProg) (start here:Int) (env:List SolVal) (nc ns:Int):Prop where
 formed:fE c
 beg:start∈bgs c
 r:R (scP c) c.Main ⟨0,c.Free⟩ start ⟨0,aL env⟩
 nums:(0 ≤ nc ∧ nc ≤ 60) ∧ (1 ≤ ns ∧ ns ≤ 24) ∧ 0 ≤ here ∧ here<ns
 vals:∀ v∈env,bL c.Free nc ns v
def outR:Option St → List CodeAct × Int
 | none=>([],3)
 | some s=>(s.ac,0)
theorem do_eq {fuel:Nat} {c:CodeProg} {start here nc ns:Int} {env:List SolVal} (hf:4000000 ≤ fuel) (hl:c.Code.length ≤ 400) (hd:∀ d∈c.Defs,smD d) (he:env.length ≤ 100):
 (DoOK c start here env nc ns ∧ ∃ r,cT c 20000 start here env [] ⟨nc,ns,[]⟩=some r ∧ jU fuel c start here env nc ns=some (outR r) ∧ nU fuel c ⟨start,here,env,nc,ns⟩=some (outR r)) ∨ (jU fuel c start here env nc ns=some ([],2) ∧ nU fuel c ⟨start,here,env,nc,ns⟩=some ([],2)):=by
 rcases aFn (fuel:=fuel) hf hl hd with⟨hF,x,e1,hx,h1⟩ | ⟨hF,e1⟩
 rotate_left
 ·rcases aEf (fuel:=fuel) hf hl hd with⟨g,_⟩ | ⟨_,e2⟩
  ·exact absurd g hF
  refine .inr ⟨?_,?_⟩
  ·rw [jU];exact b1 e1 rfl
  ·rw [nU];refine b1 e2 ?_;rw [if_pos (by decide)]
 rcases aEf (fuel:=fuel) hf hl hd with⟨_,lv,e2,h2,h3⟩ | ⟨g,_⟩
 rotate_left
 ·exact absurd hF g
 have hp:=hF.1.pre hl
 have hsm:=aBb hF.1.defs hl fun d hd=>(hF.1.okD d hd).1
 have hbl:=hsm.len
 have e3:=aDq (fuel:=fuel) hf hsm
 have e4:=lK (fuel:=fuel) (l:=bgs c) (c:=start) (by omega) (by omega)
 have hsl:(bS (bgs c)).length=(bgs c).length:=(pZ _).length_eq
 have e5:=aEu (fuel:=fuel) (l:=bS (bgs c)) (c:=start) (by omega) (by omega)
 rw [decide_eq_decide.2 ((pZ (bgs c)).mem_iff (a:=start))]at e5
 by_cases hb:start∈bgs c
 rotate_left
 ·rw [decide_eq_false hb]at e4 e5;refine .inr ⟨?_,?_⟩
  ·rw [jU];refine b1 e1 ?_;rw [Bool.not_true,cond_false,bsm];refine b1 (by rw [hx];exact e5) rfl
  ·rw [nU];refine b1 e2 ?_;rw [if_neg (fun g=>g rfl)];refine b1 e3 ?_;exact b1 e4 rfl
 rw [decide_eq_true hb]at e4 e5
 obtain⟨b0,b1',_⟩:=((uS (by intro g;have:=hF.1.code.1;rw [g]at this;simp at this)).1 hF.1.bl).2.1 start hb
 have hsn:((start.toNat:Nat):Int)=start:=by omega
 obtain⟨l,hR⟩:=hF.2.2 start.toNat (by omega)
 have hg:=(h1 start.toNat l).2 hR
 have hv:=(h3 start.toNat l).2 hR
 rw [hsn]at hR hg
 have hix:idx lv start=some l:=by have:=eA hv;rwa [hsn]at this
 have hst:=aFJ hp hF hb hR
 by_cases hle:(env.length:Int)=l.Slots
 rotate_left
 ·refine .inr ⟨?_,?_⟩
  ·rw [jU];refine b1 e1 ?_;rw [Bool.not_true,cond_false,bsm];refine b1 (by rw [hx];exact e5) ?_
   rw [Bool.not_true,cond_false,hg,Option.getD_some,if_pos hle]
  ·rw [nU];refine b1 e2 ?_;rw [if_neg (fun g=>g rfl)];refine b1 e3 ?_;refine b1 e4 ?_
   rw [Bool.not_true,cond_false];refine b1 hix ?_;rw [if_pos hle]
 have hP:∀ z,(if (0 ≤ nc ∧ nc ≤ 60) ∧ (1 ≤ ns ∧ ns ≤ 24) ∧ 0 ≤ here ∧ here<ns then((jQ env fuel 0 c.Free c.Defs c.Code c.Main nc ns []).bind fun o=>match o with
  | Sum.inr r=>some r
  | Sum.inl (x1,x2,x3,x4,x5,x6,x7)=>
  (fT fuel (⟨(⟨x1,x2,x3,x4⟩:CodeProg),x5,x6,x7⟩:aP) start here env).bind fun y6=>
  match y6 with
  | Sum.inr pv1=>(unN 29 .i64 pv1).bind fun e2=>some ([],e2)
  | Sum.inl y6=>
  some (y6.acts,0)) else some ([],2))=z → jU fuel c start here env nc ns=z:=fun z hz=>by
  rw [jU];refine b1 e1 ?_;rw [Bool.not_true,cond_false,bsm];refine b1 (by rw [hx];exact e5) ?_
  rw [Bool.not_true,cond_false,hg,Option.getD_some,if_neg (fun g=>g hle),ladder];exact hz
 have hD:∀ z,(if (0 ≤ nc ∧ nc ≤ 60) ∧ (1 ≤ ns ∧ ns ≤ 24) ∧ 0 ≤ here ∧ here<ns then((pW c ⟨start,here,env,nc,ns⟩ fuel 0).bind fun o=>match o with
  | Sum.inr r=>some r
  | Sum.inl _=>
  (gX fuel (⟨(⟨c.Free,c.Defs,c.Code,c.Main⟩:CodeProg),nc,ns,[],false⟩:cA) start here env).bind fun y7=>
  bif y7.long then
   some ([],3)
  else
   some (y7.acts,0)) else some ([],2))=z → nU fuel c ⟨start,here,env,nc,ns⟩=z:=fun z hz=>by
  rw [nU];refine b1 e2 ?_;rw [if_neg (fun g=>g rfl)];refine b1 e3 ?_;refine b1 e4 ?_
  rw [Bool.not_true,cond_false];refine b1 hix ?_;rw [if_neg (fun g=>g hle),ladder];exact hz
 by_cases hn:(0 ≤ nc ∧ nc ≤ 60) ∧ (1 ≤ ns ∧ ns ≤ 24) ∧ 0 ≤ here ∧ here<ns
 rotate_left
 ·exact .inr ⟨hP _ (if_neg hn),hD _ (if_neg hn)⟩
 have v1:=pval (c:=c) (nc:=nc) (ns:=ns) env [] fuel (by omega) (by simp;omega)
 have v2:=rval (c:=c) (x:=⟨start,here,env,nc,ns⟩) env [] fuel rfl (by omega) (by simp;omega)
 simp only [List.nil_append,List.length_nil,Int.natCast_zero]at v1 v2
 by_cases hva:∀ v∈env,bL c.Free nc ns v
 rotate_left
 ·rw [if_neg hva]at v1 v2;refine .inr ⟨hP _ ?_,hD _ ?_⟩
  ·rw [if_pos hn];exact b1 v1 rfl
  ·rw [if_pos hn];exact b1 v2 rfl
 rw [if_pos hva]at v1 v2
 have hRs:R (scP c) c.Main ⟨0,c.Free⟩ start ⟨0,aL env⟩:=by
  obtain⟨ls,lk⟩:=l;have hst:ls=0:=hst;have hle:aL env=lk:=hle;rw [hle];subst hst;exact hR
 have hle':aL env ≤ 100:=by unfold aL;omega
 have hlc:aL c.Code ≤ 400:=by unfold aL;omega
 obtain⟨r,hr,_⟩:=xY hp hF 20000 start here env [] ⟨nc,ns,[]⟩ ⟨hRs,fun v h=>(hva v h).okV,(fun v h=>by cases h),(by rw [aBH];exact b0),(by dsimp only;omega),hn.1,(by dsimp only;omega),(by dsimp only;rw [aBH];omega),(by dsimp only;omega)⟩
 refine .inl ⟨⟨hF,hb,hRs,hn,hva⟩,r,hr,hP _ ?_,hD _ ?_⟩
 ·rw [if_pos hn];refine b1 v1 ?_;obtain _ | fuel:=fuel
  ·omega
  have:=prun hl 20000 start here env [] _ r hr fuel fuel (by omega) (by omega)
  have e6:fT (fuel+1) ⟨c,nc,ns,[]⟩ start here env=some (toP c r):=by
   rw [fT];exact b1 (yY (by omega)) this
  refine b1 e6 ?_;cases r <;> rfl
 ·rw [if_pos hn];refine b1 v2 ?_;obtain _ | fuel:=fuel
  ·omega
  obtain⟨y,q1,q2⟩:=rrun hl 20000 start here env [] _ r hr fuel fuel (by omega) (by omega)
  have e6:gX (fuel+1) ⟨c,nc,ns,[],false⟩ start here env=some y:=by
   rw [gX,List.nil_append];exact b1 (dP (by omega)) q1
  refine b1 e6 ?_;cases r with
  | none=>have q2:y.long=true:=q2;rw [q2];rfl
  | some s=>have q2:y=⟨c,s.nc,s.ns,s.ac,false⟩:=q2;rw [q2];rfl
open Go.SX Go.SW Go.Dt
def kl:List Int → List Int → Prop
 | [],[]=>False
 | [],_ :: _=>True
 | _ :: _,[]=>False
 | a :: s,b :: t=>a<b ∨ (a=b ∧ kl s t)
theorem kl_irr:∀ s:List Int,¬ kl s s
 | [],h=>h
 | a :: s,h=>by
  rcases h with h | ⟨_,h⟩
  ·omega
  ·exact kl_irr s h
theorem aDB:∀ {s t u:List Int},kl s t → kl t u → kl s u
 | [],[],_,h,_=>h.elim
 | _ :: _,[],_,h,_=>h.elim
 | [],_ :: _,[],_,k=>k.elim
 | [],_ :: _,_ :: _,_,_=>trivial
 | _ :: _,_ :: _,[],_,k=>k.elim
 | a :: s,b :: t,c :: u,h,k=>by
  rcases h with h | ⟨h1,h2⟩
  ·rcases k with k | ⟨k1,_⟩
   ·exact .inl (by omega)
   ·exact .inl (by omega)
  ·rcases k with k | ⟨k1,k2⟩
   ·exact .inl (by omega)
   ·exact .inr ⟨by omega,aDB h2 k2⟩
theorem sN (P:List Int) {s t:List Int} (h:kl s t):kl (P++s) (P++t):=by
 induction P with
 | nil=>exact h
 | cons a P ih=>exact .inr ⟨rfl,ih⟩
def InB (c:CodeProg) (b m:Int):Prop:=0 ≤ b ∧ b ≤ m ∧ ∀ k:Nat,b ≤ (k:Int) → (k:Int)<m → ∀ i,c.Code[k]? =some i → i.Op≠16
theorem InB.self {c:CodeProg} {b:Int} (h:0 ≤ b):InB c b b:=⟨h,by omega,fun k _ _=>by omega⟩
theorem InB.next {c:CodeProg} {b m:Int} {i:CodeIns} (h:InB c b m) (hi:c.Code[m.toNat]? =some i) (ho:i.Op≠16):InB c b (m+1):=by
 obtain⟨h1,h2,h3⟩:=h
 refine⟨h1,by omega,fun k k1 k2 j hj=>?_⟩
 by_cases e:(k:Int)=m
 ·rw [show m.toNat=k by omega,hj]at hi;cases hi;exact ho
 ·exact h3 k k1 (by omega) j hj
theorem InB.jump {c:CodeProg} {b m:Int} {i:CodeIns} (h:InB c b m) (hA:m<i.A) (hn:∀ k:Nat,m.toNat ≤ k → (k:Int)<i.A → ∀ j,c.Code[k]? =some j → j.Op≠16):InB c b i.A:=by
 obtain⟨h1,h2,h3⟩:=h
 refine⟨h1,by omega,fun k k1 k2 j hj=>?_⟩
 by_cases e:(k:Int)<m
 ·exact h3 k k1 e j hj
 ·exact hn k (by omega) k2 j hj
structure BgOK (c:CodeProg):Prop where
 nd:(bgs c).Nodup
 pos:∀ b∈bgs c,0 ≤ b ∧ b<(c.Code.length:Int) ∧ (0<b → ∃ q,c.Code[(b - 1).toNat]? =some q ∧ q.Op=16)
theorem fE.bg {c:CodeProg} (h:fE c):BgOK c:=by
 have:=(uS (by intro g;have:=h.1.code.1;rw [g]at this;simp at this)).1 h.1.bl
 exact⟨this.1,this.2.1⟩
theorem aAQ {c:CodeProg} (hB:BgOK c) {b b' m:Int} (hb:b∈bgs c) (hb':b'∈bgs c) (h:InB c b m) (h':InB c b' m):b=b':=by
 have go:∀ x y:Int,y∈bgs c → InB c x m → InB c y m → ¬ x<y:=fun x y hy hx hy' hlt=>by
  obtain⟨y1,y2,y3⟩:=hB.pos y hy;obtain⟨q,q1,q2⟩:=y3 (by have:=hx.1;omega)
  exact hx.2.2 (y - 1).toNat (by have:=hx.1;omega) (by have:=hy'.2.1;have:=hx.1;omega) q q1 q2
 have h1:=go b b' hb' h h'
 have h2:=go b' b hb h' h
 omega
inductive kS (c:CodeProg) (m k b:Int):Prop
 | spot {i:CodeIns} {d:ScopeDef} {j:Nat} {p:ScopeSpot}:c.Code[m.toNat]? =some i → i.Op=11 → 0 ≤ i.A → c.Defs[i.A.toNat]? =some d → d.Spots[j]? =some p → k=(j:Int) → p.Node=b → kS c m k b
 | rule {i:CodeIns} {d:ScopeDef} {j:Nat} {r:ScopeRule}:c.Code[m.toNat]? =some i → i.Op=11 → 0 ≤ i.A → c.Defs[i.A.toNat]? =some d → d.Rules[j]? =some r → k=-1 - (j:Int) → r.Node=b → kS c m k b
 | on {i:CodeIns}:c.Code[m.toNat]? =some i → i.Op=13 ∨ i.Op=15 → k=0 → i.B=b → kS c m k b
theorem vP {d:ScopeDef} {j:Nat} {p:ScopeSpot} {b:Int} (h:d.Spots[j]? =some p) (e:p.Node=b):b∈d.Spots.map (·.Node):=List.mem_map.2 ⟨p,List.mem_of_getElem? h,e⟩
theorem uE {d:ScopeDef} {j:Nat} {p:ScopeRule} {b:Int} (h:d.Rules[j]? =some p) (e:p.Node=b):b∈d.Rules.map (·.Node):=List.mem_map.2 ⟨p,List.mem_of_getElem? h,e⟩
theorem qV {α:Type} {f:α → List Int} {x:Int}:∀ {l:List α},(l.flatMap f).Nodup → ∀ {i j:Nat} {a b:α},l[i]? =some a → l[j]? =some b → x∈f a → x∈f b → i=j
 | [],_,i,j,a,b,h,_,_,_=>by simp at h
 | e :: l,hn,i,j,a,b,hi,hj,ha,hb=>by
  rw [List.flatMap_cons]at hn;obtain⟨n1,n2,n3⟩:=List.nodup_append.1 hn;cases i with
  | zero=>
   simp only [List.getElem?_cons_zero,Option.some.injEq]at hi;subst hi;cases j with
   | zero=>rfl
   | succ j=>exact absurd rfl (n3 x ha x (List.mem_flatMap.2 ⟨b,List.mem_of_getElem? (by simpa using hj),hb⟩))
  | succ i=>
   cases j with
   | zero=>
    simp only [List.getElem?_cons_zero,Option.some.injEq]at hj;subst hj;exact absurd rfl (n3 x hb x (List.mem_flatMap.2 ⟨a,List.mem_of_getElem? (by simpa using hi),ha⟩))
   | succ j=>rw [qV n2 (i:=i) (j:=j) (by simpa using hi) (by simpa using hj) ha hb]
theorem vK {α:Type} {f:α → List Int}:∀ {l:List α},(l.flatMap f).Nodup → ∀ a∈l,(f a).Nodup
 | [],_,a,h=>by cases h
 | e :: l,hn,a,h=>by
  rw [List.flatMap_cons]at hn;obtain⟨n1,n2,n3⟩:=List.nodup_append.1 hn;cases h with
  | head=>exact n1
  | tail _ h=>exact vK n2 a h
theorem aCs:∀ l:List CodeIns,onB l=l.flatMap fun i=>if iA i=true then [i.B] else []
 | []=>rfl
 | i :: l=>by rw [onB,List.flatMap_cons,aCs l]
theorem nd_idx {α:Type} {l:List α} {g:α → Int} (h:(l.map g).Nodup) {i j:Nat} {a b:α} (hi:l[i]? =some a) (hj:l[j]? =some b) (e:g a=g b):i=j:=by
 have h1:=(List.getElem?_eq_some_iff.1 hi).1
 have h2:(l.map g)[i]? =(l.map g)[j]?:=by simp [hi,hj,e]
 exact(List.getElem?_inj (by simpa using h1) h).1 h2
theorem aEL:∀ (l:List CodeIns) (ds:List Int),dE ds l → ∀ {i j:Nat} {a b:CodeIns},l[i]? =some a → l[j]? =some b → a.Op=11 → b.Op=11 → a.A=b.A → i=j:=by
 have aux:∀ (l:List CodeIns) (ds:List Int),dE ds l → ∀ {j:Nat} {b:CodeIns},l[j]? =some b → b.Op=11 → b.A ∉ ds:=fun l=>by
  induction l with
  | nil=>intro ds _ j b h;simp at h
  | cons e l ih=>
   intro ds h j b hj hb;cases j with
   | zero=>
    simp only [List.getElem?_cons_zero,Option.some.injEq]at hj;subst hj;exact h.1 hb
   | succ j=>
    have:=ih _ h.2 (j:=j) (by simpa using hj) hb
    intro g;apply this
    split
    ·exact List.mem_append_left _ g
    ·exact g
 intro l
 induction l with
 | nil=>intro ds _ i j a b h;simp at h
 | cons e l ih=>
  intro ds h i j a b hi hj ha hb he;cases i with
  | zero=>
   simp only [List.getElem?_cons_zero,Option.some.injEq]at hi;subst hi;cases j with
   | zero=>rfl
   | succ j=>
    have:=aux l _ h.2 (j:=j) (by simpa using hj) hb
    rw [if_pos ha]at this;exact absurd (by rw [he];simp) this
  | succ i=>
   cases j with
   | zero=>
    simp only [List.getElem?_cons_zero,Option.some.injEq]at hj;subst hj;have:=aux l _ h.2 (j:=i) (by simpa using hi) ha
    rw [if_pos hb]at this;exact absurd (by rw [← he];simp) this
   | succ j=>rw [ih _ h.2 (i:=i) (j:=j) (by simpa using hi) (by simpa using hj) ha hb he]
theorem kS.mem {c:CodeProg} {m j b:Int} (h:kS c m j b):b∈c.Defs.flatMap bgD++onB c.Code:=by
 cases h with
 | spot h1 h2 h3 h4 h5 _ h7=>exact List.mem_append_left _ (List.mem_flatMap.2 ⟨_,List.mem_of_getElem? h4,List.mem_append_right _ (vP h5 h7)⟩)
 | rule h1 h2 h3 h4 h5 _ h7=>exact List.mem_append_left _ (List.mem_flatMap.2 ⟨_,List.mem_of_getElem? h4,List.mem_append_left _ (uE h5 h7)⟩)
 | on h1 h2 _ h4=>exact List.mem_append_right _ ((wT _).2 ⟨_,List.mem_of_getElem? h1,h2,h4⟩)
theorem aGR {c:CodeProg} (hn:(bgs c).Nodup) (hd:dE [] c.Code) {m j m' j' b:Int} (h0:0 ≤ m) (h0':0 ≤ m') (h:kS c m j b) (h':kS c m' j' b):m=m' ∧ j=j':=by
 obtain⟨_,n1⟩:=List.nodup_cons.1 hn
 obtain⟨n2,n3,n4⟩:=List.nodup_append.1 n1
 have hm:∀ {a b:CodeIns},c.Code[m.toNat]? =some a → c.Code[m'.toNat]? =some b → a.Op=11 → b.Op=11 → 0 ≤ a.A → 0 ≤ b.A → a.A.toNat=b.A.toNat → m=m':=fun p1 p2 p3 p4 p5 p6 p7=>by
  have:=aEL _ _ hd p1 p2 p3 p4 (by omega)
  omega
 have hon:∀ {d:ScopeDef} {n k:Nat} {i:CodeIns},c.Defs[n]? =some d → b∈bgD d → c.Code[k]? =some i → (i.Op=13 ∨ i.Op=15) → i.B=b → False:=fun p1 p2 p3 p4 p5=>
  n4 _ (List.mem_flatMap.2 ⟨_,List.mem_of_getElem? p1,p2⟩) _ ((wT _).2 ⟨_,List.mem_of_getElem? p3,p4,p5⟩) rfl
 cases h with
 | spot h1 h2 h3 h4 h5 h6 h7=>
  have e1:=vP h5 h7;cases h' with
  | spot k1 k2 k3 k4 k5 k6 k7=>
   have e2:=vP k5 k7;have hq:=qV n2 h4 k4 (List.mem_append_right _ e1) (List.mem_append_right _ e2);have hmm:=hm h1 k1 h2 k2 h3 k3 hq;rw [hq,k4]at h4;cases h4
   obtain⟨_,q,_⟩:=List.nodup_append.1 (vK n2 _ (List.mem_of_getElem? k4));exact⟨hmm,by rw [h6,k6,nd_idx q h5 k5 (h7.trans k7.symm)]⟩
  | rule k1 k2 k3 k4 k5 k6 k7=>
   have e2:=uE k5 k7;have hq:=qV n2 h4 k4 (List.mem_append_right _ e1) (List.mem_append_left _ e2);rw [hq,k4]at h4;cases h4
   obtain⟨_,_,q⟩:=List.nodup_append.1 (vK n2 _ (List.mem_of_getElem? k4));exact absurd rfl (q _ e2 _ e1)
  | on k1 k2 _ k4=>exact(hon h4 (List.mem_append_right _ e1) k1 k2 k4).elim
 | rule h1 h2 h3 h4 h5 h6 h7=>
  have e1:=uE h5 h7;cases h' with
  | spot k1 k2 k3 k4 k5 k6 k7=>
   have e2:=vP k5 k7;have hq:=qV n2 h4 k4 (List.mem_append_left _ e1) (List.mem_append_right _ e2);rw [hq,k4]at h4;cases h4
   obtain⟨_,_,q⟩:=List.nodup_append.1 (vK n2 _ (List.mem_of_getElem? k4));exact absurd rfl (q _ e1 _ e2)
  | rule k1 k2 k3 k4 k5 k6 k7=>
   have e2:=uE k5 k7;have hq:=qV n2 h4 k4 (List.mem_append_left _ e1) (List.mem_append_left _ e2);have hmm:=hm h1 k1 h2 k2 h3 k3 hq;rw [hq,k4]at h4;cases h4
   obtain⟨q,_,_⟩:=List.nodup_append.1 (vK n2 _ (List.mem_of_getElem? k4));exact⟨hmm,by rw [h6,k6,nd_idx q h5 k5 (h7.trans k7.symm)]⟩
  | on k1 k2 _ k4=>exact(hon h4 (List.mem_append_left _ e1) k1 k2 k4).elim
 | on h1 h2 h3 h4=>
  cases h' with
  | spot k1 k2 k3 k4 k5 _ k7=>exact(hon k4 (List.mem_append_right _ (vP k5 k7)) h1 h2 h4).elim
  | rule k1 k2 k3 k4 k5 _ k7=>exact(hon k4 (List.mem_append_left _ (uE k5 k7)) h1 h2 h4).elim
  | on k1 k2 k3 k4=>
   rw [aCs]at n3;have o1:∀ i:CodeIns,(i.Op=13 ∨ i.Op=15) → i.B∈(if iA i=true then [i.B] else []):=fun i hi=>by rw [if_pos (by unfold iA;exact decide_eq_true hi)];simp
   have:=qV (x:=b) n3 h1 k1 (h4 ▸ o1 _ h2) (k4 ▸ o1 _ k2);exact⟨by omega,by rw [h3,k3]⟩
inductive PB (c:CodeProg):Int → List Int → Prop
 | main:PB c c.Main []
 | opened {b m j b':Int} {P:List Int}:PB c b P → InB c b m → kS c m j b' → PB c b' (P++[m,j])
theorem PB.mem {c:CodeProg} {b:Int} {P:List Int} (h:PB c b P):b∈bgs c:=by
 cases h with
 | main=>exact .head _
 | opened _ _ h=>exact .tail _ h.mem
theorem PB_uniq {c:CodeProg} (hB:BgOK c) (hd:dE [] c.Code) {b:Int} {P:List Int} (h:PB c b P):∀ {P':List Int},PB c b P' → P=P':=by
 induction h with
 | main=>
  intro P' h';generalize hb:c.Main=b at h'
  cases h' with
  | main=>rfl
  | opened _ _ k=>exact absurd (by rw [hb];exact k.mem) (List.nodup_cons.1 hB.nd).1
 | opened h1 h2 h3 ih=>
  intro P' h';rename_i b0 m j b' P;generalize hb:b'=x at h'
  cases h' with
  | main=>subst hb;exact absurd h3.mem (List.nodup_cons.1 hB.nd).1
  | opened k1 k2 k3=>
   subst hb;obtain⟨e1,e2⟩:=aGR hB.nd hd (by have:=h2.1;have:=h2.2.1;omega) (by have:=k2.1;have:=k2.2.1;omega) h3 k3
   subst e1 e2;have:=aAQ hB h1.mem k1.mem h2 k2;subst this;rw [ih k1]
open Go.SX Go.SW Go.Dt
theorem scI_kind {c:CodeProg} {n:Nat} {i:CodeIns} {l:CodeLevel} {s:List (Int × CodeLevel)} {p:Int × CodeLevel} (hi:c.Code[n]? =some i) (hA:i.Op=11 → 0 ≤ i.A) (h:scI c n i l=some s) (hp:p∈s):(p.1=(n:Int)+1 ∧ i.Op≠16) ∨ (p.1=i.A ∧ (i.Op=9 ∨ i.Op=10) ∧ dR c.Code n i) ∨ ∃ j,kS c (n:Int) j p.1:=by
 have hi':c.Code[((n:Nat):Int).toNat]? =some i:=by rw [Int.toNat_natCast];exact hi
 rw [scI]at h
 by_cases o1:i.Op=1
 ·rw [if_pos o1]at h;cases h
  exact .inl ⟨by rw [List.mem_singleton.1 hp],by omega⟩
 rw [if_neg o1]at h
 by_cases o2:i.Op=2
 ·rw [if_pos o2]at h;split at h <;> cases h
  exact .inl ⟨by rw [List.mem_singleton.1 hp],by omega⟩
 rw [if_neg o2]at h
 by_cases o3:3 ≤ i.Op ∧ i.Op ≤ 7
 ·rw [if_pos o3]at h;split at h <;> cases h
  exact .inl ⟨by rw [List.mem_singleton.1 hp],by omega⟩
 rw [if_neg o3]at h
 by_cases o8:i.Op=8
 ·rw [if_pos o8]at h;split at h <;> cases h
  exact .inl ⟨by rw [List.mem_singleton.1 hp],by omega⟩
 rw [if_neg o8]at h
 by_cases o9:i.Op=9
 ·rw [if_pos o9]at h;split at h <;> cases h
  rename_i g;cases hp with
  | head=>exact .inr (.inl ⟨rfl, .inl o9,g.2⟩)
  | tail _ hp=>exact .inl ⟨by rw [List.mem_singleton.1 hp],by omega⟩
 rw [if_neg o9]at h
 by_cases o10:i.Op=10
 ·rw [if_pos o10]at h;split at h <;> cases h
  rename_i g;exact .inr (.inl ⟨by rw [List.mem_singleton.1 hp], .inr o10,g⟩)
 rw [if_neg o10]at h
 by_cases o11:i.Op=11
 ·rw [if_pos o11]at h;split at h
  ·split at h
   ·cases h
   ·rename_i d hd;cases h;rcases List.mem_append.1 hp with g | g
    ·rcases List.mem_append.1 g with g | g
     ·obtain⟨x,x1,rfl⟩:=List.mem_map.1 g;obtain⟨j,hj⟩:=List.mem_iff_getElem?.1 x1;exact .inr (.inr ⟨_, .spot hi' o11 (hA o11) hd hj rfl rfl⟩)
     ·obtain⟨x,x1,rfl⟩:=List.mem_map.1 g;obtain⟨j,hj⟩:=List.mem_iff_getElem?.1 x1;exact .inr (.inr ⟨_, .rule hi' o11 (hA o11) hd hj rfl rfl⟩)
    ·exact .inl ⟨by rw [List.mem_singleton.1 g],by omega⟩
  ·cases h
 rw [if_neg o11]at h
 by_cases o12:i.Op=12
 ·rw [if_pos o12]at h;split at h <;> cases h
  exact .inl ⟨by rw [List.mem_singleton.1 hp],by omega⟩
 rw [if_neg o12]at h
 by_cases o13:i.Op=13 ∨ i.Op=15
 ·rw [if_pos o13]at h;split at h <;> cases h
  cases hp with
  | head=>exact .inr (.inr ⟨_, .on hi' o13 rfl rfl⟩)
  | tail _ hp=>exact .inl ⟨by rw [List.mem_singleton.1 hp],by omega⟩
 rw [if_neg o13]at h
 by_cases o14:i.Op=14
 ·rw [if_pos o14]at h;split at h <;> cases h
  exact .inl ⟨by rw [List.mem_singleton.1 hp],by omega⟩
 rw [if_neg o14]at h
 split at h <;> cases h
 cases hp
theorem R_PB {c:CodeProg} (hp:Pre c) (hF:fE c) {m:Int} {l:CodeLevel} (h:R (scP c) c.Main ⟨0,c.Free⟩ m l):∃ b P,PB c b P ∧ InB c b m:=by
 induction h with
 | base=>exact⟨_,_, .main, .self hF.1.main.1⟩
 | step h1 h2 h3 ih=>
  rename_i n l s p;obtain⟨b,P,k1,k2⟩:=ih;obtain⟨i,s',hn,_,hi,hs,_⟩:=R_at hp hF h1;have hnn:((n.toNat:Nat):Int)=n:=by omega
  rw [qY hi,hs]at h2;cases h2;have hok:=(hp.okI _ i hi).1;rw [hnn]at hok;rcases scI_kind hi (fun g=>(hok.pos (by omega)).1) hs h3 with⟨g1,g2⟩ | ⟨g1,g2,g3⟩ | ⟨j,g⟩
  ·rw [g1,hnn];exact⟨b,P,k1,k2.next hi g2⟩
  ·rw [g1];exact⟨b,P,k1,k2.jump (hok.jump g2).1 (g3 g2)⟩
  ·rw [hnn]at g;have k3:PB c p.1 (P++[n,j]):= .opened k1 k2 g;exact⟨_,_,k3, .self (hF.bg.pos _ k3.mem).1⟩
inductive Act (c:CodeProg) (l:List CodeAct) (nc ns:Int):CodeAct → Int → Int → Prop
 | makes {h N:Int} {env:List SolVal} {d:ScopeDef}:0 ≤ N → c.Defs[N.toNat]? =some d → (∀ a∈l,a.Deed=3 → a.N≠N) → Act c l nc ns ⟨3,h,N,bY d nc ns env⟩ (nc+aL d.Chans) (ns+aL d.Spots)
 | waits {h N:Int} {v:List SolVal} {i:CodeIns}:0 ≤ N → c.Code[N.toNat]? =some i → (i.Op=13 ∨ i.Op=14 ∨ i.Op=15) → (∀ a∈l,a.Deed=4 → a.N≠N) → Act c l nc ns ⟨4,h,N,v⟩ nc ns
 | says {h N:Int} {v:List SolVal}:0 ≤ N → N<c.Free → v.length ≤ 3 → Act c l nc ns ⟨1,h,N,v⟩ nc ns
 | sends {h N:Int} {v:List SolVal}:0 ≤ N → N<nc → v.length ≤ 3 → Act c l nc ns ⟨2,h,N,v⟩ nc ns
structure Com (c:CodeProg) (h0 n0:Int) (a:CodeAct) (nc ns:Int):Prop where
 here:a.At=h0 ∨ (n0 ≤ a.At ∧ a.At<ns)
 vals:∀ v∈a.Vals,bL c.Free nc ns v
 len:a.Vals.length ≤ 200000
 nc:0 ≤ nc ∧ nc ≤ 60
 ns:0 ≤ ns ∧ ns ≤ 24
inductive Snd (c:CodeProg) (h0 c0 n0:Int):List CodeAct → Int → Int → Prop
 | nil:Snd c h0 c0 n0 [] c0 n0
 | step {l:List CodeAct} {nc ns nc' ns':Int} {a:CodeAct}:Snd c h0 c0 n0 l nc ns → Act c l nc ns a nc' ns' → Com c h0 n0 a nc' ns' → Snd c h0 c0 n0 (l++[a]) nc' ns'
def Kb (c:CodeProg) (κ:List Int) (p:Int):Prop:=∃ b P,PB c b P ∧ InB c b p ∧ kl (P++[p]) κ
def Blw (c:CodeProg) (l:List CodeAct) (κ:List Int):Prop:=∀ a∈l,(a.Deed=4 → Kb c κ a.N) ∧ (a.Deed=3 → ∃ p i,0 ≤ p ∧ c.Code[p.toNat]? =some i ∧ i.Op=11 ∧ i.A=a.N ∧ Kb c κ p)
theorem Kb.mono {c:CodeProg} {κ κ':List Int} {p:Int} (h:Kb c κ p) (k:kl κ κ'):Kb c κ' p:=by
 obtain⟨b,P,h1,h2,h3⟩:=h;exact⟨b,P,h1,h2,aDB h3 k⟩
theorem Blw.mono {c:CodeProg} {l:List CodeAct} {κ κ':List Int} (h:Blw c l κ) (k:kl κ κ'):Blw c l κ':=fun a ha=>by
 obtain⟨h1,h2⟩:=h a ha
 refine⟨fun e=>(h1 e).mono k,fun e=>?_⟩
 obtain⟨p,i,p0,p1,p2,p3,p4⟩:=h2 e
 exact⟨p,i,p0,p1,p2,p3,p4.mono k⟩
theorem Blw.add {c:CodeProg} {l:List CodeAct} {κ:List Int} {a:CodeAct} (h:Blw c l κ) (h4:a.Deed=4 → Kb c κ a.N) (h3:a.Deed=3 → ∃ p i,0 ≤ p ∧ c.Code[p.toNat]? =some i ∧ i.Op=11 ∧ i.A=a.N ∧ Kb c κ p):Blw c (l++[a]) κ:=fun b hb=>by
 rcases List.mem_append.1 hb with hb | hb
 ·exact h b hb
 ·rw [List.mem_singleton.1 hb];exact⟨h4,h3⟩
theorem bL.mono {fr a b a' b':Int} {v:SolVal} (h:bL fr a b v) (ha:a ≤ a') (hb:b ≤ b'):bL fr a' b' v:=by
 unfold bL at *;omega
theorem aAv {k:Int}:∀ (n:Nat) (c:Int),∀ v∈dF k c n,v.Kind=k ∧ c ≤ v.N ∧ v.N<c+n
 | 0,_,v,h=>by cases h
 | n+1,c,v,h=>by
  cases h with
  | head=>exact⟨rfl,by simp,by dsimp only;omega⟩
  | tail _ h=>have:=aAv n (c+1) v h;exact⟨this.1,by omega,by omega⟩
theorem envM_val {fr:Int} {d:ScopeDef} {a b:Int} {l:List SolVal} (ha:0 ≤ a) (hb:0 ≤ b) (h:∀ v∈l,bL fr a b v):∀ v∈bY d a b l,bL fr (a+aL d.Chans) (b+aL d.Spots) v:=fun v hv=>by
 have q1:=jZ d.Chans
 have q2:=jZ d.Spots
 rcases List.mem_append.1 hv with hv | hv
 ·rcases List.mem_append.1 hv with hv | hv
  ·exact(h v hv).mono (by omega) (by omega)
  ·have:=aAv _ _ v hv;unfold bL aL;omega
 ·have:=aAv _ _ v hv;unfold bL aL;omega
theorem sumV_val {fr a b op:Int} {v w:SolVal}:bL fr a b (sumV op v w):=by
 have h:=aBN op v w
 have hk:(sumV op v w).Kind=1:=rfl
 unfold okV cK at h
 rw [if_pos hk]at h
 exact .inl ⟨hk,h.1,h.2⟩
structure Keep (c:CodeProg) (h0 c0 n0 h:Int) (env stk:List SolVal) (s:St):Prop where
 snd:Snd c h0 c0 n0 s.ac s.nc s.ns
 ve:∀ v∈env,bL c.Free s.nc s.ns v
 vs:∀ v∈stk,bL c.Free s.nc s.ns v
 here:h=h0 ∨ (n0 ≤ h ∧ h<s.ns)
 n0:n0 ≤ s.ns
structure Kept (c:CodeProg) (h0 c0 n0:Int) (s s':St) (κ:List Int):Prop where
 snd:Snd c h0 c0 n0 s'.ac s'.nc s'.ns
 blw:Blw c s'.ac κ
 nc:s.nc ≤ s'.nc
 ns:s.ns ≤ s'.ns
theorem defM_snd {c:CodeProg} {h0 c0 n0:Int} {f:RF} {env:List SolVal} {b m:Int} {P:List Int} {i:CodeIns} {d:ScopeDef} (hB:BgOK c) (hb:PB c b P) (hm:InB c b m) (hi:c.Code[m.toNat]? =some i) (ho:i.Op=11) (hA:0 ≤ i.A) (hd:c.Defs[i.A.toNat]? =some d)
 (ih:∀ x h s s' Q,f x h env [] s=some (some s') → Keep c h0 c0 n0 h env [] s → PB c x Q → Blw c s.ac (Q++[x]) → Kept c h0 c0 n0 s s' (Q++[500])) {h1:Int} (hh:n0 ≤ h1) (suf:List ScopeSpot):∀ (pre:List ScopeSpot) (s s':St),d.Spots=pre++suf → gV f suf (h1+pre.length) env s=some (some s') → Snd c h0 c0 n0 s.ac s.nc s.ns → (∀ v∈env,bL c.Free s.nc s.ns v) → h1+aL d.Spots ≤ s.ns → Blw c s.ac (P++[m,(pre.length:Int)]) → Kept c h0 c0 n0 s s' (P++[m,aL d.Spots]):=by
 induction suf with
 | nil=>
  intro pre s s' h H k1 k2 k3 k4;cases H;rw [List.append_nil]at h;exact⟨k1,by unfold aL;rw [h];exact k4,by omega,by omega⟩
 | cons e suf ihl=>
  intro pre s s' h H k1 k2 k3 k4;rw [gV]at H;obtain⟨r,e1,H⟩:=Option.bind_eq_some_iff.1 H;have hlen:pre.length<d.Spots.length:=by rw [h];simp
  have hsp:d.Spots[pre.length]? =some e:=by rw [h];simp
  have hPB:PB c e.Node (P++[m,(pre.length:Int)]):= .opened hb hm (.spot hi ho hA hd hsp rfl rfl);cases r with
  | none=>cases H
  | some s1=>
   unfold aL at k3;have q:=ih e.Node _ s s1 _ e1 ⟨k1,k2,fun v hv=>(by cases hv), .inr ⟨by omega,by omega⟩,by omega⟩ hPB (k4.mono (by
    have:=sN (P++[m,(pre.length:Int)]) (s:=[]) (t:=[e.Node]) trivial
    rwa [List.append_nil]at this))
   have q1:=q.nc;have q2:=q.ns
   have w:=ihl (pre++[e]) s1 s' (by rw [h];simp) (by rw [← bR pre e,← Int.add_assoc];exact H) q.snd (fun v hv=>(k2 v hv).mono q1 q2) (by unfold aL;omega) (by
    rw [← bR pre e];refine q.blw.mono ?_;rw [List.append_assoc];exact sN P (.inr ⟨rfl, .inl (by omega)⟩))
   have w1:=w.nc;have w2:=w.ns
   exact⟨w.snd,w.blw,by omega,by omega⟩
theorem aAj {c:CodeProg} {h0 c0 n0:Int} (hp:Pre c) (hF:fE c):∀ (n:Nat) (m h:Int) (env stk:List SolVal) (s s':St) (b:Int) (P:List Int),cT c n m h env stk s=some (some s') → Keep c h0 c0 n0 h env stk s → PB c b P → InB c b m → Blw c s.ac (P++[m]) → Kept c h0 c0 n0 s s' (P++[500])
 | 0,_,_,_,_,_,_,_,_,H,_,_,_,_=>by cases H
 | n+1,m,h,env,stk,s,s',b,P,H,hK,hPB,hIn,hBl=>by
  rw [cT]at H;by_cases hC:okC env stk s
  rotate_left
  ·rw [if_neg hC]at H;cases H
  rw [if_pos hC]at H;obtain⟨i,hi,H⟩:=Option.bind_eq_some_iff.1 H;obtain⟨⟨hc1,hc2,hc3⟩,hc4,hc5⟩:=hC;obtain⟨hm0,hm1,hi'⟩:=oU hi;have hB:=hF.bg;have hmn:((m.toNat:Nat):Int)=m:=by omega
  obtain⟨hok,hin⟩:=hp.okI _ i hi';have hlen:=hp.len;have hj:=hok.jump;have hs8:=hok.send;have h11:=hok.df;have hpos:=hok.pos;have hop:=hok.op
  rw [hmn]at hj;have hne:=aCe hF m.toNat i hi';have kk:∀ {x:Int},m<x → kl (P++[m]) (P++[x]):=fun hx=>sN P (.inl hx)
  have own:∀ p:Int,Kb c (P++[m]) p → p≠m:=fun p ⟨b',P',q1,q2,q3⟩ e=>by
   subst e;have:=aAQ hB hPB.mem q1.mem hIn q2;subst this;rw [PB_uniq hB hF.1.ins.1.2 hPB q1]at q3;exact kl_irr _ q3
  have me:∀ {x:Int},m<x → Kb c (P++[x]) m:=fun hx=>⟨b,P,hPB,hIn,kk hx⟩
  have ih:=fun m' env' stk' s1 H (k:Keep c h0 c0 n0 h env' stk' s1) (hI:InB c b m') (hl:Blw c s1.ac (P++[m']))=>aAj (c:=c) (h0:=h0) (c0:=c0) (n0:=n0) hp hF n m' h env' stk' s1 s' b P H k hPB hI hl
  have nx:i.Op≠16 → InB c b (m+1):=fun g=>hIn.next hi' g
  have bl:Blw c s.ac (P++[m+1]):=hBl.mono (kk (by omega))
  by_cases o1:i.Op=1
  ·rw [if_pos o1]at H;refine ih _ _ _ _ H ⟨hK.snd,hK.ve,fun v hv=>?_,hK.here,hK.n0⟩ (nx (by omega)) bl
   rcases List.mem_append.1 hv with hv | hv
   ·exact hK.vs v hv
   ·rw [List.mem_singleton.1 hv];have:=hok.int o1;exact .inl ⟨rfl,this.1,this.2⟩
  rw [if_neg o1]at H;by_cases o2:i.Op=2
  ·rw [if_pos o2]at H;obtain⟨v,e1,H⟩:=Option.bind_eq_some_iff.1 H;refine ih _ _ _ _ H ⟨hK.snd,hK.ve,fun w hw=>?_,hK.here,hK.n0⟩ (nx (by omega)) bl
   rcases List.mem_append.1 hw with hw | hw
   ·exact hK.vs w hw
   ·rw [List.mem_singleton.1 hw];exact hK.ve v (List.mem_of_getElem? (oU e1).2.2)
  rw [if_neg o2]at H;by_cases o8:i.Op=8
  ·rw [if_pos o8]at H;obtain⟨v,e1,H⟩:=Option.bind_eq_some_iff.1 H;obtain⟨l,e2,H⟩:=Option.bind_eq_some_iff.1 H;obtain⟨t,e3,H⟩:=Option.bind_eq_some_iff.1 H;have k2:=qU e2;have k3:=qU e3;have hv:=hK.ve v (List.mem_of_getElem? (oU e1).2.2);have hl3:l.length ≤ 3:=by
    have:=hs8 o8;unfold slc aL at e2;split at e2
    ·cases e2;simp only [List.length_drop,List.length_take];omega
    ·cases e2
   have hcom:∀ D N,Com c h0 n0 ⟨D,h,N,l⟩ s.nc s.ns:=fun D N=>⟨hK.here,fun w hw=>hK.vs w (k2 w hw),by dsimp only;omega,hc4,hc5⟩
   have hs:sends v h l s=s ∨ ∃ a,sends v h l s=fH s a ∧ a.Deed≠3 ∧ a.Deed≠4 ∧ Act c s.ac s.nc s.ns a s.nc s.ns ∧ Com c h0 n0 a s.nc s.ns:=by
    unfold bL at hv;unfold sends;by_cases g:v.Kind=2
    ·rw [if_pos g];exact .inr ⟨_,rfl,by simp,by simp, .says (by omega) (by omega) hl3,hcom _ _⟩
    rw [if_neg g];by_cases g:v.Kind=3
    ·rw [if_pos g];exact .inr ⟨_,rfl,by simp,by simp, .sends (by omega) (by omega) hl3,hcom _ _⟩
    ·rw [if_neg g];exact .inl rfl
   rcases hs with hs | ⟨a,hs,a3,a4,a5,a6⟩
   ·rw [hs]at H;exact ih _ _ _ _ H ⟨hK.snd,hK.ve,fun w hw=>hK.vs w (k3 w hw),hK.here,hK.n0⟩ (nx (by omega)) bl
   ·rw [hs]at H;have q:=ih _ _ _ (fH s a) H ⟨.step hK.snd a5 a6,hK.ve,fun w hw=>hK.vs w (k3 w hw),hK.here,hK.n0⟩ (nx (by omega)) (bl.add (fun g=>absurd g a4) (fun g=>absurd g a3))
    exact⟨q.snd,q.blw,q.nc,q.ns⟩
  rw [if_neg o8]at H;by_cases o9:i.Op=9
  ·rw [if_pos o9]at H;obtain⟨v,e1,H⟩:=Option.bind_eq_some_iff.1 H;obtain⟨t,e3,H⟩:=Option.bind_eq_some_iff.1 H;have k3:=qU e3;have hjj:=hj (.inl o9);by_cases g:cK v=0
   ·rw [if_pos g]at H;exact ih _ _ _ _ H ⟨hK.snd,hK.ve,fun w hw=>hK.vs w (k3 w hw),hK.here,hK.n0⟩ (hIn.jump hjj.1 (hne (.inl o9))) (hBl.mono (kk hjj.1))
   ·rw [if_neg g]at H;exact ih _ _ _ _ H ⟨hK.snd,hK.ve,fun w hw=>hK.vs w (k3 w hw),hK.here,hK.n0⟩ (nx (by omega)) bl
  rw [if_neg o9]at H;by_cases o10:i.Op=10
  ·rw [if_pos o10]at H;have hjj:=hj (.inr o10);exact ih _ _ _ _ H hK (hIn.jump hjj.1 (hne (.inr o10))) (hBl.mono (kk hjj.1))
  rw [if_neg o10]at H;by_cases o11:i.Op=11
  ·rw [if_pos o11]at H;obtain⟨d,e1,H⟩:=Option.bind_eq_some_iff.1 H;obtain⟨d0,d1,d2⟩:=oU e1;by_cases hd:d.Chans.length ≤ 30 ∧ d.Spots.length ≤ 30
   rotate_left
   ·rw [if_neg hd]at H;cases H
   rw [if_pos hd]at H;by_cases g:s.nc+aL d.Chans ≤ 60 ∧ s.ns+aL d.Spots ≤ 24
   rotate_left
   ·rw [if_neg g]at H;cases H
   rw [if_pos g]at H;obtain⟨r1,e2,H⟩:=Option.bind_eq_some_iff.1 H;cases r1 with
   | none=>cases H
   | some s1=>
    have hel:=pO d s.nc s.ns env;have q1:=jZ d.Chans;have q2:=jZ d.Spots;have hev:=envM_val (d:=d) hc4.1 hc5.1 hK.ve;have hsn:Snd c h0 c0 n0 (mkS s d i.A h env).ac (mkS s d i.A h env).nc (mkS s d i.A h env).ns:= .step hK.snd (.makes d0 d2 fun a ha h3 e=>by
     obtain⟨p,i2,p0,p1,p2,p3,p4⟩:=(hBl a ha).2 h3;refine own p p4 ?_;have:=aEL _ _ hF.1.ins.1.2 p1 hi' p2 o11 (by rw [p3,e])
     omega)
     ⟨by have:=hK.here;have:(mkS s d i.A h env).ns=s.ns+aL d.Spots:=rfl;dsimp only;omega,hev,by dsimp only;omega,⟨by show 0 ≤ s.nc+_;omega,g.1⟩,⟨by show 0 ≤ s.ns+_;omega,g.2⟩⟩
    have hn1:(mkS s d i.A h env).ns=s.ns+aL d.Spots:=rfl;have hn2:(mkS s d i.A h env).nc=s.nc+aL d.Chans:=rfl;have hk0:kl (P++[m]) (P++[m,((0:Nat):Int)]):=sN P (.inr ⟨rfl,trivial⟩);have hbl:Blw c (mkS s d i.A h env).ac (P++[m,((0:Nat):Int)]):=(hBl.mono hk0).add (fun g=>by cases g) (fun _=>⟨m,i,hm0,hi',o11,rfl,b,P,hPB,hIn,hk0⟩)
    have w:=defM_snd (c:=c) (h0:=h0) (c0:=c0) (n0:=n0) (f:=cT c n) (env:=bY d s.nc s.ns env) hB hPB hIn hi' o11 d0 d2 (fun x h' t t' Q H' k1 k2 k3=>aAj hp hF n x h' _ [] t t' x Q H' k1 k2 (.self (hB.pos _ k2.mem).1) k3) (h1:=s.ns) hK.n0 d.Spots [] (mkS s d i.A h env) s1 rfl (by rw [List.length_nil,Int.natCast_zero,Int.add_zero];exact e2) hsn hev (by omega) hbl
    have w1:=w.nc;have w2:=w.ns
    have hhere:=hK.here;have hn0:=hK.n0;have z:=ih _ _ _ _ H ⟨w.snd,fun v hv=>(hev v hv).mono (by omega) (by omega),fun v hv=>(hK.vs v hv).mono (by omega) (by omega),by omega,by omega⟩ (nx (by omega)) (w.blw.mono (sN P (.inl (by omega))))
    have z1:=z.nc;have z2:=z.ns
    exact⟨z.snd,z.blw,by omega,by omega⟩
  rw [if_neg o11]at H;by_cases o12:i.Op=12
  ·rw [if_pos o12]at H;obtain⟨t,e1,H⟩:=Option.bind_eq_some_iff.1 H;have k3:=qU e1;exact ih _ _ _ _ H ⟨hK.snd,fun w hw=>hK.ve w (k3 w hw),hK.vs,hK.here,hK.n0⟩ (nx (by omega)) bl
  rw [if_neg o12]at H;by_cases o13:i.Op=13 ∨ i.Op=14 ∨ i.Op=15
  ·rw [if_pos o13]at H;have q:=ih _ _ _ (fH s ⟨4,h,m,env⟩) H ⟨.step hK.snd (.waits hm0 hi' o13 fun a ha h4=>own _ ((hBl a ha).1 h4)) ⟨hK.here,hK.ve,by dsimp only;omega,hc4,hc5⟩,hK.ve,hK.vs,hK.here,hK.n0⟩ (nx (by omega)) (bl.add (fun _=>me (by omega)) (fun g=>by cases g))
   exact⟨q.snd,q.blw,q.nc,q.ns⟩
  rw [if_neg o13]at H;by_cases o16:i.Op=16
  ·rw [if_pos o16]at H;cases H
   exact⟨hK.snd,hBl.mono (kk (by omega)),by omega,by omega⟩
  rw [if_neg o16]at H;obtain⟨v,e1,H⟩:=Option.bind_eq_some_iff.1 H;obtain⟨w,e2,H⟩:=Option.bind_eq_some_iff.1 H;obtain⟨t,e3,H⟩:=Option.bind_eq_some_iff.1 H;by_cases g:okV v ∧ okV w
  rotate_left
  ·rw [if_neg g]at H;cases H
  rw [if_pos g]at H;have k3:=qU e3;refine ih _ _ _ _ H ⟨hK.snd,hK.ve,fun x hx=>?_,hK.here,hK.n0⟩ (nx o16) bl
  rcases List.mem_append.1 hx with hx | hx
  ·exact hK.vs x (k3 x hx)
  ·rw [List.mem_singleton.1 hx];exact sumV_val
open Go.SX Go.SW Go.Dt
def Vs (s:St):Prop:=∀ a∈s.ac,a.Vals.length ≤ 200000
theorem Vs.add {s:St} (h:Vs s) {a:CodeAct} (k:a.Vals.length ≤ 200000):Vs (fH s a):=fun b hb=>by
 rcases List.mem_append.1 hb with hb | hb
 ·exact h b hb
 ·rw [List.mem_singleton.1 hb];exact k
theorem aB5 {f:RF} {env:List SolVal} (ih:∀ m h s s',f m h env [] s=some (some s') → Vs s → Vs s'):∀ (l:List ScopeSpot) (h:Int) (s s':St),gV f l h env s=some (some s') → Vs s → Vs s'
 | [],_,s,s',e,k=>by cases e;exact k
 | p :: l,h,s,s',e,k=>by
  rw [gV]at e;obtain⟨r,e1,e⟩:=Option.bind_eq_some_iff.1 e;cases r with
  | none=>cases e
  | some s1=>exact aB5 ih l (h+1) s1 s' e (ih _ _ _ _ e1 k)
theorem zE {c:CodeProg}:∀ (n:Nat) (m h:Int) (env stk:List SolVal) (s s':St),cT c n m h env stk s=some (some s') → Vs s → Vs s' ∧ s'.ac.length ≤ 1000000
 | 0,_,_,_,_,_,_,H,_=>by cases H
 | n+1,m,h,env,stk,s,s',H,hv=>by
  rw [cT]at H;by_cases hC:okC env stk s
  rotate_left
  ·rw [if_neg hC]at H;cases H
  rw [if_pos hC]at H;obtain⟨i,hi,H⟩:=Option.bind_eq_some_iff.1 H;obtain⟨⟨hc1,hc2,hc3⟩,hc4,hc5⟩:=hC;have ih:=fun m env stk s H hv=>zE (c:=c) n m h env stk s s' H hv
  by_cases o1:i.Op=1
  ·rw [if_pos o1]at H;exact ih _ _ _ _ H hv
  rw [if_neg o1]at H;by_cases o2:i.Op=2
  ·rw [if_pos o2]at H;obtain⟨v,e1,H⟩:=Option.bind_eq_some_iff.1 H;exact ih _ _ _ _ H hv
  rw [if_neg o2]at H;by_cases o8:i.Op=8
  ·rw [if_pos o8]at H;obtain⟨v,e1,H⟩:=Option.bind_eq_some_iff.1 H;obtain⟨l,e2,H⟩:=Option.bind_eq_some_iff.1 H;obtain⟨t,e3,H⟩:=Option.bind_eq_some_iff.1 H;have k2:=wS e2;refine ih _ _ _ _ H ?_;unfold sends;by_cases g:v.Kind=2
   ·rw [if_pos g];exact hv.add (by dsimp only;omega)
   rw [if_neg g];by_cases g:v.Kind=3
   ·rw [if_pos g];exact hv.add (by dsimp only;omega)
   ·rw [if_neg g];exact hv
  rw [if_neg o8]at H;by_cases o9:i.Op=9
  ·rw [if_pos o9]at H;obtain⟨v,e1,H⟩:=Option.bind_eq_some_iff.1 H;obtain⟨t,e3,H⟩:=Option.bind_eq_some_iff.1 H;exact ih _ _ _ _ H hv
  rw [if_neg o9]at H;by_cases o10:i.Op=10
  ·rw [if_pos o10]at H;exact ih _ _ _ _ H hv
  rw [if_neg o10]at H;by_cases o11:i.Op=11
  ·rw [if_pos o11]at H;obtain⟨d,e1,H⟩:=Option.bind_eq_some_iff.1 H;by_cases hd:d.Chans.length ≤ 30 ∧ d.Spots.length ≤ 30
   rotate_left
   ·rw [if_neg hd]at H;cases H
   rw [if_pos hd]at H;by_cases g:s.nc+aL d.Chans ≤ 60 ∧ s.ns+aL d.Spots ≤ 24
   rotate_left
   ·rw [if_neg g]at H;cases H
   rw [if_pos g]at H;obtain⟨r1,e2,H⟩:=Option.bind_eq_some_iff.1 H;have hel:=pO d s.nc s.ns env;cases r1 with
   | none=>cases H
   | some s1=>exact ih _ _ _ _ H (aB5 (fun m h s s' H hv=>(zE n m h _ _ s s' H hv).1) _ _ _ _ e2 (hv.add (a:=⟨3,h,i.A,bY d s.nc s.ns env⟩) (by dsimp only;omega)))
  rw [if_neg o11]at H;by_cases o12:i.Op=12
  ·rw [if_pos o12]at H;obtain⟨t,e1,H⟩:=Option.bind_eq_some_iff.1 H;exact ih _ _ _ _ H hv
  rw [if_neg o12]at H;by_cases o13:i.Op=13 ∨ i.Op=14 ∨ i.Op=15
  ·rw [if_pos o13]at H;exact ih _ _ _ _ H (hv.add (by dsimp only;omega))
  rw [if_neg o13]at H;by_cases o16:i.Op=16
  ·rw [if_pos o16]at H;cases H;exact⟨hv,hc3⟩
  rw [if_neg o16]at H;obtain⟨v,e1,H⟩:=Option.bind_eq_some_iff.1 H;obtain⟨w,e2,H⟩:=Option.bind_eq_some_iff.1 H;obtain⟨t,e3,H⟩:=Option.bind_eq_some_iff.1 H;by_cases g:okV v ∧ okV w
  ·rw [if_pos g]at H;exact ih _ _ _ _ H hv
  ·rw [if_neg g]at H;cases H
open Go.SX Go.SW Go.Dt
theorem in_eq {fr a b:Int} {v:SolVal}:kG v fr a b=some (decide (bL fr a b v)):=by
 rw [kG]
 by_cases h1:v.Kind=1
 ·rw [if_pos h1,ifm,bsm];congr 1;refine decide_eq_decide.2 ?_;unfold bL;omega
 rw [if_neg h1]
 by_cases h2:v.Kind=2
 ·rw [if_pos h2,ifb (P:=True),bsm];congr 1;refine decide_eq_decide.2 ?_;unfold bL;omega
 rw [if_neg h2]
 by_cases h3:v.Kind=3
 ·rw [if_pos h3,ifb (P:=True),bsm];congr 1;refine decide_eq_decide.2 ?_;unfold bL;omega
 rw [if_neg h3]
 by_cases h4:v.Kind=4
 ·rw [if_pos h4,ifb (P:=True),bsm];congr 1;refine decide_eq_decide.2 ?_;unfold bL;omega
 rw [if_neg h4,decide_eq_false (by unfold bL;omega)]
def mk1 (D:Int) (m:List Bool) (a:CodeAct):List Bool:=if a.Deed=D then m.set a.N.toNat true else m
def gI (D:Int) (n:Nat) (l:List CodeAct):List Bool:=l.foldl (mk1 D) (List.replicate n false)
theorem nF {D:Int} {n:Nat} {l:List CodeAct} {a:CodeAct}:gI D n (l++[a])=mk1 D (gI D n l) a:=by simp [gI]
theorem aC3 {D:Int} {j:Nat}:∀ (l:List CodeAct) (m:List Bool),m[j]? =some false → (∀ a∈l,a.Deed=D → a.N.toNat≠j) → (l.foldl (mk1 D) m)[j]? =some false
 | [],_,h,_=>h
 | a :: l,m,h,k=>aC3 l _ (by
  unfold mk1;split
  ·rename_i g;rw [List.getElem?_set_ne (k a (.head _) g)];exact h
  ·exact h) fun b hb=>k b (.tail _ hb)
theorem aCz {D N:Int} {n:Nat} {l:List CodeAct} (h0:0 ≤ N) (hn:N<(n:Int)) (h:∀ a∈l,a.Deed=D → a.N≠N) (hp:∀ a∈l,a.Deed=D → 0 ≤ a.N):idx (gI D n l) N=some false:=by
 have:=aC3 (j:=N.toNat) l (List.replicate n false) (by rw [List.getElem?_replicate,if_pos (by omega)]) fun a ha hd e=>h a ha hd (by have:=hp a ha hd;omega)
 have q:=eA this
 rwa [show((N.toNat:Nat):Int)=N by omega]at q
theorem Snd.nn {c:CodeProg} {h0 c0 n0:Int} {l:List CodeAct} {a b:Int} (h:Snd c h0 c0 n0 l a b):∀ x∈l,x.Deed=3 ∨ x.Deed=4 → 0 ≤ x.N:=by
 induction h with
 | nil=>intro x hx;cases hx
 | step _ h2 _ ih=>
  intro x hx;rcases List.mem_append.1 hx with hx | hx
  ·exact ih x hx
  ·rw [List.mem_singleton.1 hx];intro g;cases h2 with
   | makes k1=>exact k1
   | waits k1=>exact k1
   | says k1=>exact k1
   | sends k1=>exact k1
theorem aFK {d:ScopeDef} {a b:Int} {l:List SolVal} {n:Nat} (h:n<d.Chans.length):(bY d a b l)[l.length+n]? =some ⟨3,a+n⟩:=by
 rw [bY,List.getElem?_append_left (by rw [List.length_append,mH];omega),List.getElem?_append_right (by omega),show l.length+n - l.length=n by omega]
 exact yV 3 _ _ _ h
theorem aFj {d:ScopeDef} {a b:Int} {l:List SolVal} {n:Nat} (h:n<d.Spots.length):(bY d a b l)[l.length+d.Chans.length+n]? =some ⟨4,b+n⟩:=by
 rw [bY,List.getElem?_append_right (by rw [List.length_append,mH];omega),List.length_append,mH,show l.length+d.Chans.length+n - (l.length+d.Chans.length)=n by omega]
 exact yV 4 _ _ _ h
theorem ls2 {d:ScopeDef} {a b h N:Int} {l:List SolVal} (ha:0 ≤ a ∧ a ≤ 1000) (hl:l.length ≤ 1000000) (hd:d.Chans.length ≤ 1000):∀ (k n:Nat),n ≤ d.Chans.length → d.Chans.length - n<k → lA a ⟨3,h,N,bY d a b l⟩ d (l.length:Int) k (n:Int)=some (.inl ())
 | 0,_,_,hk=>by omega
 | k+1,n,hn,hk=>by
  by_cases g:n<d.Chans.length
  ·rw [lA,if_pos (by omega)];refine b1 (aI (by omega)) ?_
   refine b1 (z:=⟨3,a+n⟩) (by rw [show(l.length:Int)+(n:Int)=((l.length+n:Nat):Int) by omega];exact eA (aFK g)) ?_
   refine b1 (aI (by omega)) ?_
   refine b1 rfl ?_;rw [decide_eq_true rfl,decide_eq_true rfl,Bool.and_self,cond_true];refine b1 (aI (by omega)) ?_
   rw [show(n:Int)+1=((n+1:Nat):Int) by omega];exact ls2 ha hl hd k (n+1) (by omega) (by omega)
  ·rw [lA,if_neg (by omega)]
theorem ls3 {d:ScopeDef} {a b h N:Int} {l:List SolVal} (ha:0 ≤ b ∧ b ≤ 1000) (hl:l.length ≤ 1000000) (hd:d.Chans.length ≤ 1000 ∧ d.Spots.length ≤ 1000):∀ (k n:Nat),n ≤ d.Spots.length → d.Spots.length - n<k → lC b ⟨3,h,N,bY d a b l⟩ d (l.length:Int) k (n:Int)=some (.inl ())
 | 0,_,_,hk=>by omega
 | k+1,n,hn,hk=>by
  by_cases g:n<d.Spots.length
  ·rw [lC,if_pos (by omega)];refine b1 (aI (by omega)) ?_
   refine b1 (aI (by omega)) ?_
   refine b1 (z:=⟨4,b+n⟩) (by rw [show(l.length:Int)+(d.Chans.length:Int)+(n:Int)=((l.length+d.Chans.length+n:Nat):Int) by omega];exact eA (aFj g)) ?_
   refine b1 (aI (by omega)) ?_
   refine b1 rfl ?_;rw [decide_eq_true rfl,decide_eq_true rfl,Bool.and_self,cond_true];refine b1 (aI (by omega)) ?_
   rw [show(n:Int)+1=((n+1:Nat):Int) by omega];exact ls3 ha hl hd k (n+1) (by omega) (by omega)
  ·rw [lC,if_neg (by omega)]
theorem ls4 {c:CodeProg} {y:CodeAct} {a b:Int} {u v:List Bool} (hl:y.Vals.length ≤ 1000000) (hv:∀ v∈y.Vals,bL c.Free a b v):∀ (k n:Nat),n ≤ y.Vals.length → y.Vals.length - n<k → lP c y a b u v k (n:Int)=some (.inl (a,b,u,v))
 | 0,_,_,hk=>by omega
 | k+1,n,hn,hk=>by
  by_cases g:n<y.Vals.length
  ·rw [lP,if_pos (by omega)];refine b1 (eA (List.getElem?_eq_getElem g)) ?_;refine b1 in_eq ?_;rw [decide_eq_true (hv _ (List.getElem_mem g)),cond_true];refine b1 (aI (by omega)) ?_
   rw [show(n:Int)+1=((n+1:Nat):Int) by omega];exact ls4 hl hv k (n+1) (by omega) (by omega)
  ·rw [lP,if_neg (by omega)]
theorem Snd.bd {c:CodeProg} {h0 c0 n0:Int} {l:List CodeAct} {a b:Int} (hc:0 ≤ c0 ∧ c0 ≤ 60) (hn:0 ≤ n0 ∧ n0 ≤ 24) (h:Snd c h0 c0 n0 l a b):(0 ≤ a ∧ a ≤ 60) ∧ 0 ≤ b ∧ b ≤ 24:=by
 cases h with
 | nil=>exact⟨hc,hn⟩
 | step _ _ h3=>exact⟨h3.nc,h3.ns⟩
theorem ls1 {fuel:Nat} {c:CodeProg} {x:Ref09_Doing} (hf:4000000 ≤ fuel) (hp:Pre c) (hc:0 ≤ x.Chans ∧ x.Chans ≤ 60) (hn:0 ≤ x.Spots ∧ x.Spots ≤ 24) {l:List CodeAct} {a b:Int} (h:Snd c x.Here x.Chans x.Spots l a b):∀ (suf:List CodeAct) (e:Int) (k:Nat),l.length ≤ 2000000 → jE fuel c x (l++suf,e) (k+l.length) x.Chans x.Spots (gI 3 c.Defs.length []) (gI 4 c.Code.length []) 0=jE fuel c x (l++suf,e) k a b (gI 3 c.Defs.length l) (gI 4 c.Code.length l) (l.length:Int):=by
 induction h with
 | nil=>intro suf e k _;rfl
 | step h1 h2 h3 ih=>
  rename_i l nc ns nc' ns' a;intro suf e k hl;rw [List.length_append,List.length_singleton]at hl;have e1:=ih (a :: suf) e (k+1) (by omega)
  rw [show l++[a]++suf=l++a :: suf by simp,List.length_append,List.length_singleton,show k+(l.length+1)=k+1+l.length by omega,e1];have hbd:=h1.bd hc hn;have hnn:=h1.nn;have hlen:=hp.len;rw [jE,if_pos (bU _ _ _)];refine b1 (z:= .inl (nc',ns',gI 3 c.Defs.length (l++[a]),gI 4 c.Code.length (l++[a]))) ?_ ?_
  rotate_left
  ·refine b1 (aI (by omega)) ?_
   rw [show(l.length:Int)+1=((l.length+1:Nat):Int) by omega]
  refine b1 (bP l suf a) ?_;refine b1 (z:= .inl (nc',ns',gI 3 c.Defs.length (l++[a]),gI 4 c.Code.length (l++[a]))) ?_ ?_
  rotate_left
  ·refine b1 (z:= .inl ()) ?_ ?_
   ·have:=h3.here;by_cases g:a.At=x.Here
    ·rw [if_neg (fun q=>q g)]
    ·rw [if_pos g,if_neg (by omega),if_neg (by omega)]
   ·have:=h3.len;exact ls4 (by omega) h3.vals fuel 0 (by omega) (by omega)
  cases h2 with
  | makes k1 k2 k3=>
   rename_i h N env d;have hN:=(List.getElem?_eq_some_iff.1 k2).1;have hdm:=List.mem_of_getElem? k2;have hd3:=(hp.okD d hdm).1.1;have hix:idx c.Defs N=some d:=by have:=eA k2;rwa [show((N.toNat:Nat):Int)=N by omega]at this
   have hm:=aCz (D:=3) (n:=c.Defs.length) (l:=l) k1 (by omega) k3 (fun a ha hd=>hnn a ha (.inl hd))
   have hvl:=h3.len;dsimp only at hvl
   have hel:=pO d nc ns env;have hnc:=h3.nc;have hns:=h3.ns
   unfold aL at hnc hns ⊢
   rw [if_pos rfl,if_neg (by dsimp only;omega),if_neg (by dsimp only;omega)];refine b1 hm ?_;rw [cond_false];refine b1 hm ?_;refine b1 hix ?_;dsimp only
   refine b1 (aI (by omega)) ?_
   refine b1 (aI (by omega)) ?_
   have hz:((bY d nc ns env).length:Int) - (d.Chans.length:Int) - (d.Spots.length:Int)=(env.length:Int):=by omega
   rw [hz,if_neg (by omega)];refine b1 (ls2 (by omega) (by omega) (by omega) fuel 0 (by omega) (by omega)) ?_
   refine b1 (ls3 (by omega) (by omega) (by omega) fuel 0 (by omega) (by omega)) ?_
   refine b1 (aI (by omega)) ?_
   refine b1 (aI (by omega)) ?_
   rw [nF,nF];rfl
  | waits k1 k2 k3 k4=>
   rename_i h N v i;have hN:=(List.getElem?_eq_some_iff.1 k2).1;have hix:idx c.Code N=some i:=by have:=eA k2;rwa [show((N.toNat:Nat):Int)=N by omega]at this
   have hm:=aCz (D:=4) (n:=c.Code.length) (l:=l) k1 (by omega) k4 (fun a ha hd=>hnn a ha (.inr hd))
   rw [if_neg (show ¬ (4:Int)=3 by decide),if_pos rfl];refine b1 (z:= .inl ()) ?_ ?_
   ·dsimp only
    rw [if_neg (by omega),if_neg (by omega)];refine b1 hm ?_;rw [cond_false];refine b1 hix ?_;by_cases g:i.Op=13
    ·rw [if_neg (fun q=>q g)]
    rw [if_pos g];refine b1 hix ?_;by_cases g2:i.Op=14
    ·rw [if_neg (fun q=>q g2)]
    rw [if_pos g2];refine b1 hix ?_;rw [if_neg (fun q=>q (by omega))]
   ·refine b1 hm ?_;rw [nF,nF];rfl
  | says k1 k2 k3=>
   rename_i h N v;have hin:kG ⟨2,N⟩ c.Free nc ns=some true:=by rw [in_eq,decide_eq_true (.inr (.inl ⟨rfl,k1,k2⟩))]
   rw [if_neg (show ¬ (1:Int)=3 by decide),if_neg (show ¬ (1:Int)=4 by decide)];refine b1 rfl ?_;rw [decide_eq_true rfl,cond_true,if_neg (by dsimp only;omega),if_pos rfl];refine b1 rfl ?_;refine b1 hin ?_;rw [Bool.not_true,cond_false,if_neg (show ¬ (1:Int)=2 by decide),nF,nF];rfl
  | sends k1 k2 k3=>
   rename_i h N v;have hin:kG ⟨3,N⟩ c.Free nc ns=some true:=by rw [in_eq,decide_eq_true (.inr (.inr (.inl ⟨rfl,k1,k2⟩)))]
   rw [if_neg (show ¬ (2:Int)=3 by decide),if_neg (show ¬ (2:Int)=4 by decide)];refine b1 rfl ?_;dsimp only
   rw [decide_eq_true rfl,cond_true,if_neg (by omega),if_neg (by decide),if_pos rfl];refine b1 rfl ?_;refine b1 hin ?_;rw [cond_true,nF,nF];rfl
theorem aFh {fuel:Nat} {c:CodeProg} {x:Ref09_Doing} (hf:4000000 ≤ fuel) (hd:∀ d∈c.Defs,smD d):yE fuel c x=some true:=by
 have hkn:pY=some true:=rfl
 rw [yE,xU,bsm]
 by_cases hlg:400<(c.Code.length:Int)
 ·rw [decide_eq_true hlg,cond_true];exact b1 hkn rfl
 rw [decide_eq_false hlg,cond_false]
 by_cases he:100<(x.Env.length:Int)
 ·rw [if_pos he];exact b1 hkn rfl
 rw [if_neg he]
 rcases do_eq (fuel:=fuel) (c:=c) (start:=x.Start) (here:=x.Here) (nc:=x.Chans) (ns:=x.Spots) (env:=x.Env) hf (by omega) hd (by omega)with⟨hok,r,hr,e1,_⟩ | ⟨e1,_⟩
 rotate_left
 ·refine b1 e1 ?_;rw [if_pos (by decide)];rfl
 refine b1 e1 ?_
 cases r with
 | none=>rw [outR,if_pos (by decide)];rfl
 | some s=>
  have hF:=hok.formed;have hp:=hF.1.pre (by omega)
  have hnum:=hok.nums;obtain⟨b,P,p1,p2⟩:=R_PB hp hF hok.r;have:=aAQ hF.bg p1.mem hok.beg p2 (InB.self (Int.le_trans p2.1 p2.2.1));subst this;have K:=aAj (h0:=x.Here) (c0:=x.Chans) (n0:=x.Spots) hp hF 20000 x.Start x.Here x.Env [] ⟨x.Chans,x.Spots,[]⟩ s x.Start P hr ⟨.nil,hok.vals,fun v h=>(by cases h), .inl rfl,Int.le_refl _⟩ p1 p2 (fun a ha=>by cases ha)
  have hbd:=K.snd.bd hnum.1 (by omega)
  have hal:=(zE _ _ _ _ _ _ _ hr (fun a ha=>by cases ha)).2
  have hlen:=hp.len;have hdl:=hp.defs;rw [outR,if_neg (fun g=>g rfl)];refine b1 (qH (by omega)) ?_
  refine b1 (qH (by omega)) ?_
  have e2:=ls1 (fuel:=fuel) (x:=x) hf hp hnum.1 (by omega) K.snd [] 0 (fuel - s.ac.length) (by omega)
  rw [List.append_nil,show fuel - s.ac.length+s.ac.length=fuel by omega]at e2
  have e3:jE fuel c x (s.ac,0) (fuel - s.ac.length) s.nc s.ns (gI 3 c.Defs.length s.ac) (gI 4 c.Code.length s.ac) (s.ac.length:Int)=some (.inl (s.nc,s.ns)):=by
   obtain⟨k,hk⟩:∃ k,fuel - s.ac.length=k+1:=⟨fuel - s.ac.length - 1,by omega⟩
   rw [hk,jE,if_neg (by dsimp only;omega)]
  refine b1 (e2.trans e3) ?_;dsimp only
  rw [if_pos hbd.1.2,if_pos hbd.2.2,hkn,bsm,bsm]
open Go.SX Go.SW
theorem aF7 {W:World} {a:Addr} {c:Value} (h:W.cell? a=some c):(hJ W).cell a=some c:=by
 unfold World.cell? at h
 unfold Mem.cell pD hJ
 cases hb:W.heap[a.block]? with
 | none=>rw [hb]at h;cases h
 | some o=>
  rw [hb]at h;cases o with
  | cells c t fr=>
   dsimp only at h ⊢
   first
    | exact h
    | (cases hs:a.spot with
       | none=>rw [hs]at h;simpa using h
       | some s=>rw [hs]at h;simp at h)
  | _=>cases h
theorem aDt {H:Type} {d:DataW H} {l:List (DataW H)} (h:d∈l):Rows.uptoBulk d ≤ Rows.uptoBulkAll l:=by
 induction l with
 | nil=>cases h
 | cons x r ih=>
  simp only [Rows.uptoBulkAll];cases h with
  | head=>omega
  | tail _ e=>have:=ih e;omega
theorem bulk_one {H:Type} (d:DataW H):1 ≤ Rows.uptoBulk d:=by
 cases d with
 | lit l=>cases l <;> simp [Rows.uptoBulk]
 | _=>simp [Rows.uptoBulk]
section
variable {H:Type} {enc:TypeId × Value → H} {P:Program} {W:World}
def Rd (enc:TypeId × Value → H) (P:Program) (W:World) (n:Nat) {α:Type} (T:Ty α) (t:TypeId) (μ:α → Nat) (S:α → Prop):Prop:=
 ∀ cs x,DataW.trod enc P W 0 (fun _=>true) true n t cs=some x → Rows.uptoBulk x.1 ≤ 1048576 → ∃ a,aQ (T.leafs a) (hJ W) cs ∧ μ a ≤ Rows.uptoBulk x.1 ∧ S a
def RdF (enc:TypeId × Value → H) (P:Program) (W:World) (n:Nat) (fs:List Field) (o e:Nat) {β:Type} (L:β → List Fact) (μ:β → Nat) (S:β → Prop):Prop:=
 ∀ (cs:List Value) xs,cs.length=e → (fs.mapM fun f=>DataW.trod enc P W 0 (fun _=>true) true n f.type ((cs.drop f.offset).take (P.cellsOf f.type)))=some xs → Rows.uptoBulkAll (xs.map (·.1)) ≤ 1048576 → ∃ b,aQ (L b) (hJ W) (cs.drop o) ∧ μ b ≤ Rows.uptoBulkAll (xs.map (·.1)) ∧ S b
theorem lW {α:Type} {T:Ty α} {t:TypeId} {μ:α → Nat} {S:α → Prop}:Rd enc P W 0 T t μ S:=fun cs x h=>by cases h
theorem nL {n e:Nat}:RdF enc P W n [] e e (β:=Unit) (fun _=>[]) (fun _=>0) (fun _=>True):=fun cs xs hl h hb=>⟨(),by rw [List.drop_of_length_le (by omega)];rfl,Nat.zero_le _,trivial⟩
theorem aCD {α β:Type} {f:α → Option β} {x:α} {l:List α} {ys:List β} (h:(x :: l).mapM f=some ys):∃ y r,f x=some y ∧ l.mapM f=some r ∧ ys=y :: r:=by
 rw [List.mapM_cons]at h
 cases hx:f x with
 | none=>rw [hx]at h;cases h
 | some y=>
  cases hl:l.mapM f with
  | none=>rw [hx,hl]at h;cases h
  | some r=>rw [hx,hl]at h;cases h;exact⟨y,r,rfl,rfl,rfl⟩
theorem dY {n o e:Nat} {f:Field} {fs:List Field} {α β:Type} {T:Ty α} {μ:α → Nat} {S:α → Prop} {L:β → List Fact} {ν:β → Nat} {R:β → Prop} (h:Rd enc P W n T f.type μ S) (ho:f.offset=o) (hz:P.cellsOf f.type=T.sz) (k:RdF enc P W n fs (o+T.sz) e L ν R):
 RdF enc P W n (f :: fs) o e (fun x:α × β=>T.leafs x.1++L x.2) (fun x=>μ x.1+ν x.2) (fun x=>S x.1 ∧ R x.2):=fun cs xs hl hm hb=>by
 obtain⟨y,r,h1,h2,rfl⟩:=aCD hm
 simp only [List.map_cons,Rows.uptoBulkAll]at hb
 obtain⟨a,a1,a2,a3⟩:=h _ _ h1 (by omega)
 obtain⟨b,b1,b2,b3⟩:=k cs r hl h2 (by omega)
 refine⟨(a,b),?_,by simp only [List.map_cons,Rows.uptoBulkAll];omega,a3,b3⟩
 have:=a1.append b1
 rw [ho,hz,← List.drop_drop,List.take_append_drop]at this
 exact this
theorem nC {n e:Nat} {α β:Type} {T:Ty α} {t:TypeId} {fs:Array Field} {μ:α → Nat} {S:α → Prop} {L:β → List Fact} {ν:β → Nat} {R:β → Prop} (mk:β → α) (ht:P.underlying t=some (.struct fs)) (hc:P.cellsOf t=e) (k:RdF enc P W n fs.toList 0 e L ν R)
 (hL:∀ b,T.leafs (mk b)=L b) (hμ:∀ b,μ (mk b) ≤ ν b+1) (hS:∀ b,R b → ν b+1 ≤ 1048576 → S (mk b)):Rd enc P W (n+1) T t μ S:=fun cs x h hb=>by
 rw [DataW.trod_step]at h
 unfold DataW.trodStep at h
 rw [ht]at h
 dsimp only at h
 split at h
 ·rename_i hcs;cases hm:(fs.toList.mapM fun f=>DataW.trod enc P W 0 (fun _=>true) true n f.type ((cs.drop f.offset).take (P.cellsOf f.type)))with
  | none=>rw [hm]at h;cases h
  | some xs=>
   rw [hm]at h;cases h;simp only [Rows.uptoBulk]at hb;obtain⟨b,b1,b2,b3⟩:=k cs xs (by omega) hm (by omega)
   rw [List.drop_zero]at b1;have:=hμ b;refine⟨mk b,by rw [hL];exact b1,by simp only [Rows.uptoBulk];omega,hS b b3 (by omega)⟩
 ·cases h
theorem rd_int {n:Nat} {t:TypeId} {k:IntKind} (ht:P.underlying t=some (.int k)):Rd enc P W n (dL k) t (fun _=>1) (fun i=>(Lit.int k i).wf=true):=fun cs x h hb=>by
 obtain _ | n:=n
 ·cases h
 rw [DataW.trod_step]at h
 unfold DataW.trodStep at h
 rw [ht]at h
 match cs,h with
 | [.int k' i],h=>
  dsimp only at h
  split at h
  ·rename_i hc;obtain⟨rfl,hw⟩:=hc;cases h;exact⟨i,⟨_,[],rfl,rfl,rfl⟩,Nat.le_refl _,hw⟩
  ·cases h
def msum {α:Type} (μ:α → Nat):List α → Nat
 | []=>0
 | a :: l=>μ a+msum μ l
theorem aC0 {α:Type} {f:Nat → Option α} {n:Nat} {l:List α} (h:(List.range n).mapM f=some l):l.length=n ∧ ∀ i,i<n → ∃ y,l[i]? =some y ∧ f i=some y:=by
 have g:∀ (ks:List Nat) (l:List α),ks.mapM f=some l → l.length=ks.length ∧ ∀ (i k:Nat),ks[i]? =some k → ∃ y,l[i]? =some y ∧ f k=some y:=fun ks=>by
  induction ks with
  | nil=>intro l h;cases h;exact⟨rfl,fun i k h=>by simp at h⟩
  | cons k ks ih=>
   intro l h;obtain⟨y,r,h1,h2,rfl⟩:=aCD h;obtain⟨a,b⟩:=ih r h2;refine⟨by simp [a],fun i q hq=>?_⟩
   cases i with
   | zero=>simp at hq;subst hq;exact⟨y,rfl,h1⟩
   | succ i=>exact b i q (by simpa using hq)
 obtain⟨a,b⟩:=g _ _ h
 exact⟨by simpa using a,fun i hi=>b i i (by simp [hi])⟩
theorem aFM {W:World} {b z:Nat} {a:Addr} {cs:List Value} (h:W.cells? b a z=some cs):∀ (j:Nat) c,cs[j]? =some c → W.cell? (a.add j)=some c:=by
 unfold World.cells? at h
 split at h
 ·obtain⟨h1,h2⟩:=aC0 h;intro j c hj;have:=(List.getElem?_eq_some_iff.1 hj).1;obtain⟨y,y1,y2⟩:=h2 j (by omega)
  rw [hj]at y1;cases y1;exact y2
 ·cases h
theorem aDl {α γ:Type} {Q:γ → α → Prop}:∀ (l:List γ),(∀ c∈l,∃ a,Q c a) → ∃ r:List α,r.length=l.length ∧ ∀ (i:Nat) c,l[i]? =some c → ∃ a,r[i]? =some a ∧ Q c a
 | [],_=>⟨[],rfl,fun i c h=>by simp at h⟩
 | c :: l,h=>by
  obtain⟨a,ha⟩:=h c (.head _);obtain⟨r,h1,h2⟩:=aDl l (fun c hc=>h c (.tail _ hc))
  refine⟨a :: r,by simp [h1],fun i q hq=>?_⟩
  cases i with
  | zero=>simp at hq;subst hq;exact⟨a,rfl,ha⟩
  | succ i=>exact h2 i q (by simpa using hq)
theorem aCf {α:Type} {μ:α → Nat}:∀ {r:List α} {ds:List (DataW H)},r.length=ds.length → (∀ (i:Nat) d a,ds[i]? =some d → r[i]? =some a → μ a ≤ Rows.uptoBulk d) → msum μ r ≤ Rows.uptoBulkAll ds ∧ r.length ≤ Rows.uptoBulkAll ds
 | [],[],_,_=>⟨Nat.zero_le _,Nat.zero_le _⟩
 | a :: r,d :: ds,hl,h=>by
  obtain⟨h1,h2⟩:=aCf (r:=r) (ds:=ds) (by simpa using hl) (fun i d a hd ha=>h (i+1) d a (by simpa using hd) (by simpa using ha))
  have:=h 0 d a rfl rfl;have:=bulk_one d;simp only [msum,Rows.uptoBulkAll,List.length_cons];omega
theorem rd_sl {n:Nat} {t e:TypeId} {α:Type} {T:Ty α} {μ:α → Nat} {S:α → Prop} (ht:P.underlying t=some (.slice e)) (hz:P.cellsOf e=T.sz) (h:Rd enc P W n T e μ S):Rd enc P W (n+1) (tSl T) t (fun l=>msum μ l+1) (fun l=>l.length ≤ 1048576 ∧ ∀ a∈l,S a):=fun cs x hx hb=>by
 rw [DataW.trod_step]at hx
 unfold DataW.trodStep at hx
 rw [ht]at hx
 match cs,hx with
 | [.slice none 0 0],hx=>
  cases hx;exact⟨[],⟨_,[],rfl,eM (hJ W) _ rfl,rfl⟩,Nat.le_refl _,by simp,fun a ha=>by cases ha⟩
 | [.slice (some p) len cap],hx=>
  dsimp only at hx
  split at hx
  ·rename_i hc;cases h1:((List.range len).mapM fun i=>(W.cells? 0 (p.add (i*P.cellsOf e)) (P.cellsOf e)).bind (DataW.trod enc P W 0 (fun _=>true) true n e))with
   | none=>rw [h1]at hx;cases hx
   | some es=>
    rw [h1]at hx;obtain⟨rest,_,rfl⟩:=Option.map_eq_some_iff.1 hx;obtain⟨l1,l2⟩:=aC0 h1;simp only [Rows.uptoBulk]at hb;have each:∀ y∈es,∃ a,(μ a ≤ Rows.uptoBulk y.1 ∧ S a) ∧ ∀ i cs',W.cells? 0 (p.add (i*P.cellsOf e)) (P.cellsOf e)=some cs' → DataW.trod enc P W 0 (fun _=>true) true n e cs'=some y → True:=fun y hy=>by
     obtain⟨i,hi,rfl⟩:=List.mem_iff_getElem.1 hy;obtain⟨y,y1,y2⟩:=l2 i (by omega)
     obtain⟨cs',c1,c2⟩:=Option.bind_eq_some_iff.1 y2;have e1:es[i]=y:=by rw [List.getElem?_eq_getElem hi]at y1;exact Option.some.inj y1
     have m1:Rows.uptoBulk y.1 ≤ Rows.uptoBulkAll (es.map (·.1)):=aDt (List.mem_map_of_mem (by rw [← e1];exact List.getElem_mem _))
     obtain⟨a,a1,a2,a3⟩:=h _ _ c2 (by omega)
     exact⟨a,⟨by rw [e1];exact a2,a3⟩,fun _ _ _ _=>trivial⟩
    have each2:∀ i∈List.range len,∃ a,(∃ y,es[i]? =some y ∧ μ a ≤ Rows.uptoBulk y.1) ∧ S a ∧ T.at (hJ W) (p.add (i*T.sz)) a:=fun i hi=>by
     obtain⟨y,y1,y2⟩:=l2 i (by simpa using hi)
     obtain⟨cs',c1,c2⟩:=Option.bind_eq_some_iff.1 y2;have m1:Rows.uptoBulk y.1 ≤ Rows.uptoBulkAll (es.map (·.1)):=aDt (List.mem_map_of_mem (List.mem_of_getElem? y1));obtain⟨a,a1,a2,a3⟩:=h _ _ c2 (by omega)
     exact⟨a,⟨y,y1,a2⟩,a3,cs',a1,fun j c hj=>by rw [← hz];exact aF7 (aFM c1 j c hj)⟩
    obtain⟨r,r1,r2⟩:=aDl (List.range len) each2;have rl:r.length=len:=by simpa using r1
    have r3:∀ i,i<len → ∃ a,r[i]? =some a ∧ (∃ y,es[i]? =some y ∧ μ a ≤ Rows.uptoBulk y.1) ∧ S a ∧ T.at (hJ W) (p.add (i*T.sz)) a:=fun i hi=>r2 i i (by simp [hi])
    obtain⟨m1,m2⟩:=aCf (μ:=μ) (r:=r) (ds:=es.map (·.1)) (by simp [rl,l1]) (fun i d a hd ha=>by
     obtain⟨a',a1,⟨y,y1,y2⟩,_⟩:=r3 i (by have:=(List.getElem?_eq_some_iff.1 ha).1;omega)
     rw [ha]at a1;cases a1
     rw [List.getElem?_map,y1]at hd;cases hd
     exact y2)
    refine⟨r,⟨_,[],rfl,⟨fun i=>p.add (i*T.sz),⟨some p,cap,by rw [rl],by rw [rl];exact hc.2.1,fun i _=>⟨p,rfl,rfl⟩⟩,by omega,fun i a ha=>?_⟩,rfl⟩,by simp only [Rows.uptoBulk];omega,by omega,fun a ha=>?_⟩
    ·obtain⟨a',a1,_,_,a2⟩:=r3 i (by have:=(List.getElem?_eq_some_iff.1 ha).1;omega)
     rw [ha]at a1;cases a1;exact a2
    ·obtain⟨i,hi,rfl⟩:=List.mem_iff_getElem.1 ha;obtain⟨a',a1,_,a2,_⟩:=r3 i (by omega)
     rw [List.getElem?_eq_getElem hi]at a1;cases a1;exact a2
  ·cases hx
theorem Rd.mono {n:Nat} {α:Type} {T:Ty α} {t:TypeId} {μ ν:α → Nat} {S R:α → Prop} (h:Rd enc P W n T t μ S) (hμ:∀ a,ν a ≤ μ a) (hS:∀ a,S a → μ a ≤ 1048576 → R a):Rd enc P W n T t ν R:=fun cs x hx hb=>by
 obtain⟨a,a1,a2,a3⟩:=h cs x hx hb
 exact⟨a,a1,Nat.le_trans (hμ a) a2,hS a a3 (by omega)⟩
theorem arg_st {α:Type} {T:Ty α} {t:TypeId} {μ:α → Nat} {S:α → Prop} {fs:Array Field} {r:Reach} {b0:Nat} {v:Value} {d:DataW H} {ps:List MemPlace} (h:∀ n,Rd enc P W n T t μ S) (ht:P.underlying t=some (.struct fs)) (hval:Value.okWide P W r b0 t v)
 (hd:DataW.Trod enc P W 0 (fun _=>true) true t v d ps) (hb:Rows.uptoBulk d ≤ 1048576):∃ a,(fSt T a).p (hJ W) v ∧ S a:=by
 unfold Value.okWide at hval
 rw [ht]at hval
 obtain⟨cs,rfl,_⟩:=hval
 obtain⟨n,hn⟩:=hd
 obtain⟨a,a1,_,a2⟩:=h n _ _ hn hb
 exact⟨a,⟨cs.toList,by simp,a1⟩,a2⟩
end
open Go.SX Go.SW Go.Dt
section
variable {H:Type} {enc:TypeId × Value → H} {W:World}
abbrev RdP (enc:TypeId × Value → H) (W:World) (n:Nat) {α:Type} (T:Ty α) (t:TypeId) (μ:α → Nat) (S:α → Prop):Prop:=Rd enc Tryz.prog W n T t μ S
theorem eS (n:Nat) {t:TypeId} (ht:Tryz.prog.underlying t=some (.int .i64)):RdP enc W n (dL .i64) t (fun _=>1) (fun _=>True):=(rd_int ht).mono (fun _=>Nat.le_refl _) (fun _ _ _=>trivial)
theorem oL {n:Nat} {t e:TypeId} {α:Type} {T:Ty α} {μ:α → Nat} {S:α → Prop} (ht:Tryz.prog.underlying t=some (.slice e)) (hz:Tryz.prog.cellsOf e=T.sz) (h:∀ k,RdP enc W k T e μ S):RdP enc W n (tSl T) t (fun l=>msum μ l+1) (fun l=>l.length ≤ 1048576 ∧ ∀ a∈l,S a):=by
 cases n with
 | zero=>exact lW
 | succ n=>exact rd_sl ht hz (h n)
theorem rd_ints (n:Nat) {t e:TypeId} (ht:Tryz.prog.underlying t=some (.slice e)) (he:Tryz.prog.underlying e=some (.int .i64)) (hz:Tryz.prog.cellsOf e=1):RdP enc W n (tSl (dL .i64)) t (fun _=>0) (fun l=>l.length ≤ 1048576):=
 (oL ht hz (fun k=>eS k he)).mono (fun _=>Nat.zero_le _) (fun _ h _=>h.1)
theorem aF2:∀ n:Nat,RdP enc W n dA 110 (fun _=>0) (fun _=>True)
 | 0=>lW
 | n+1=>nC (T:=dA) (fun b:Int × Int × Unit=>⟨b.1,b.2.1⟩) Tryz.underlying110 (e:=2) (by kernel_rfl)
  (dY (eS n Tryz.underlying3) rfl (by kernel_rfl) (dY (eS n Tryz.underlying3) rfl (by kernel_rfl) nL))
  (fun _=>rfl) (fun _=>Nat.zero_le _) (fun _ _ _=>trivial)
theorem aFP:∀ n:Nat,RdP enc W n cL 112 (fun _=>0) (fun _=>True)
 | 0=>lW
 | n+1=>nC (T:=cL) (fun b:Int × Int × Unit=>⟨b.1,b.2.1⟩) Tryz.underlying112 (e:=2) (by kernel_rfl)
  (dY (eS n Tryz.underlying3) rfl (by kernel_rfl) (dY (eS n Tryz.underlying3) rfl (by kernel_rfl) nL))
  (fun _=>rfl) (fun _=>Nat.zero_le _) (fun _ _ _=>trivial)
theorem aF5:∀ n:Nat,RdP enc W n bW 114 (fun _=>0) (fun x=>x.Joins.length ≤ 2000000)
 | 0=>lW
 | n+1=>nC (T:=bW) (fun b:Int × List Int × Int × Unit=>⟨b.1,b.2.1,b.2.2.1⟩) Tryz.underlying114 (e:=3) (by kernel_rfl)
  (dY (eS n Tryz.underlying3) rfl (by kernel_rfl) (dY (rd_ints n Tryz.underlying40 Tryz.underlying3 (by kernel_rfl)) rfl (by kernel_rfl) (dY (eS n Tryz.underlying3) rfl (by kernel_rfl) nL)))
  (fun _=>rfl) (fun _=>Nat.zero_le _) (fun b h _=>by have:=h.2.1;show b.2.1.length ≤ _;omega)
theorem aFZ:∀ n:Nat,RdP enc W n aF 63 (fun _=>0) (smD)
 | 0=>lW
 | n+1=>nC (T:=aF) (fun b:List ScopeChan × List ScopeSpot × List ScopeRule × Unit=>⟨b.1,b.2.1,b.2.2.1⟩) Tryz.underlying63 (e:=3) (by kernel_rfl)
  (dY (oL Tryz.underlying59 (by kernel_rfl) aF2) rfl (by kernel_rfl) (dY (oL Tryz.underlying60 (by kernel_rfl) aFP) rfl (by kernel_rfl) (dY (oL Tryz.underlying61 (by kernel_rfl) aF5) rfl (by kernel_rfl) nL)))
  (fun _=>rfl) (fun _=>Nat.zero_le _) (fun b h _=>⟨by have:=h.1.1;show b.1.length ≤ _;omega,by have:=h.2.1.1;show b.2.1.length ≤ _;omega,by have:=h.2.2.1.1;show b.2.2.1.length ≤ _;omega,h.2.2.1.2⟩)
theorem aGF:∀ n:Nat,RdP enc W n aJ 73 (fun _=>0) (fun _=>True)
 | 0=>lW
 | n+1=>nC (T:=aJ) (fun b:Int × Int × Int × Unit=>⟨b.1,b.2.1,b.2.2.1⟩) Tryz.underlying73 (e:=3) (by kernel_rfl)
  (dY (eS n Tryz.underlying56) rfl (by kernel_rfl) (dY (eS n Tryz.underlying3) rfl (by kernel_rfl) (dY (eS n Tryz.underlying3) rfl (by kernel_rfl) nL)))
  (fun _=>rfl) (fun _=>Nat.zero_le _) (fun _ _ _=>trivial)
theorem aHb:∀ n:Nat,RdP enc W n kK 25 (fun _=>0) (fun c=>c.Code.length ≤ 2000000 ∧ c.Defs.length ≤ 2000000 ∧ ∀ d∈c.Defs,smD d)
 | 0=>lW
 | n+1=>nC (T:=kK) (fun b:Int × List ScopeDef × List CodeIns × Int × Unit=>⟨b.1,b.2.1,b.2.2.1,b.2.2.2.1⟩) Tryz.underlying25 (e:=4) (by kernel_rfl)
  (dY (eS n Tryz.underlying3) rfl (by kernel_rfl) (dY (oL Tryz.underlying22 (by kernel_rfl) aFZ) rfl (by kernel_rfl) (dY (oL Tryz.underlying23 (by kernel_rfl) aGF) rfl (by kernel_rfl) (dY (eS n Tryz.underlying3) rfl (by kernel_rfl) nL))))
  (fun _=>rfl) (fun _=>Nat.zero_le _) (fun b h _=>⟨by have:=h.2.2.1.1;show b.2.2.1.length ≤ _;omega,by have:=h.2.1.1;show b.2.1.length ≤ _;omega,h.2.1.2⟩)
end
open Go.SX Go.SW Go.Dt
section
variable {H:Type} {enc:TypeId × Value → H} {W:World}
theorem aGO:∀ n:Nat,RdP enc W n aU 70 (fun _=>0) (fun _=>True)
 | 0=>lW
 | n+1=>nC (T:=aU) (fun b:Int × Int × Unit=>⟨b.1,b.2.1⟩) Tryz.underlying70 (e:=2) (by kernel_rfl)
  (dY (eS n Tryz.underlying68) rfl (by kernel_rfl) (dY (eS n Tryz.underlying3) rfl (by kernel_rfl) nL))
  (fun _=>rfl) (fun _=>Nat.zero_le _) (fun _ _ _=>trivial)
theorem rd_Doing:∀ n:Nat,RdP enc W n aAM 47 (fun _=>0) (fun _=>True)
 | 0=>lW
 | n+1=>nC (T:=aAM) (fun b:Int × Int × List SolVal × Int × Int × Unit=>⟨b.1,b.2.1,b.2.2.1,b.2.2.2.1,b.2.2.2.2.1⟩) Tryz.underlying47 (e:=5) (by kernel_rfl)
  (dY (eS n Tryz.underlying3) rfl (by kernel_rfl) (dY (eS n Tryz.underlying3) rfl (by kernel_rfl) (dY (oL Tryz.underlying45 (by kernel_rfl) aGO) rfl (by kernel_rfl) (dY (eS n Tryz.underlying3) rfl (by kernel_rfl) (dY (eS n Tryz.underlying3) rfl (by kernel_rfl) nL)))))
  (fun _=>rfl) (fun _=>Nat.zero_le _) (fun _ _ _=>trivial)
end
end Go.Proofs.YtjahnkcjbglnoaaGreatDoor
namespace Go.SW
open Go.SX
theorem aGt {w w':World} (h:w.keptBut w' (fun _=>False)) {p:MemPlace} (hp:p.block<w.heap.size):w.sameAt w' p:=by
 obtain⟨_,_,h⟩:=h
 cases p with
 | cell b off=>
  have:=h b hp;show w'.cell? _=w.cell? _
  unfold World.cell?
  dsimp only at *
  cases h1:w.heap[b]? with
  | none=>rw [h1]at this;dsimp only at this;rw [this]
  | some o=>
   rw [h1]at this;cases o with
   | cells c t fr=>
    cases h2:w'.heap[b]? with
    | none=>rw [h2]at this;cases this
    | some o'=>
     rw [h2]at this;cases o' with
     | cells c' t' fr'=>
      dsimp only at this ⊢
      rw [this.2.2.2 off (fun f=>f)]
     | _=>cases this
   | map es clock=>
    cases h2:w'.heap[b]? with
    | none=>rfl
    | some o'=>
     rw [h2]at this;cases o' with
     | cells=>cases this
     | _=>rfl
   | _=>dsimp only at this;rw [this]
 | map b=>
  have:=h b hp;show w'.heap[b]? =w.heap[b]?
  cases h1:w.heap[b]? with
  | none=>rw [h1]at this;exact this
  | some o=>
   rw [h1]at this;cases o with
   | cells c t fr=>
    cases h2:w'.heap[b]? with
    | none=>rw [h2]at this;cases this
    | some o'=>
     rw [h2]at this;cases o' with
     | cells c' t' fr'=>
      dsimp only at this
      obtain⟨rfl,rfl,hs,hc⟩:=this;have:c'=c:=Array.ext_getElem? fun j=>hc j (fun f=>f)
      rw [this]
     | _=>cases this
   | map es clock=>
    cases h2:w'.heap[b]? with
    | none=>rw [h2]at this;cases this
    | some o'=>
     rw [h2]at this;cases o' with
     | map es' clock'=>
      rcases this with f | ⟨rfl,rfl⟩
      ·exact f.elim
      ·rfl
     | _=>cases this
   | _=>exact this
theorem aEk {H:Type} {enc:TypeId × Value → H} {P:Program} {W W':World} (hl:laidOutB P=true) (hm:mapsRowed P=true) (hz:∀ t e,t<P.types.size → P.underlying t=some (.slice e) → 0<P.cellsOf e) (hk:W.keptBut W' (fun _=>False)):
 ∀ {ts:List TypeId} {vs:List Value} {ds:List (DataW H)} {ps:List MemPlace},(∀ t∈ts,t<P.types.size) → DataW.TrodAll enc P W 0 (fun _=>true) true ts vs ds ps → DataW.TrodAll enc P W' 0 (fun b=>decide (b<W.heap.size)) true ts vs ds ps
 | [],[],[],_,_,h=>h
 | t :: _,_ :: _,_ :: _,ps,ht,h=>by
  have hlt:=h.lt;obtain⟨p,q,⟨n,hn⟩,h2,e⟩:=h;refine⟨p,q,⟨n,?_⟩,aEk hl hm hz hk (fun t h=>ht t (.tail _ h)) h2,e⟩
  have hp:∀ x∈p,x.block<W.heap.size:=fun x hx=>hlt x (by rw [e];exact List.mem_append_left _ hx)
  exact DataW.trod_stays (kids_rows hl hm) (fun a b=>hz _ _ a b) (fun f=>by cases f) (ht t (.head _)) hn (fun x hx=>aGt hk (hp x hx)) (fun x hx=>decide_eq_true (hp x hx))
 | [],_ :: _,_,_,_,h=>h.elim
 | [],[],_ :: _,_,_,h=>h.elim
 | _ :: _,[],_,_,_,h=>h.elim
 | _ :: _,_ :: _,[],_,_,h=>h.elim
end Go.SW
