/- Parts of the proof: lemmas, and the steps through the program. -/
import Derived.Test.YtgidgoahhepmlaaGreatFl3
import Derived.RangeFuncNested
import Derived.LoopNIn
import Derived.OrdersIn
import Derived.Test.YtgidgoahhepmlaaGreatProg
import Derived.KernelRfl
set_option linter.unusedVariables false
set_option linter.unusedSimpArgs false
set_option maxRecDepth 100000
set_option maxHeartbeats 2000000
namespace Go.BX
open RowKit (Below)
noncomputable section
section
variable {P:Program} {a:Act} {w:World} {g:G} {ρ:Rho} {r:O × S} {e:Tr V} {n:Nat} {h:Tr Blk} {nx:Nat} {lg:List Fp} {ex:Ex} {rr:Option Nat}
theorem aFG {d:Option Nat} {v:V} {x:Value} {k:Tr V->AL} (he:bT ρ e n a.tmps) (hv:tv ρ v=some x) (q:run (insE d v e n k) h nx lg=some r):∃ e',run (k e') h nx lg=some r/\bT ρ e' n (a.put d x).tmps:=by
 cases d with
 | none=>exact⟨e,q,he⟩
 | some t=>
  have q':run (Bool.rec .fail (pp e (some v) (pa t) k) (Nat.blt t n):AL) h nx lg=some r:=q;cases hb:Nat.blt t n with
  | false=>rw [hb]at q';cases q'
  | true=>
   rw [hb]at q';have q2:run (pp e (some v) (pa t) k) h nx lg=some r:=q';rw [mX]at q2;rw [a1C]at hb;exact⟨_,q2,he.put hb hv⟩
theorem aFg {d:Option Nat} {ac:Ac} {v:V} {x:Value} {k:Ac->AL} (hA:AcR ρ ac a) (hv:tv ρ v=some x) (q:run (insK d ac v k) h nx lg=some r):∃ ac',run (k ac') h nx lg=some r/\AcR ρ ac' (a.put d x)/\ac'.ro=ac.ro:=by
 obtain⟨e,n,ds,ro⟩:=ac
 obtain⟨e',q1,h1⟩:=aFG (k:=fun e=>k ⟨e,n,ds,ro⟩) hA.env hv q
 exact⟨_,q1,⟨h1,by cases d <;> exact hA.ds⟩,rfl⟩
theorem rcv_R {u:FM} {u':FrameMode} {c₀:Frame} {cs:List Frame} (hu:fmR ρ u u') (hm:c₀.mode=u'):
 ∃ v u2 cs',(match recoverD (c₀ :: cs)with | some p=>p | none=>(Value.nilIface,c₀ :: cs))=(v,cs')/\tv ρ (rcv u).1=some v/\cs'={ c₀ with mode:=u2 } :: cs/\fmR ρ (rcv u).2 u2:=by
 obtain⟨f0,t0,td0,d0,m0,k0,r0⟩:=c₀
 simp only at hm
 subst hm
 cases u with
 | ret=>cases m0 <;> first | exact hu.elim | exact⟨.nilIface,_,_,rfl,rfl,rfl,hu⟩
 | pan ch=>
  cases m0 with
  | run=>exact hu.elim
  | returning=>exact hu.elim
  | panicking ch'=>
   match ch,ch',hu with
   | [],[],hu=>exact⟨.nilIface,_,_,rfl,rfl,rfl,hu⟩
   | ⟨v,true⟩ :: ps,⟨qv,qr,qg⟩ :: qs,hu=>
    have h1:qr=true:=hu.1.2.1;subst h1;exact⟨.nilIface,_,_,rfl,rfl,rfl,hu⟩
   | ⟨v,false⟩ :: ps,⟨qv,qr,qg⟩ :: qs,hu=>
    have h1:qr=false:=hu.1.2.1;have h2:qg=false:=hu.1.2.2;subst h1 h2;exact⟨qv, .panicking ({ v:=qv,recovered:=true } :: qs),_,rfl,hu.1.1,rfl,⟨hu.1.1,rfl,rfl⟩,hu.2⟩
theorem aHB {o:Oper} {d:Nat} (hh:pB o=some d):o.guard=none/\o.op= .call { callee:= .builtin .recover,args:=#[],argTypes:=(match o.op with | .call c=>c.argTypes | _=>#[]) }/\o.dst=some d:=by
 unfold pB at hh
 split at hh
 ·cases hh
 ·rename_i hg;split at hh
  ·rename_i c ho;split at hh
   ·rename_i hc;split at hh
    ·rename_i ha;refine⟨hg,?_,hh⟩;rw [ho];obtain⟨cl,az9,ts⟩:=c;simp only at hc ha
     subst hc;have:az9=#[]:=by apply Array.ext';exact ha
     subst this;rfl
    ·cases hh
   ·cases hh
  ·cases hh
theorem isAsg_eq {o:Oper} {d e:Nat} (hh:xA d o=some e):o.guard=none/\o.op= .assign (.tmp d)/\o.dst=some e:=by
 unfold xA at hh
 split at hh
 ·cases hh
 ·rename_i hg;split at hh
  ·rename_i t ho;split at hh
   ·rename_i ht;have:=a1D ht;subst this;exact⟨hg,ho,hh⟩
   ·cases hh
  ·cases hh
theorem recB_eq {c y:Code} {d:Nat} {e':Option Nat} (hh:recB c=some (d,e',y)):∃ id ops,c= .seq (.region id ops false) y/\((∃ o,ops=#[o]/\pB o=some d/\e'=none)\/∃ o p e2,ops=#[o,p]/\pB o=some d/\xA d p=some e2/\e'=some e2):=by
 unfold recB at hh
 split at hh
 ·rename_i id ops y';split at hh
  ·rename_i o p hops;split at hh
   ·rename_i d' hd;split at hh
    ·rename_i e2 he2;cases hh;exact⟨id,ops,rfl, .inr ⟨o,p,e2,by apply Array.ext';exact hops,hd,he2,rfl⟩⟩
    ·cases hh
   ·cases hh
  ·rename_i o hops;split at hh
   ·rename_i d' hd;cases hh;exact⟨id,ops,rfl, .inl ⟨o,by apply Array.ext';exact hops,hd,rfl⟩⟩
   ·cases hh
  ·cases hh
 ·cases hh
theorem aHk {o:Oper} (ho:o.op= .call { callee:= .builtin .recover,args:=#[],argTypes:=(match o.op with | .call c=>c.argTypes | _=>#[]) }) (ρ':Operand->Value):(execOp ρ' o).run P w= .ok .recover w:=by
 generalize hts:(match o.op with | .call c=>c.argTypes | _=>#[])=ts at ho
 simp [execOp,ho,resolve,invoke,builtin,a1W,Sem.run,Pure.pure]
theorem wp_rec {id:Nat} {ops:Array Oper} {y:Code} {d:Nat} {e':Option Nat} {S:Exit->Act->List Frame->World->Prop} {cs cs':List Frame} {v:Value} (hn:d<a.tmps.size)
 (hops:(∃ o,ops=#[o]/\pB o=some d/\e'=none)\/∃ o p e2,ops=#[o,p]/\pB o=some d/\xA d p=some e2/\e'=some e2)
 (hr:(match recoverD cs with | some p=>p | none=>(Value.nilIface,cs))=(v,cs')) (hy:y.wpSIn (SX.fw none) 0 P S ((a.put (some d) v).put e' v) cs' w):(Code.seq (.region id ops false) y).wpSIn (SX.fw none) 0 P S a cs w:=by
 refine wpSIn_seq (wpSIn_region ?_)
 rcases hops with⟨o,rfl,h1,rfl⟩ | ⟨o,p,e2,rfl,h1,h2,rfl⟩
 ·obtain⟨g0,o0,d0⟩:=aHB h1;have hl:List.range (#[o]:Array Oper).size=[0]:=rfl;have i0:(#[o]:Array Oper)[0]? =some o:=rfl;have w0:Region.wanted o (yielded #[o] a.tmps)=true:=by simp [Region.wanted,g0]
  have hfin:wpOpsSIn (SX.fw none) 0 P #[o] (Exit.thenS (y.wpSIn (SX.fw none) 0 P S) S) [] (a.put o.dst v) cs' w:=by rw [d0];exact hy
  rw [hl,wpOpsSIn];simp only [i0,w0,if_true,aHk o0];refine⟨fun _ _=>a2e,?_⟩
  cases hrec:recoverD cs with
  | none=>rw [hrec]at hr;cases hr;exact hfin
  | some p=>rw [hrec]at hr;obtain⟨v',cs''⟩:=p;cases hr;exact hfin
 ·obtain⟨g0,o0,d0⟩:=aHB h1;obtain⟨g1,o1,d1⟩:=isAsg_eq h2;have hl:List.range (#[o,p]:Array Oper).size=[0,1]:=rfl;have i0:(#[o,p]:Array Oper)[0]? =some o:=rfl;have i1:(#[o,p]:Array Oper)[1]? =some p:=rfl;have w0:Region.wanted o (yielded #[o,p] a.tmps)=true:=by simp [Region.wanted,g0]
  have w1:Region.wanted p (yielded #[o,p] (a.put (some d) v).tmps)=true:=by simp [Region.wanted,g1]
  have hev:(a.put (some d) v).eval (.tmp d)=v:=by simp [Act.eval,Act.put,a0b,hn]
  have he1:∀ w,(execOp (a.put (some d) v).eval p).run P w= .ok (.value v) w:=fun w=>by simp [execOp,o1,hev,Sem.run,Pure.pure]
  have hfin:wpOpsSIn (SX.fw none) 0 P #[o,p] (Exit.thenS (y.wpSIn (SX.fw none) 0 P S) S) [1] (a.put o.dst v) cs' w:=by
   rw [d0];simp only [wpOpsSIn,i1,w1,if_true,he1];rw [d1];exact⟨fun _ _=>trivial,hy⟩
  rw [hl,wpOpsSIn];simp only [i0,w0,if_true,aHk o0];refine⟨fun _ _=>a2e,?_⟩
  cases hrec:recoverD cs with
  | none=>rw [hrec]at hr;cases hr;exact hfin
  | some p=>rw [hrec]at hr;obtain⟨v',cs''⟩:=p;cases hr;exact hfin
theorem aEE {x:X} {ds:List Df} {u u2:FM} {exi:Exit} {dd:List Deferred} (hq:after x ds u=some u2) (hx:xR ρ x exi) (hd:kQ ρ ds dd):
 dd=[]/\(((exi= .normal\/exi= .ret)/\u2=wT u)\/∃ ch ch',exi= .panic ch'/\gG ρ ch ch'/\u2=aCF u ch):=by
 cases ds with
 | cons=>cases hq
 | nil=>
  have hdd:dd=[]:=by cases dd <;> first | rfl | exact hd.elim
  refine⟨hdd,?_⟩;cases x with
  | normal=>cases exi <;> first | exact hx.elim | (cases hq;exact .inl ⟨.inl rfl,rfl⟩)
  | ret=>cases exi <;> first | exact hx.elim | (cases hq;exact .inl ⟨.inr rfl,rfl⟩)
  | exit=>cases hq
  | panic ch=>cases exi <;> first | exact hx.elim | (cases hq;exact .inr ⟨_,_,rfl,hx,rfl⟩)
theorem pM (SC:SimC P ex) {fn:Func} {t:Array Value} {k:O->AL} {ρ0:Rho}:∀ (ds:List Df) (ds':List Deferred) (u:FM) (u':FrameMode) (ρ:Rho) (h:Tr Blk) (nx:Nat) (lg:List Fp) (w:World),ρ0.le ρ->kQ ρ ds ds'->fmR ρ u u'->bT ρ e n t ->
 Rel g ρ h nx w->r.2.nx<=g.hi->run (kO P ex fn e k ds u) h nx lg=some r->LeavesInM (SX.fw none) 0 P fn t (CR g ρ0 k r) ds' u' w
 | [],ds',u,u',ρ,h,nx,lg,w,h0,hd,hu,he,R,hi,q=>by
  cases ds' with
  | cons=>exact hd.elim
  | nil=>
   cases u with
   | ret=>
    cases u' <;> first | exact hu.elim | skip
    obtain⟨vs,x,lg',h1,h2,q1⟩:=aJA (k:=fun l=>k (.val (pQ l))) he R q
    exact⟨x,h1,pQ vs,ρ,h,nx,lg',h0,R,h2,q1⟩
   | pan ch=>
    cases u' <;> first | exact hu.elim | skip
    exact⟨ch,ρ,h,nx,lg,h0,R,hu,q⟩
 | d :: ds,ds',u,u',ρ,h,nx,lg,w,h0,hd,hu,he,R,hi,q=>by
  cases ds' with
  | nil=>exact hd.elim
  | cons d' ds'=>
   obtain⟨hd1,hd2⟩:=hd;have q0:run (defer1 P ex d u (kO P ex fn e k ds)) h nx lg=some r:=q;refine⟨fmR_run hu,?_⟩;cases d with
   | col rb=>
    obtain⟨x,hx,rfl⟩:=hd1;have q1:run (.getO rb fun o=>match o with
     | .dfr true=> .setO rb (.dfr false) (kO P ex fn e k ds u)
     | _=> .fail) h nx lg=some r:=q0
    rw [lO]at q1;obtain⟨ob,h1,n1,l1,e1,q2⟩:=dJ q1;obtain⟨y,o',k1,k2,k3,_,k5,k6⟩:=mU R e1;subst k5 k6;rw [hx]at k1;cases k1
    cases ob with
    | map=>cases q2
    | loop=>cases q2
    | dfr b=>
     cases b with
     | false=>cases q2
     | true=>
      have q3:run (.setO rb (.dfr false) (kO P ex fn e k ds u)) h1 n1 (l1++lg)=some r:=q2;rw [tP]at q3;obtain⟨_,h2,n2,l2,e2,q4⟩:=dJ q3;cases o' <;> first
       | exact k3.elim
       | skip
      have hk3:_=some []:=k3;subst hk3;have hR2:=uM R e2 hx (o1:= .deferred none) rfl;exact .inl ⟨x.1,_,rfl,run_takeDeferred k2,pM SC ds ds' u u' ρ h2 n2 _ _ h0 hd2 hu he hR2 hi q4⟩
   | fn f args cap=>
    obtain⟨xs,ys,hxs,hys,rfl⟩:=hd1;obtain⟨p,hp,q1⟩:=bN (o:=bod P f) q0;obtain⟨hnr,q2⟩:=dG q1;obtain⟨hf,hb,hcal⟩:=bod_eq hp;have hall:tvs ρ (ap args cap)=some (xs++ys):=by rw [jD];exact lJ.2 ⟨_,_,hxs,hys,rfl⟩
    obtain⟨ac,q3,hro,hA,hacn⟩:=aFz hall q2;have hres:p.1.results=#[]:=by
     cases hl:p.1.results.toList with
     | nil=>apply Array.ext';exact hl
     | cons a l=>rw [hl]at hnr;cases hnr
    have hresr:∀ t w,(results p.1 t).run P w= .ok (.tuple #[]) w:=fun t w=>by simp [results,hres,Sem.run,Pure.pure]
    have e1:(⟨xs⟩++⟨ys⟩:Array Value)=⟨xs++ys⟩:=by apply Array.ext';simp
    refine .inr ⟨(fun h=>by cases h), .func f,⟨ys⟩,f,⟨xs++ys⟩,rfl,?_,fun _ _=>a2e,?_⟩
    ·simp only [invoke];rw [e1];exact SX.run_callFunc hcal _ w
    ·cases hrb:recB p.2 with
     | none=>
      rw [hrb]at q3;have hbody:=SC p.2 g ρ ac _ h nx lg w _ r none hA R hi (by rw [hro];trivial) q3
      refine CallsDIn.mono (callsDIn_of_wp (n:=0) (F:=SX.fw none) (u:=u') (R:=fun e w'=>match e with
       | .returned _=>LeavesInM (SX.fw none) 0 P fn t (CR g ρ0 k r) ds' (settle u') w'
       | .panicked chain=>LeavesInM (SX.fw none) 0 P fn t (CR g ρ0 k r) ds' (raised u' chain) w'
       | .outgrown=>False) hf hb trivial (Code.wpIn_mono ?_ hbody)) ?_
      ·intro exi a2 w2 hk;obtain⟨x,ac2,ρ2,h2,nx2,lg2,m1,m2,m3,m4,m5,m6⟩:=hk;obtain⟨u3,hu3,q4⟩:=bN (o:=after x ac2.ds u) (f:=kO P ex fn e k ds) m6;obtain⟨hdd,hcase⟩:=aEE hu3 m2 m3.ds;rcases hcase with⟨hn,rfl⟩ | ⟨ch,ch',rfl,hch,rfl⟩
       ·have:=pM SC ds ds' _ _ ρ2 h2 nx2 lg2 w2 (Rho.le_trans h0 m1) (hd2.mono m1) (aHb (hu.mono m1)) (he.mono m1) m5 hi q4;rcases hn with rfl | rfl
        ·exact⟨hdd,_,hresr _ _,this⟩
        ·exact⟨hdd,_,hresr _ _,this⟩
       ·exact⟨hdd,pM SC ds ds' _ _ ρ2 h2 nx2 lg2 w2 (Rho.le_trans h0 m1) (hd2.mono m1) (aHw (hu.mono m1) hch) (he.mono m1) m5 hi q4⟩
      ·intro e2 u2 w2 hh;obtain⟨rfl,hh⟩:=hh;cases e2 <;> first | exact hh | exact hh.elim
     | some tr=>
      obtain⟨d,e',y⟩:=tr;rw [hrb]at q3;obtain⟨id,ops,hcode,hops⟩:=recB_eq hrb;refine callsDIn_of_wpSIn (n:=0) (F:=SX.fw none) hf hb a2e fun c₀ cs hm=>?_
      rw [hcode];obtain⟨v,u2,cs',r1,r2,r3,r4⟩:=rcv_R (cs:=cs) hu hm;obtain⟨ac1,q4,hA1,hro1⟩:=aFg (k:=fun a=>insK e' a (rcv u).1 fun a=>ex y a fun x a=>oo (after x a.ds (rcv u).2) (kO P ex fn e k ds)) hA r2 q3
      have hdn:d<ac.n:=by
       obtain⟨ee,nn,dds,roo⟩:=ac;have q3':run (Bool.rec .fail (pp ee (some (rcv u).1) (pa d) fun e2=>insK e' ⟨e2,nn,dds,roo⟩ (rcv u).1 fun a=>ex y a fun x a=>oo (after x a.ds (rcv u).2) (kO P ex fn e k ds)) (Nat.blt d nn):AL) h nx lg=some r:=q3
       cases hb:Nat.blt d nn with
       | false=>rw [hb]at q3';cases q3'
       | true=>rw [a1C]at hb;exact hb
      obtain⟨ac2,q5,hA2,hro2⟩:=aFg (k:=fun a=>ex y a fun x a=>oo (after x a.ds (rcv u).2) (kO P ex fn e k ds)) hA1 r2 q4
      have hbody:=SC y g ρ ac2 _ h nx lg w _ r none hA2 R hi (by rw [hro2,hro1,hro];trivial) q5
      refine wp_rec (by have:=hA.env.size;omega) hops r1 (wpSIn_of_wpIn rfl (Code.wpIn_mono ?_ hbody))
      intro exi a2 w2 hk;obtain⟨x,ac3,ρ2,h2,nx2,lg2,m1,m2,m3,m4,m5,m6⟩:=hk;obtain⟨u3,hu3,q6⟩:=bN (o:=after x ac3.ds (rcv u).2) (f:=kO P ex fn e k ds) m6;obtain⟨hdd,hcase⟩:=aEE hu3 m2 m3.ds;rcases hcase with⟨hn,rfl⟩ | ⟨ch,ch',rfl,hch,rfl⟩
      ·have:=pM SC ds ds' _ _ ρ2 h2 nx2 lg2 w2 (Rho.le_trans h0 m1) (hd2.mono m1) (aHb (r4.mono m1)) (he.mono m1) m5 hi q6;rcases hn with rfl | rfl
       ·exact⟨hdd,u2,r3,_,hresr _ _,this⟩
       ·exact⟨hdd,u2,r3,_,hresr _ _,this⟩
      ·exact⟨hdd,u2,r3,pM SC ds ds' _ _ ρ2 h2 nx2 lg2 w2 (Rho.le_trans h0 m1) (hd2.mono m1) (aHw (r4.mono m1) hch) (he.mono m1) m5 hi q6⟩
theorem aBO (SC:SimC P ex):SimA P ex:=fun f args xs g ρ h nx lg w k r hx R hi q=>by
 obtain⟨p,hp,q1⟩:=bN (o:=bod P f) q
 obtain⟨hf,hb,hcal⟩:=bod_eq hp
 obtain⟨ac,q2,hro,hA,_⟩:=aFz hx q1
 have hbody:=SC p.2 g ρ ac _ h nx lg w _ r none hA R hi (by rw [hro];trivial) q2
 refine⟨hcal,callsIn_of_wp_marks hf hb a2e (Code.wpIn_mono ?_ hbody)⟩
 intro exi a2 w2 hk
 obtain⟨x,ac2,ρ2,h2,nx2,lg2,m1,m2,m3,m4,m5,m6⟩:=hk
 obtain⟨e,n,ds,ro⟩:=ac2
 obtain⟨u,hu,q3⟩:=bN (o:=left x) (f:=fun u=>kO P ex p.1 e k ds u) m6
 cases x with
 | normal=>cases exi <;> first | exact m2.elim | (cases hu;exact pM SC ds _ _ _ ρ2 h2 nx2 lg2 w2 m1 m3.ds (by trivial) m3.env m5 hi q3)
 | ret=>cases exi <;> first | exact m2.elim | (cases hu;exact pM SC ds _ _ _ ρ2 h2 nx2 lg2 w2 m1 m3.ds (by trivial) m3.env m5 hi q3)
 | exit=>cases hu
 | panic ch=>cases exi <;> first | exact m2.elim | (cases hu;exact pM SC ds _ (.pan ch) _ ρ2 h2 nx2 lg2 w2 m1 m3.ds m2 m3.env m5 hi q3)
end
end
open RowKit (Below)
noncomputable section
section
variable {P:Program} {a:Act} {w:World} {g:G} {ρ:Rho} {r:O × S} {e:Tr V} {n:Nat} {h:Tr Blk} {nx:Nat} {lg:List Fp} {ex:Ex} {rr:Option Nat}
theorem aBN (ops:List Oper) (j:Nat):jX ops j=ops[j]?.bind (·.dst):=by
 unfold jX;rw [lV];cases ops[j]? <;> rfl
theorem aEo {v:V} {f:Bool->AL} {no:AL} (q:run (asBool v f no) h nx lg=some r):(∃ b,v= .bool b/\run (f b) h nx lg=some r)\/((∀ b,v≠ .bool b)/\run no h nx lg=some r):=by
 cases v <;> first
  | exact .inl ⟨_,rfl,q⟩
  | exact .inr ⟨(by intro b hb;cases hb),q⟩
theorem aFP {v:V} {x:Value} (hv:∀ b,v≠ .bool b) (e:tv ρ v=some x):∀ b,x≠ .bool b:=by
 intro b hb
 subst hb
 cases v with
 | bool c=>exact hv c rfl
 | fn _ _ _=>simp only [tv]at e;split at e <;> (try split at e) <;> cases e
 | iface _ _=>simp only [tv]at e;split at e <;> cases e
 | agg _=>simp only [tv]at e;split at e <;> (try split at e) <;> cases e
 | tup _=>simp only [tv]at e;split at e <;> cases e
 | _=>first
  | cases e
  | (simp only [tv,a1R]at e;obtain⟨_,_,h⟩:=e;cases h)
theorem aK1 {all:Array Oper} {o:Oper} {yes no:AL} (he:bT ρ e n a.tmps) (q:run (opG o.guard all.toList e yes no) h nx lg=some r):
 (Region.wanted o (yielded all a.tmps)=true/\run yes h nx lg=some r)\/(Region.wanted o (yielded all a.tmps)=false/\run no h nx lg=some r):=by
 cases hg:o.guard with
 | none=>rw [hg]at q;exact .inl ⟨by simp [Region.wanted,hg],q⟩
 | some p=>
  obtain⟨j,want⟩:=p;rw [hg]at q;have q1:run (aDu all.toList j want e yes no) h nx lg=some r:=q;have hw:Region.wanted o (yielded all a.tmps)=(yielded all a.tmps j==some want):=by simp [Region.wanted,hg]
  rw [hw];rcases kL (o:=jX all.toList j) q1 with⟨hd,q2⟩ | ⟨d,hd,q2⟩
  ·rw [aBN,a0g]at hd;have hy:yielded all a.tmps j=none:=by simp [yielded,hd]
   exact .inr ⟨by rw [hy];rfl,q2⟩
  ·rw [aBN,a0g]at hd;obtain⟨v,hv,q3⟩:=bN (o:=gp e (pa d)) q2;obtain⟨x,hx1,hx2⟩:=he.get d v hv;rcases aEo q3 with⟨b,rfl,q4⟩ | ⟨hnb,q4⟩
   ·cases hx2;have hy:yielded all a.tmps j=some b:=by simp [yielded,hd,hx1]
    rw [hy];cases b <;> cases want <;> first
     | exact .inl ⟨rfl,q4⟩
     | exact .inr ⟨rfl,q4⟩
   ·have hnx:=aFP hnb hx2;have hy:yielded all a.tmps j=none:=by
     unfold yielded;rw [hd];simp only [Option.bind_some,hx1];cases x <;> first
      | rfl
      | exact(hnx _ rfl).elim
    rw [hy];exact .inr ⟨by rfl,q4⟩
theorem aHL (SA:SimA P ex) (SY:SimY P ex) {all:Array Oper} {ρ0:Rho} {k:KX} (hi:r.2.nx<=g.hi):∀ (l:List Oper) (ρ:Rho) (ac:Ac) (a:Act) (h:Tr Blk) (nx:Nat) (lg:List Fp) (w:World),ρ0.le ρ->AcR ρ ac a->Rel g ρ h nx w->roR ρ ac.ro rr ->
 run (opsA all.toList P ex l ac k) h nx lg=some r->wpListIn (SX.fw rr) 0 P all (KQ g ρ0 ac.ro k r) l a w
 | [],ρ,ac,a,h,nx,lg,w,h0,hA,R,hr,q=>⟨.normal,ac,ρ,h,nx,lg,h0,trivial,hA,rfl,R,q⟩
 | o :: l,ρ,ac,a,h,nx,lg,w,h0,hA,R,hr,q=>by
  obtain⟨e,n,ds,ro⟩:=ac;have q0:run (opG o.guard all.toList e (opH o.op P ex e (fin o.dst e n ds ro (opsA all.toList P ex l) k) (pan k ⟨e,n,ds,ro⟩) (dfr o.dst e n ds ro (opsA all.toList P ex l) k)) (fin o.dst e n ds ro (opsA all.toList P ex l) k eI)) h nx lg=some r:=q;have put:∀ {ρ':Rho} {h':Tr Blk} {nx':Nat} {lg':List Fp} {w':World} {a':Act} {ds':List Df} {v:V} {x:Value},ρ.le ρ'->Rel g ρ' h' nx' w'->a'.tmps=a.tmps->kQ ρ' ds' a'.defers->tv ρ' v=some x ->
   run (fin o.dst e n ds' ro (opsA all.toList P ex l) k v) h' nx' lg'=some r->wpListIn (SX.fw rr) 0 P all (KQ g ρ0 ro k r) l (a'.put o.dst x) w':=by
   intro ρ' h' nx' lg' w' a' ds' v x hle R' hta hds hv q';obtain⟨e',q1,hE⟩:=aFG (k:=fun e=>opsA all.toList P ex l ⟨e,n,ds',ro⟩ k) (a:=a') (by rw [hta];exact hA.env.mono hle) hv q'
   exact aHL SA SY hi l ρ' ⟨e',n,ds',ro⟩ _ _ _ _ _ (Rho.le_trans h0 hle) ⟨hE,by cases o.dst <;> exact hds⟩ R' (hr.mono hle) q1
  unfold wpListIn;rcases aK1 hA.env q0 with⟨hw,q1⟩ | ⟨hw,q1⟩
  ·rw [a2d hw];refine op_sim SA SY hA.env R hi q1 (fun v x ρ' h' nx' lg' w' h1 h2 h3 h4=>put h1 h2 rfl (hA.ds.mono h1) h3 h4) (fun ch ch' ρ' h' nx' lg' w' h1 h2 h3 h4=>⟨.panic ch,_,ρ',h',nx',lg',Rho.le_trans h0 h1,h3,hA.mono h1,rfl,h2,h4⟩) fun d d' lg' hdf h4=>?_
   rcases kL (o:=ro) h4 with⟨hn,h5⟩ | ⟨_,_,h5⟩
   ·subst hn;refine⟨by cases rr <;> first | rfl | exact hr.elim,?_⟩
    have h6:run (fin o.dst e n (d :: ds) none (opsA all.toList P ex l) k eI) h nx lg'=some r:=h5;exact put (a':={ a with defers:=d' :: a.defers }) (ds':=d :: ds) (Rho.le_refl ρ) R rfl (show kQ ρ (d :: ds) (d' :: a.defers)from⟨hdf,hA.ds⟩) rfl h6
   ·cases h5
  ·rw [a2c (by rw [hw];simp)];exact⟨fun _ _=>trivial,put (Rho.le_refl ρ) R rfl hA.ds rfl q1⟩
theorem aHX:∀ (ps:List Nat) (vs:List V) (xs:List Value) (e:Tr V) (t:Array Value) {k:Tr V->AL},bT ρ e n t->tvs ρ vs=some xs->run (putPs ps n vs e k) h nx lg=some r ->
 ps.length=xs.length/\∃ e',run (k e') h nx lg=some r/\bT ρ e' n ((ps.zip xs).foldl (fun tmps (t,a)=>tmps.setIfInBounds t a) t)
 | [],[],xs,e,t,k,he,hx,q=>by rw [sT]at hx;subst hx;exact⟨rfl,e,q,he⟩
 | [],_ :: _,_,_,_,_,_,_,q=>by cases q
 | _ :: _,[],_,_,_,_,_,_,q=>by cases q
 | p :: ps,v :: vs,xs,e,t,k,he,hx,q=>by
  obtain⟨x,ys,h1,h2,rfl⟩:=eA.1 hx;obtain⟨hb,q1⟩:=dG (b:=Nat.blt p n) (p:=pp e (some v) (pa p) fun e=>putPs ps n vs e k) q
  rw [mX]at q1;rw [a1C]at hb;obtain⟨h3,e',q2,h4⟩:=aHX ps vs ys _ _ (bT.put (a:={ tmps:=t,defers:=[] }) he hb h1) h2 q1;exact⟨by simp [h3],e',q2,h4⟩
theorem pend_inv {x:X} {ds:List Df} {j:Option Code} {exi:Exit} (hq:pendOf x ds=some j) (hx:xR ρ x exi):(exi= .normal/\j=none)\/(exi= .ret/\j=some .ret)\/∃ i,exi= .exit i/\j=some (.exit i):=by
 cases ds with
 | cons=>cases hq
 | nil=>
  cases x with
  | normal=>cases exi <;> first | exact hx.elim | (cases hq;exact .inl ⟨rfl,rfl⟩)
  | ret=>cases exi <;> first | exact hx.elim | (cases hq;exact .inr (.inl ⟨rfl,rfl⟩))
  | exit i=>
   cases exi <;> first
    | exact hx.elim
    | (have:i=_:=hx;subst this;cases hq;exact .inr (.inr ⟨_,rfl,rfl⟩))
  | panic ch=>cases hq
theorem yS {st:LoopState} {p:Option Code} {f:Nat} {ps:List Nat} {sg bd:Code} {d:Nat} {o':Obj} (ho:obR ρ (.loop st p f e n ps sg bd d) o'):∃ rec,o'= .loop rec/\rec.state=st/\rec.pending=p/\bT ρ e n rec.tmps/\rec.params.toList=ps/\rec.assign=sg/\rec.body=bd/\∃ x,ρ d=some x/\rec.defers=x.1:=by
 cases o' <;> first
  | exact ho.elim
  | exact⟨_,rfl,ho⟩
theorem aHE (SC:SimC P ex):SimY P ex:=fun l args xs g ρ h nx lg w k r hx R hi q=>by
 unfold aB6 at q
 rw [lO]at q
 obtain⟨ob,h1,n1,l1,e1,q1⟩:=dJ q
 obtain⟨x,o',hl,hw,ho,_,rfl,rfl⟩:=mU R e1
 cases ob with
 | map=>cases q1
 | dfr=>cases q1
 | loop st p f e n ps sg bd d=>
 cases st with
 | busy=>cases q1
 | done=>cases q1
 | exhausted=>cases q1
 | ready=>
 obtain⟨rec,rfl,r1,r2,r3,r4,r5,r6,xd,r7,r8⟩:=yS ho
 obtain⟨hlen,e',q2,hE⟩:=aHX ps args xs e rec.tmps r3 hx q1
 refine⟨x,rec.fn,(rec.params.zip (⟨xs⟩:Array Value)).foldl (fun tmps (t,a)=>tmps.setIfInBounds t a) rec.tmps,sg,bd,hl,?_,?_⟩
 ·rw [<- r5,<- r6];exact run_yield hw (by show xs.length=rec.params.size;rw [<- hlen,<- r4];simp)
 ·have hT:(rec.params.zip (⟨xs⟩:Array Value)).foldl (fun tmps (t,a)=>tmps.setIfInBounds t a) rec.tmps=(ps.zip xs).foldl (fun tmps (t,a)=>tmps.setIfInBounds t a) rec.tmps:=by
   rw [<- a0a,Array.toList_zip,r4]
  rw [hT];refine roundIn_of_wpIn a2e (Go.wpIn_mono (SC sg g ρ ⟨e',n,[],some l⟩ { tmps:=_,defers:=[] } _ _ _ w _ r (some x.1) ⟨hE,a2e⟩ R hi ⟨x,hl,rfl⟩ q2) ?_);intro exi a2 w2 hk;obtain⟨x2,ac2,ρ2,h2,nx2,lg2,m1,m2,m3,m4,m5,m6⟩:=hk;cases x2 with
  | exit=>cases m6
  | ret=>cases m6
  | panic=>cases m6
  | normal=>
  cases exi <;> first
   | exact m2.elim
   | skip
  have m7:run (.getO l _) h2 nx2 lg2=some r:=m6;rw [lO]at m7;obtain⟨ob,h3,n3,l3,e3,q3⟩:=dJ m7;obtain⟨y,o2,hl2,hw2,ho2,_,rfl,rfl⟩:=mU m5 e3;rw [m1 _ _ hl]at hl2;cases hl2;cases ob with
  | map=>cases q3
  | dfr=>cases q3
  | loop st p2 f2 e2 n2 ps2 sg2 bd2 d2=>
  cases st with
  | busy=>cases q3
  | done=>cases q3
  | exhausted=>cases q3
  | ready=>
  obtain⟨rec2,rfl,s1,s2,s3,s4,s5,s6,s7⟩:=yS ho2;have q4:run (.setO l (.loop .busy p2 f2 e2 n2 ps2 sg2 bd2 d2) _) _ _ _=some r:=q3;rw [tP]at q4;obtain⟨_,h4,n4,l4,e4,q5⟩:=dJ q4;have R4:=uM m5 e4 (m1 _ _ hl) (o1:= .loop { rec2 with state:= .busy }) ⟨rfl,s2,s3,s4,s5,s6,s7⟩
  refine⟨_,run_beginRound hw2 s1,Go.wpIn_mono (SC bd g ρ2 ac2 a2 _ _ _ _ _ r (some x.1) m3 R4 hi (by rw [m4];exact⟨x,m1 _ _ hl,rfl⟩) q5) ?_⟩
  intro exi a5 w5 hk;obtain⟨x5,ac5,ρ5,h5,nx5,lg5,t1,t2,t3,t4,t5,t6⟩:=hk;obtain⟨j,hj,q6⟩:=bN t6;rw [lO]at q6;obtain⟨ob,h6,n6,l6,e6,q7⟩:=dJ q6;obtain⟨y,o3,hl3,hw3,ho3,_,rfl,rfl⟩:=mU t5 e6;rw [t1 _ _ (m1 _ _ hl)]at hl3;cases hl3;cases ob with
  | map=>cases q7
  | dfr=>cases q7
  | loop st3 p3 f3 e3 n3 ps3 sg3 bd3 d3=>
  obtain⟨rec3,rfl,u1,u2,u3,u4,u5,u6,u7⟩:=yS ho3;have q8:run (.setO l (.loop (stOf j) j f3 e3 n3 ps3 sg3 bd3 d3) (k (.val (.bool j.isNone)))) _ _ _=some r:=q7;rw [tP]at q8;obtain⟨_,h8,n8,l8,e8,q9⟩:=dJ q8;have R8:=uM t5 e8 (t1 _ _ (m1 _ _ hl)) (o1:= .loop { rec3 with state:=if j.isNone then .ready else .done,pending:=j }) ⟨by cases j <;> rfl,rfl,u3,u4,u5,u6,u7⟩
  have hfin:CR g ρ k r (.returned (.bool j.isNone)) (w5.putObj x.1 (.loop { rec3 with state:=if j.isNone then .ready else .done,pending:=j })):=⟨.bool j.isNone,ρ5,h8,n8,_,Rho.le_trans m1 t1,R8,rfl,q9⟩
  rcases pend_inv hj t2 with⟨rfl,rfl⟩ | ⟨rfl,rfl⟩ | ⟨i,rfl,rfl⟩
  ·exact⟨_,_,run_endRound none hw3,hfin⟩
  ·exact⟨_,_,run_endRound (some .ret) hw3,hfin⟩
  ·exact⟨_,_,run_endRound (some (.exit i)) hw3,hfin⟩
end
end
open RowKit (Below)
noncomputable section
section
variable {P:Program} {a:Act} {w:World} {g:G} {ρ:Rho} {r:O × S} {e:Tr V} {n:Nat} {h:Tr Blk} {nx:Nat} {lg:List Fp} {ex:Ex} {rr:Option Nat}
theorem KQ.mono {ρ':Rho} {ro:Option Nat} {k:KX} {exi:Exit} {a:Act} {w:World} (hle:ρ.le ρ') (q:KQ g ρ' ro k r exi a w):KQ g ρ ro k r exi a w:=by
 obtain⟨x,ac,ρ2,h,nx,lg,m1,m⟩:=q
 exact⟨x,ac,ρ2,h,nx,lg,Rho.le_trans hle m1,m⟩
theorem aGL {F:Fence} {m:Nat} {c:Code} {Q Q':Exit->Act->World->Prop} (hq:∀ e a w,Q e a w->Q' e a w):∀ (i:Nat) (a:Act) (w:World),Code.roundsIn F m P c Q i a w->Code.roundsIn F m P c Q' i a w
 | 0,_,_,q=>q
 | i+1,a,w,q=>Go.wpIn_mono (show c.wpIn F m P (Exit.then (Code.roundsIn F m P c Q i) Q) a w from q) fun e a w k=>by
  cases e <;> first
   | exact aGL hq i _ _ k
   | exact hq _ _ _ k
theorem aGo (SA:SimA P ex) {fO:Operand} {ps:Array Tmp} {sg bd:Code} {fv:V} {ac ac':Ac} {a':Act} {k:KX} {d:Nat} {xd:Nat × Nat} {ρ0:Rho} (fn:Nat) {obj:Obj} (hobj:Obj.loop { state:= .ready,pending:=none,fn,tmps:=a.tmps,params:=ps,assign:=sg,body:=bd,defers:=xd.1 }=obj) (hle:ρ0.le ρ) (hev:tv ρ fv=some (a.eval fO)) (hE:bT ρ ac.e ac.n a.tmps) (hA:AcR ρ ac' a') (hd:ρ d=some xd) (R:Rel g ρ h nx w) (hi:r.2.nx<=g.hi)
 (q:run (.newO (.loop .ready none 0 ac.e ac.n ps.toList sg bd d) fun l=>asFn fv (fun g first cap=>uG P ex g (ap first (ap [.yld l] cap)) fun o=>isVal o (aHl l fun x=>k x ac') (fun ch=>k (.panic ch) ac')) fun _=> .fail) h nx lg=some r):
 ∃ (df:Deferred) (f:FuncId) (args:Array Value),(resolve a.eval (rangeCall fO w.heap.size) 0).run P (w.alloc obj)= .ok df (w.alloc obj) /\
  (invoke df.target df.args).run P (w.alloc obj)= .ok (.enter f args) (w.alloc obj) /\
  CallsIn (SX.fw rr) 0 P f args (w.alloc obj) (rangePost (SX.fw rr) 0 P w.heap.size (KQ g ρ0 ac'.ro k r) a'):=by
 rw [aBM]at q
 obtain⟨b,h1,n1,l1,e1,q1⟩:=dJ q
 have hn:=rQ q1
 have hn1:n1=nx+1:=by unfold iT at e1;split at e1 <;> cases e1;rfl
 have hnone:ρ nx=none:=R.fresh nx (a1G _) (by omega)
 obtain⟨rfl,hle1,R1⟩:=zV R e1 (by omega) 0 obj (by
  rw [<- hobj];exact⟨rfl,rfl,hE.mono (Rho.le_ins hnone),rfl,rfl,rfl,xd,Rho.le_ins hnone _ _ hd,rfl⟩)
 generalize hρ1:ρ.ins b (w.heap.size,0)=ρ1 at hle1 R1
 have hb:ρ1 b=some (w.heap.size,0):=by rw [<- hρ1];exact Rho.ins_self
 have hfv:=mY hle1 _ hev
 rcases aDF q1 with⟨gf,first,cap,rfl,q2⟩ | ⟨l,rfl,q2⟩
 ·simp only [tv]at hfv;cases hf1:tvs ρ1 first with
  | none=>rw [hf1]at hfv;cases hfv
  | some xs=>
   rw [hf1]at hfv;simp only at hfv
   cases hf2:tvs ρ1 cap with
   | none=>rw [hf2]at hfv;cases hfv
   | some ys=>
    rw [hf2]at hfv;have hX:a.eval fO= .func (.func gf) ⟨xs⟩ ⟨ys⟩:=(a1T hfv).symm;rw [jD,jD]at q2;have hy:tv ρ1 (.yld b)=some (.func (.yield w.heap.size) #[] #[]):=by simp only [tv,hb,a1S]
    have hall:tvs ρ1 (first++([.yld b]++cap))=some (xs++([.func (.yield w.heap.size) #[] #[]]++ys)):=lJ.2 ⟨_,_,hf1,lJ.2 ⟨_,_,eA.2 ⟨_,_,hy,rfl,rfl⟩,hf2,rfl⟩,rfl⟩;obtain⟨hcall,hC⟩:=SA gf _ _ g ρ1 h1 n1 _ _ _ r hall R1 hi q2;have e2:(⟨xs⟩++#[.func (.yield w.heap.size) #[] #[]]++⟨ys⟩:Array Value)=⟨xs++([.func (.yield w.heap.size) #[] #[]]++ys)⟩:=by apply Array.ext';simp
    have hC':CallsIn (SX.fw rr) 0 P gf ⟨xs++([.func (.yield w.heap.size) #[] #[]]++ys)⟩ (w.alloc obj) _:=aEg (rr:=rr) hC;refine⟨{ target:= .fn (.func gf) ⟨ys⟩,args:=⟨xs⟩++#[.func (.yield w.heap.size) #[] #[]] },gf,⟨xs++([.func (.yield w.heap.size) #[] #[]]++ys)⟩,?_,?_,?_⟩
    ·have h5:resolve a.eval (rangeCall fO w.heap.size) 0=Sem.pure { target:= .fn (.func gf) ⟨ys⟩,args:=⟨xs⟩++#[.func (.yield w.heap.size) #[] #[]] }:=by
      have h6:(rangeCall fO w.heap.size).args.map a.eval=#[.func (.yield w.heap.size) #[] #[]]:=by
       simp [rangeCall,Act.eval]
      show Deferred.ofValue (a.eval fO) ((rangeCall fO w.heap.size).args.map a.eval)=_
      rw [hX,h6];rfl
     rw [h5];rfl
    ·simp only [invoke];rw [e2];exact SX.run_callFunc hcall _ _
    ·refine CallsIn.mono (R':=rangePost (SX.fw rr) 0 P w.heap.size (KQ g ρ0 ac'.ro k r) a') hC' ?_;intro e' w' hq;cases e' with
     | outgrown=>exact hq.elim
     | panicked ch'=>
      obtain⟨ch,ρ',h',nx',lg',k1,k2,k3,k4⟩:=hq;exact⟨.panic ch,ac',ρ',h',nx',lg',Rho.le_trans hle (Rho.le_trans hle1 k1),k3,hA.mono (Rho.le_trans hle1 k1),rfl,k2,k4⟩
     | returned v=>
      obtain⟨u,ρ',h',nx',lg',k1,k2,k3,k4⟩:=hq;have k5:run (.getO b _) h' nx' lg'=some r:=k4;rw [lO]at k5;obtain⟨ob,h3,n3,l3,e3,q3⟩:=dJ k5;obtain⟨y,o2,hl2,hw2,ho2,_,rfl,rfl⟩:=mU k2 e3;rw [k1 _ _ hb]at hl2;cases hl2;cases ob with
      | map=>cases q3
      | dfr=>cases q3
      | loop st p2 f2 e2 n2 ps2 sg2 bd2 d2=>
      obtain⟨rec2,rfl,s1,s2,s3,s4,s5,s6,s7⟩:=yS ho2;have hnb:st≠ .busy:=by intro hs;subst hs;cases q3
      have q4:run (.setO b (.loop .exhausted p2 f2 e2 n2 ps2 sg2 bd2 d2) (oo (jumpX p2) fun x=>k x ac')) h3 n3 (l3++lg')=some r:=by cases st <;> first | exact(hnb rfl).elim | exact q3
      rw [tP]at q4;obtain⟨_,h4,n4,l4,e4,q5⟩:=dJ q4;have R4:=uM k2 e4 (k1 _ _ hb) (o1:= .loop { rec2 with state:= .exhausted }) ⟨rfl,s2,s3,s4,s5,s6,s7⟩
      obtain⟨x,hx,q6⟩:=bN q5;have hE2:∃ jump w4,(Instr.endLoop w.heap.size).run P w'= .ok jump w4/\jump=rec2.pending/\w4=w'.putObj w.heap.size (.loop { rec2 with state:= .exhausted }):=⟨_,_,run_endLoop hw2 (by rw [s1];exact hnb),rfl,rfl⟩
      obtain⟨jump,w4,g1,g2,g3⟩:=hE2;have hQ:∀ exi,xR ρ' x exi->KQ g ρ0 ac'.ro k r exi a' w4:=fun exi hxi=>by rw [g3];exact⟨x,ac',ρ',h4,n4,_,Rho.le_trans hle (Rho.le_trans hle1 k1),hxi,hA.mono (Rho.le_trans hle1 k1),rfl,R4,q6⟩
      rw [<- s2,<- g2]at hx;refine⟨jump,w4,g1,?_⟩;cases jump with
      | none=>cases hx;exact hQ .normal trivial
      | some c=>
       cases c with
       | ret=>cases hx;exact wpIn_ret (hQ .ret trivial)
       | exit i=>cases hx;exact wpIn_exit (hQ (.exit i) rfl)
       | _=>cases hx
 ·cases q2
theorem aKt (SA:SimA P ex) {fO:Operand} {ps:Array Tmp} {sg bd:Code} {ac:Ac} {k:KX} (hA:AcR ρ ac a) (R:Rel g ρ h nx w) (hi:r.2.nx<=g.hi) (hr:roR ρ ac.ro rr) (q:run (rangeA fO ps sg bd P ex ac k) h nx lg=some r):
 (Code.rangeFunc fO ps sg bd).wpIn (SX.fw rr) 0 P (KQ g ρ ac.ro k r) a w:=by
 obtain⟨e,n,ds,ro⟩:=ac
 obtain⟨fv,h1,q1⟩:=fT q
 have hfv:=cR hA.env h1
 refine wpIn_rangeFunc fun fn _=>?_
 rcases kL (o:=ro) q1 with⟨hn,q2⟩ | ⟨l0,hn,q2⟩
 ·subst hn;have hrr:rr=none:=by cases rr <;> first | rfl | exact hr.elim
  subst hrr;rw [aBM]at q2;obtain⟨b,h2,n2,l2,e2,q3⟩:=dJ q2;have hnl:=rQ q3;obtain⟨rfl,hle1,R1⟩:=zV R e2 (by omega) 0 (.deferred (some [])) rfl
  generalize hρ1:ρ.ins b (w.heap.size,0)=ρ1 at hle1 R1
  have hb:ρ1 b=some (w.heap.size,0):=by rw [<- hρ1];exact Rho.ins_self
  obtain⟨df,f,args,k1,k2,k3⟩:=aGo (rr:=none) (ac:=⟨e,n, .col b :: ds,none⟩) (ac':=⟨e,n, .col b :: ds,none⟩) (a:=a) (a':={ a with defers:=[{ target:= .collected w.heap.size,args:=#[] }]++a.defers }) SA fn rfl hle1 (mY hle1 _ hfv) (hA.env.mono hle1) ⟨hA.env.mono hle1,⟨_,hb,rfl⟩,hA.ds.mono hle1⟩ hb R1 hi q3
  rw [World.size_alloc]at k1 k3;exact⟨_,_,_,df,_,f,args,_,run_enterLoop_outer fn a.tmps ps sg bd,k1,fun _ _=>trivial,k2,(fun h=>by cases h),k3⟩
 ·subst hn;have q2':run (.getO l0 _) h nx lg=some r:=q2;rw [lO]at q2';obtain⟨ob,h3,n3,l3,e3,q3⟩:=dJ q2';obtain⟨y,o2,hl2,hw2,ho2,_,rfl,rfl⟩:=mU R e3;cases ob with
  | map=>cases q3
  | dfr=>cases q3
  | loop st p2 f2 e2 n2 ps2 sg2 bd2 d2=>
  obtain⟨rec2,rfl,s1,s2,s3,s4,s5,s6,xd,s7,s8⟩:=yS ho2;cases rr with
  | none=>exact hr.elim
  | some l0'=>
  obtain⟨y',hy',rfl⟩:=hr;rw [hl2]at hy';cases hy';obtain⟨df,f,args,k1,k2,k3⟩:=aGo (rr:=some y.1) (ac:=⟨e,n,ds,some l0⟩) (ac':=⟨e,n,ds,some l0⟩) (a:=a) (a':=a) SA fn rfl (Rho.le_refl ρ) hfv hA.env hA s7 R hi q3;rw [<- s8]at k1 k2 k3;exact⟨_,_,_,df,_,f,args,_,run_enterLoop_inner hw2 fn a.tmps ps sg bd,k1,fun _ _=>trivial,k2,(fun h=>by cases h),k3⟩
def SimD (P:Program) (ex:Ex):Prop:=∀ (id:Nat) (ops:Array Oper) (g:G) (ρ:Rho) (ac:Ac) (a:Act) (h:Tr Blk) (nx:Nat) (lg:List Fp) (w:World) (k:KX) (r:O × S) (rr:Option Nat),
 AcR ρ ac a->Rel g ρ h nx w->r.2.nx<=g.hi->roR ρ ac.ro rr->run (aGO ops true P ex ac k) h nx lg=some r->(Code.region id ops true).wpIn (SX.fw rr) 0 P (KQ g ρ ac.ro k r) a w
def LoopS (P:Program) (ex:Ex) (m:Nat):Prop:=∀ (c:Code) (g:G) (ρ:Rho) (ac:Ac) (a:Act) (h:Tr Blk) (nx:Nat) (lg:List Fp) (w:World) (k:KX) (r:O × S) (rr:Option Nat),
 AcR ρ ac a->Rel g ρ h nx w->r.2.nx<=g.hi->roR ρ ac.ro rr->run (ex (.loop c) ac k) h nx lg=some r->Code.roundsIn (SX.fw rr) 0 P c (KQ g ρ ac.ro k r) m a w
theorem aG8 {m:Nat} (LS:LoopS P ex m) {b:Code}
 (ih:∀ (g:G) (ρ:Rho) (ac:Ac) (a:Act) (h:Tr Blk) (nx:Nat) (lg:List Fp) (w:World) (k:KX) (r:O × S) (rr:Option Nat),AcR ρ ac a->Rel g ρ h nx w->r.2.nx<=g.hi->roR ρ ac.ro rr->run (qE P ex b ac k) h nx lg=some r->b.wpIn (SX.fw rr) 0 P (KQ g ρ ac.ro k r) a w)
 {ac:Ac} {k:KX} (hA:AcR ρ ac a) (R:Rel g ρ h nx w) (hi:r.2.nx<=g.hi) (hr:roR ρ ac.ro rr) (q:run (qE P ex (.loop b) ac k) h nx lg=some r):Code.roundsIn (SX.fw rr) 0 P b (KQ g ρ ac.ro k r) (m+1) a w:=by
 have q1:run (qE P ex b ac fun x=>seqX x (ex (.loop b)) k) h nx lg=some r:=q
 refine Go.wpIn_mono (ih g ρ ac a h nx lg w _ r rr hA R hi hr q1) fun exi a2 w2 hk=>?_
 obtain⟨x,ac2,ρ2,h2,nx2,lg2,m1,m2,m3,m4,m5,m6⟩:=hk
 cases x with
 | normal=>
  cases exi <;> first | exact m2.elim | skip
  have:=LS b g ρ2 ac2 a2 h2 nx2 lg2 w2 k r rr m3 m5 hi (by rw [m4];exact hr.mono m1) m6
  rw [m4]at this;exact aGL (fun _ _ _=>KQ.mono m1) m _ _ this
 | exit i=>cases exi <;> first | exact m2.elim | exact⟨.exit i,ac2,ρ2,h2,nx2,lg2,m1,m2,m3,m4,m5,m6⟩
 | ret=>cases exi <;> first | exact m2.elim | exact⟨.ret,ac2,ρ2,h2,nx2,lg2,m1,m2,m3,m4,m5,m6⟩
 | panic ch=>cases exi <;> first | exact m2.elim | exact⟨.panic ch,ac2,ρ2,h2,nx2,lg2,m1,m2,m3,m4,m5,m6⟩
theorem aGS {m:Nat} (SC:SimC P ex) (SD:SimD P ex) (LS:LoopS P ex m) (c:Code):∀ (g:G) (ρ:Rho) (ac:Ac) (a:Act) (h:Tr Blk) (nx:Nat) (lg:List Fp) (w:World) (k:KX) (r:O × S) (rr:Option Nat),
 AcR ρ ac a->Rel g ρ h nx w->r.2.nx<=g.hi->roR ρ ac.ro rr->run (qE P ex c ac k) h nx lg=some r->c.wpIn (SX.fw rr) 0 P (KQ g ρ ac.ro k r) a w:=by
 induction c with
 | skip=>intro g ρ ac a h nx lg w k r rr hA R hi hr q;exact wpIn_skip ⟨.normal,ac,ρ,h,nx,lg,Rho.le_refl ρ,trivial,hA,rfl,R,q⟩
 | label l=>intro g ρ ac a h nx lg w k r rr hA R hi hr q;exact wpIn_label ⟨.normal,ac,ρ,h,nx,lg,Rho.le_refl ρ,trivial,hA,rfl,R,q⟩
 | exit i=>intro g ρ ac a h nx lg w k r rr hA R hi hr q;exact wpIn_exit ⟨.exit i,ac,ρ,h,nx,lg,Rho.le_refl ρ,rfl,hA,rfl,R,q⟩
 | ret=>intro g ρ ac a h nx lg w k r rr hA R hi hr q;exact wpIn_ret ⟨.ret,ac,ρ,h,nx,lg,Rho.le_refl ρ,trivial,hA,rfl,R,q⟩
 | scope b _=>intro g ρ ac a h nx lg w k r rr hA R hi hr q;cases q
 | goto l=>intro g ρ ac a h nx lg w k r rr hA R hi hr q;cases q
 | refuse s=>intro g ρ ac a h nx lg w k r rr hA R hi hr q;cases q
 | region id ops draw=>
  intro g ρ ac a h nx lg w k r rr hA R hi hr q;cases draw with
  | true=>exact SD id ops g ρ ac a h nx lg w k r rr hA R hi hr q
  | false=>exact wpIn_region_list (aHL (aBO SC) (aHE SC) hi ops.toList ρ ac a h nx lg w (Rho.le_refl ρ) hA R hr q)
 | seq x y ihx ihy=>
  intro g ρ ac a h nx lg w k r rr hA R hi hr q;have q1:run (qE P ex x ac fun x=>seqX x (qE P ex y) k) h nx lg=some r:=q
  refine wpIn_seq (Go.wpIn_mono (ihx g ρ ac a h nx lg w _ r rr hA R hi hr q1) fun exi a2 w2 hk=>?_)
  obtain⟨x,ac2,ρ2,h2,nx2,lg2,m1,m2,m3,m4,m5,m6⟩:=hk;cases x with
  | normal=>
   cases exi <;> first | exact m2.elim | skip
   have:=ihy g ρ2 ac2 a2 h2 nx2 lg2 w2 k r rr m3 m5 hi (by rw [m4];exact hr.mono m1) m6
   rw [m4]at this;exact Go.wpIn_mono this fun _ _ _=>KQ.mono m1
  | exit i=>cases exi <;> first | exact m2.elim | exact⟨.exit i,ac2,ρ2,h2,nx2,lg2,m1,m2,m3,m4,m5,m6⟩
  | ret=>cases exi <;> first | exact m2.elim | exact⟨.ret,ac2,ρ2,h2,nx2,lg2,m1,m2,m3,m4,m5,m6⟩
  | panic ch=>cases exi <;> first | exact m2.elim | exact⟨.panic ch,ac2,ρ2,h2,nx2,lg2,m1,m2,m3,m4,m5,m6⟩
 | cond c x y ihx ihy=>
  intro g ρ ac a h nx lg w k r rr hA R hi hr q;obtain⟨v,hv,q1⟩:=fT q;have hx:=cR hA.env hv;cases v with
  | bool b=>
   have hb:a.eval c= .bool b:=(a1T hx).symm;cases b with
   | true=>exact wpIn_cond_true hb (ihx g ρ ac a h nx lg w k r rr hA R hi hr q1)
   | false=>exact wpIn_cond_false hb (ihy g ρ ac a h nx lg w k r rr hA R hi hr q1)
  | _=>cases q1
 | block id b ih=>
  intro g ρ ac a h nx lg w k r rr hA R hi hr q;have q1:run (qE P ex b ac fun x=>blkX x id k) h nx lg=some r:=q
  refine wpIn_block (Go.wpIn_mono (ih g ρ ac a h nx lg w _ r rr hA R hi hr q1) fun exi a2 w2 hk=>?_)
  obtain⟨x,ac2,ρ2,h2,nx2,lg2,m1,m2,m3,m4,m5,m6⟩:=hk;cases x with
  | normal=>cases exi <;> first | exact m2.elim | exact⟨.normal,ac2,ρ2,h2,nx2,lg2,m1,m2,m3,m4,m5,m6⟩
  | ret=>cases exi <;> first | exact m2.elim | exact⟨.ret,ac2,ρ2,h2,nx2,lg2,m1,m2,m3,m4,m5,m6⟩
  | panic ch=>cases exi <;> first | exact m2.elim | exact⟨.panic ch,ac2,ρ2,h2,nx2,lg2,m1,m2,m3,m4,m5,m6⟩
  | exit i=>
   cases exi <;> first
    | exact m2.elim
    | skip
   have hii:i=_:=m2;subst hii;have q2:run (ife (Nat.beq i id) (k .normal) (k (.exit i)) ac2) h2 nx2 lg2=some r:=m6;show if i=id then _ else _
   cases hb:Nat.beq i id with
   | true=>
    rw [hb]at q2;rw [a2d (a1D hb)];exact⟨.normal,ac2,ρ2,h2,nx2,lg2,m1,trivial,m3,m4,m5,q2⟩
   | false=>
    rw [hb]at q2;rw [a2c (Nat.ne_of_beq_eq_false hb)];exact⟨.exit i,ac2,ρ2,h2,nx2,lg2,m1,rfl,m3,m4,m5,q2⟩
 | loop b ih=>intro g ρ ac a h nx lg w k r rr hA R hi hr q;exact wpIn_loop_rounds (m+1) (aG8 LS ih hA R hi hr q)
 | rangeFunc f ps sg bd _ _=>intro g ρ ac a h nx lg w k r rr hA R hi hr q;exact aKt (aBO SC) hA R hi hr q
theorem aEr (SD:∀ ex,SimC P ex->SimD P ex):∀ n,SimC P (exec P n)/\LoopS P (exec P n) n
 | 0=>⟨(fun c g ρ ac a h nx lg w k r rr _ _ _ _ q=>by cases q),(fun c g ρ ac a h nx lg w k r rr _ _ _ _ q=>by cases q)⟩
 | n+1=>
  have ⟨SC,LS⟩:=aEr SD n
  ⟨fun c g ρ ac a h nx lg w k r rr hA R hi hr q=>aGS SC (SD _ SC) LS c g ρ ac a h nx lg w k r rr hA R hi hr q,
   fun c g ρ ac a h nx lg w k r rr hA R hi hr q=>aG8 LS (aGS SC (SD _ SC) LS c) hA R hi hr q⟩
end
end
open RowKit (Below)
noncomputable section
def Sep (l k:List Fp):Prop:=∀ b i,(T l b i->¬ W k b i)/\(W l b i->¬ T k b i)
theorem Sep.symm {l k:List Fp} (h:Sep l k):Sep k l:=fun b i=>⟨fun t w=>(h b i).2 w t,fun w t=>(h b i).1 t w⟩
theorem aEi {f g:Fp} (h:fpAp f g=true):∀ b i,(f.t b i->¬ g.w b i)/\(f.w b i->¬ g.t b i):=by
 intro c i
 cases f with
 | cell b lo hi w=>
  cases g with
  | cell b' lo' hi' w'=>
   have h':Bool.rec (motive:=fun _=>Bool) true (Bool.rec (motive:=fun _=>Bool) (Bool.rec (motive:=fun _=>Bool) (Bool.rec (motive:=fun _=>Bool) (Bool.not w') false w) true (Nat.ble hi' lo)) true (Nat.ble hi lo')) (Nat.beq b b')=true:=h
   cases h1:Nat.beq b b' with
   | false=>
    have:=Nat.ne_of_beq_eq_false h1;refine⟨fun t w=>?_,fun w t=>?_⟩
    ·have h2:=t.1;have h3:=w.2.1;omega
    ·have h2:=w.2.1;have h3:=t.1;omega
   | true=>
    rw [h1]at h';cases h2:Nat.ble hi lo' with
    | true=>
     have:=a1F h2;refine⟨fun t w=>?_,fun w t=>?_⟩
     ·have h3:=t.2;have h4:=w.2.2;omega
     ·have h3:=w.2.2;have h4:=t.2;omega
    | false=>
     rw [h2]at h';cases h3:Nat.ble hi' lo with
     | true=>
      have:=a1F h3;refine⟨fun t w=>?_,fun w t=>?_⟩
      ·have h3:=t.2;have h4:=w.2.2;omega
      ·have h3:=w.2.2;have h4:=t.2;omega
     | false=>
      rw [h3]at h';rcases w with _ | _ <;> rcases w' with _ | _
      ·exact⟨(fun _ w=>by cases w.1),(fun w=>by cases w.1)⟩
      all_goals cases h'
  | fresh n0 n1=>
   have h':Bool.rec (motive:=fun _=>Bool) (Nat.ble n1 b) true (Nat.blt b n0)=true:=h
   have key:b<n0\/n1<=b:=by
    cases h1:Nat.blt b n0 with
    | true=>rw [a1C]at h1;exact .inl h1
    | false=>rw [h1]at h';exact .inr (a1F h')
   refine⟨fun t w=>?_,fun w t=>?_⟩
   ·have h2:=t.1;have h3:n0<=c/\c<n1:=w;omega
   ·have h2:=w.2.1;have h3:n0<=c/\c<n1:=t;omega
 | fresh n0 n1=>
  cases g with
  | cell b lo hi w=>
   have h':Bool.rec (motive:=fun _=>Bool) (Nat.ble n1 b) true (Nat.blt b n0)=true:=h
   have key:b<n0\/n1<=b:=by
    cases h1:Nat.blt b n0 with
    | true=>rw [a1C]at h1;exact .inl h1
    | false=>rw [h1]at h';exact .inr (a1F h')
   refine⟨fun t w=>?_,fun w t=>?_⟩
   ·have h2:=w.2.1;have h3:n0<=c/\c<n1:=t;omega
   ·have h2:=t.1;have h3:n0<=c/\c<n1:=w;omega
  | fresh m0 m1=>
   have h':Bool.rec (motive:=fun _=>Bool) (Nat.ble m1 n0) true (Nat.ble n1 m0)=true:=h
   have key:m1<=n0\/n1<=m0:=by
    cases h1:Nat.ble n1 m0 with
    | true=>exact .inr (a1F h1)
    | false=>rw [h1]at h';exact .inl (a1F h')
   refine⟨fun t w=>?_,fun w t=>?_⟩
   ·have h2:n0<=c/\c<n1:=t;have h3:m0<=c/\c<m1:=w;omega
   ·have h2:n0<=c/\c<n1:=w;have h3:m0<=c/\c<m1:=t;omega
theorem aDd (f:Fp):∀ (l:List Fp),ap1 f l=true->∀ g∈l,fpAp f g=true
 | [],_,_,hg=>by cases hg
 | g :: l,h,x,hx=>by
  have h':Bool.rec (motive:=fun _=>Bool) false (ap1 f l) (fpAp f g)=true:=h
  cases hq:fpAp f g with
  | false=>rw [hq]at h';cases h'
  | true=>
   rw [hq]at h';rcases a1f.1 hx with rfl | hx
   ·exact hq
   ·exact aDd f l h' x hx
theorem aC2:∀ (l m:List Fp),apL l m=true->∀ f∈l,ap1 f m=true
 | [],_,_,_,hf=>by cases hf
 | f :: l,m,h,x,hx=>by
  have h':Bool.rec (motive:=fun _=>Bool) false (apL l m) (ap1 f m)=true:=h
  cases hq:ap1 f m with
  | false=>rw [hq]at h';cases h'
  | true=>
   rw [hq]at h';rcases a1f.1 hx with rfl | hx
   ·exact hq
   ·exact aC2 l m h' x hx
theorem apL_sep {l m:List Fp} (h:apL l m=true):Sep l m:=fun b i=>
 ⟨fun ⟨f,hf,t⟩ ⟨g,hg,w⟩=>(aEi (aDd f m (aC2 l m h f hf) g hg) b i).1 t w,fun ⟨f,hf,w⟩ ⟨g,hg,t⟩=>(aEi (aDd f m (aC2 l m h f hf) g hg) b i).2 w t⟩
theorem aDs {anc:Nat} {lg:List Fp}:∀ {l:List (Nat × List Fp)},apart anc lg l=true->∀ p∈l,has anc p.1=true\/Sep lg p.2
 | [],_,_,hp=>by cases hp
 | q :: l,h,p,hp=>by
  have h':Bool.rec (motive:=fun _=>Bool) (Bool.rec (motive:=fun _=>Bool) false (apart anc lg l) (apL lg q.2)) (apart anc lg l) (has anc q.1)=true:=h
  cases h1:has anc q.1 with
  | true=>
   rw [h1]at h';rcases a1f.1 hp with rfl | hp
   ·exact .inl h1
   ·exact aDs h' p hp
  | false=>
   rw [h1]at h';cases h2:apL lg q.2 with
   | false=>rw [h2]at h';cases h'
   | true=>
    rw [h2]at h';rcases a1f.1 hp with rfl | hp
    ·exact .inr (apL_sep h2)
    ·exact aDs h' p hp
theorem commute {α β:Type} {p:Pr α} {q:Pr β} (hp:iD p) (hq:iD q) {h h1 h2:Tr Blk} {n0 n1 m0 m1:Nat} {l k:List Fp} {x:α} {y:β} (e1:p h n0=some (x,h1,n1,l)) (e2:q h1 m0=some (y,h2,m1,k)) (hs:Sep l k):
 ∃ g1 g2,q h m0=some (y,g1,m1,k)/\p g1 n0=some (x,g2,n1,l)/\∀ b i,cv g2 b i=cv h2 b i:=by
 obtain⟨g1,f1,d1⟩:=hq.loc e2 h fun b i t=>(hp.out e1 b i fun w=>(hs b i).2 w t).symm
 obtain⟨g2,f2,d2⟩:=hp.loc e1 g1 fun b i t=>d1.out b i ((hs b i).1 t)
 refine⟨g1,g2,f1,f2,fun b i=>?_⟩
 by_cases w:W l b i
 ·rw [d2.inn b i w,hq.out e2 b i ((hs b i).1 w.t)]
 ·rw [d2.out b i w];by_cases w2:W k b i
  ·exact d1.inn b i w2
  ·rw [d1.out b i w2,hq.out e2 b i w2,hp.out e1 b i w]
theorem same_run {α:Type} {p:Pr α} (hp:iD p) {h g h1:Tr Blk} {n0 n1:Nat} {l:List Fp} {x:α} (e1:p h n0=some (x,h1,n1,l)) (hs:∀ b i,cv g b i=cv h b i):∃ g1,p g n0=some (x,g1,n1,l)/\∀ b i,cv g1 b i=cv h1 b i:=by
 obtain⟨g1,f1,d1⟩:=hp.loc e1 g fun b i _=>hs b i
 refine⟨g1,f1,fun b i=>?_⟩
 by_cases w:W l b i
 ·exact d1.inn b i w
 ·rw [d1.out b i w,hp.out e1 b i w,hs b i]
end
open RowKit (Below)
noncomputable section
section
variable {P:Program} {ex:Ex} {e e':Tr V}
theorem rC:∀ {l:List Operand},(∀ x∈l,ev x e=ev x e')->evs l e=evs l e'
 | [],_=>rfl
 | x :: l,h=>by
  show(Option.rec none (fun v=>Option.rec none (fun vs=>some (v :: vs)) (evs l e)) (ev x e):Option (List V))=Option.rec none (fun v=>Option.rec none (fun vs=>some (v :: vs)) (evs l e')) (ev x e')
  rw [h x (.head _),rC fun y hy=>h y (.tail _ hy)]
theorem evO_c {x:Option Operand} (h:∀ y,x=some y->ev y e=ev y e'):evO x e=evO x e':=by
 cases x with
 | none=>rfl
 | some x=>simp only [evO,h x rfl]
theorem aDK:∀ {ps:List (Nat × Operand)} {x:Operand},x∈prt ps->x∈ps.map (·.2)
 | [],_,h=>by cases h
 | (n,y) :: ps,x,h=>by
  rcases a1f.1 h with rfl | h
  ·exact .head _
  ·exact .tail _ (aDK h)
theorem aIp {op:Op} (h:∀ x∈op.operands.toList,ev x e=ev x e'):opH op P ex e=opH op P ex e':=by
 funext k kp kd
 cases op
 case move x=>
  have h0:=h x (by simp [Op.operands])
  show oM x P ex e k kp kd=oM x P ex e' k kp kd
  simp only [oM,cD,dP,eJ,h0]
 case assign x=>
  have h0:=h x (by simp [Op.operands])
  show oM x P ex e k kp kd=oM x P ex e' k kp kd
  simp only [oM,cD,dP,eJ,h0]
 case pick c x y=>
  have h0:=h c (by simp [Op.operands])
  have h1:=h x (by simp [Op.operands])
  have h2:=h y (by simp [Op.operands])
  show yJ c x y P ex e k kp kd=yJ c x y P ex e' k kp kd
  simp only [yJ,cD,dP,eJ,h0,h1,h2]
 case load t x=>
  have h0:=h x (by simp [Op.operands])
  show aAe t x P ex e k kp kd=aAe t x P ex e' k kp kd
  simp only [aAe,cD,dP,eJ,h0]
 case store t x y=>
  have h0:=h x (by simp [Op.operands])
  have h1:=h y (by simp [Op.operands])
  show wX t x y P ex e k kp kd=wX t x y P ex e' k kp kd
  simp only [wX,cD,dP,eJ,h0,h1]
 case alloc t=>
  show aAr t P ex e k kp kd=aAr t P ex e' k kp kd
  rfl
 case box t x=>
  have h0:=h x (by simp [Op.operands])
  show hBox t x P ex e k kp kd=hBox t x P ex e' k kp kd
  simp only [hBox,cD,dP,eJ,h0]
 case nilCheck x=>
  have h0:=h x (by simp [Op.operands])
  show hNil x P ex e k kp kd=hNil x P ex e' k kp kd
  simp only [hNil,cD,dP,eJ,h0]
 case binOp op t x y z=>
  have h0:=h x (by simp [Op.operands])
  have h1:=h y (by simp [Op.operands])
  show hBin op t x y P ex e k kp kd=hBin op t x y P ex e' k kp kd
  simp only [hBin,cD,dP,eJ,h0,h1]
 case unOp op t x=>
  have h0:=h x (by simp [Op.operands])
  show hUn op t x P ex e k kp kd=hUn op t x P ex e' k kp kd
  simp only [hUn,cD,dP,eJ,h0]
 case convert s t x=>
  have h0:=h x (by simp [Op.operands])
  show zH s t x P ex e k kp kd=zH s t x P ex e' k kp kd
  simp only [zH,cD,dP,eJ,h0]
 case makeInterface t x=>
  have h0:=h x (by simp [Op.operands])
  show hMkI t x P ex e k kp kd=hMkI t x P ex e' k kp kd
  simp only [hMkI,cD,dP,eJ,h0]
 case makeMap t r=>
  show hMapN t r P ex e k kp kd=hMapN t r P ex e' k kp kd
  rfl
 case makeSlice t x y=>
  have h0:=h x (by simp [Op.operands])
  have h1:=h y (by simp [Op.operands])
  show hMks t x y P ex e k kp kd=hMks t x y P ex e' k kp kd
  simp only [hMks,cD,dP,eJ,h0,h1]
 case fieldAddr t x f=>
  have h0:=h x (by simp [Op.operands])
  show zA t x f P ex e k kp kd=zA t x f P ex e' k kp kd
  simp only [zA,cD,dP,eJ,h0]
 case field t x f=>
  have h0:=h x (by simp [Op.operands])
  show zJ t x f P ex e k kp kd=zJ t x f P ex e' k kp kd
  simp only [zJ,cD,dP,eJ,h0]
 case indexAddr t x i=>
  have h0:=h x (by simp [Op.operands])
  have h1:=h i (by simp [Op.operands])
  show yU t x i P ex e k kp kd=yU t x i P ex e' k kp kd
  simp only [yU,cD,dP,eJ,h0,h1]
 case index t x i=>
  have h0:=h x (by simp [Op.operands])
  have h1:=h i (by simp [Op.operands])
  show hIdx t x i P ex e k kp kd=hIdx t x i P ex e' k kp kd
  simp only [hIdx,cD,dP,eJ,h0,h1]
 case lookup t x y ok=>
  have h0:=h x (by simp [Op.operands])
  have h1:=h y (by simp [Op.operands])
  show vV t x y ok P ex e k kp kd=vV t x y ok P ex e' k kp kd
  simp only [vV,cD,dP,eJ,h0,h1]
 case mapUpdate t x y z=>
  have h0:=h x (by simp [Op.operands])
  have h1:=h y (by simp [Op.operands])
  have h2:=h z (by simp [Op.operands])
  show hUpd t x y z P ex e k kp kd=hUpd t x y z P ex e' k kp kd
  simp only [hUpd,cD,dP,eJ,h0,h1,h2]
 case insert t x y z=>
  have h0:=h x (by simp [Op.operands])
  have h1:=h y (by simp [Op.operands])
  have h2:=h z (by simp [Op.operands])
  show hUpd t x y z P ex e k kp kd=hUpd t x y z P ex e' k kp kd
  simp only [hUpd,cD,dP,eJ,h0,h1,h2]
 case typeAssert x t T ok=>
  have h0:=h x (by simp [Op.operands])
  show hTa x t T ok P ex e k kp kd=hTa x t T ok P ex e' k kp kd
  simp only [hTa,cD,dP,eJ,h0]
 case extract x i=>
  have h0:=h x (by simp [Op.operands])
  show hExt x i P ex e k kp kd=hExt x i P ex e' k kp kd
  simp only [hExt,cD,dP,eJ,h0]
 case panic x=>
  have h0:=h x (by simp [Op.operands])
  show aBr x P ex e k kp kd=aBr x P ex e' k kp kd
  simp only [aBr,cD,dP,eJ,h0]
 case build t ps=>
  have h0:evs (prt ps.toList) e=evs (prt ps.toList) e':=rC fun x hx=>h x (by simpa [Op.operands] using aDK hx)
  show zN t ps P ex e k kp kd=zN t ps P ex e' k kp kd
  simp only [zN,eR,h0]
 case buildSlice t n ps=>
  have h0:evs (prt ps.toList) e=evs (prt ps.toList) e':=rC fun x hx=>h x (by simpa [Op.operands] using aDK hx)
  show vU t n ps P ex e k kp kd=vU t n ps P ex e' k kp kd
  simp only [vU,eR,h0]
 case makeFunc fn f c=>
  have h0:evs f.toList e=evs f.toList e':=rC fun x hx=>h x (by simp [Op.operands];exact .inl (by simpa using hx))
  have h1:evs c.toList e=evs c.toList e':=rC fun x hx=>h x (by simp [Op.operands];exact .inr (by simpa using hx))
  show hMkF fn f c P ex e k kp kd=hMkF fn f c P ex e' k kp kd
  simp only [hMkF,eR,h0,h1]
 case slice t x lo hi mx=>
  have h0:=h x (by simp [Op.operands])
  have h1:evO lo e=evO lo e':=evO_c fun y hy=>h y (by subst hy;simp [Op.operands])
  have h2:evO hi e=evO hi e':=evO_c fun y hy=>h y (by subst hy;simp [Op.operands])
  have h3:evO mx e=evO mx e':=evO_c fun y hy=>h y (by subst hy;simp [Op.operands])
  show vY t x lo hi mx P ex e k kp kd=vY t x lo hi mx P ex e' k kp kd
  simp only [vY,cD,yL,h0,h1,h2,h3]
 case call c=>
  have ha:evs c.args.toList e=evs c.args.toList e':=rC fun x hx=>h x (by
   have:x∈c.operands.toList:=by unfold Call.operands;cases c.callee <;> simp <;> (first | exact .inr (by simpa using hx) | simpa using hx)
   simpa [Op.operands] using this)
  show hCal c.callee c P ex e k kp kd=hCal c.callee c P ex e' k kp kd
  cases hc:c.callee with
  | value f=>
   have h0:=h f (by have:f∈c.operands.toList:=by unfold Call.operands;rw [hc];simp
                    simpa [Op.operands] using this)
   show aAU f c P ex e k kp kd=aAU f c P ex e' k kp kd
   simp only [aAU,cD,eR,h0,ha]
  | invoke x name=>
   have h0:=h x (by have:x∈c.operands.toList:=by unfold Call.operands;rw [hc];simp
                    simpa [Op.operands] using this)
   show hInv x name c P ex e k kp kd=hInv x name c P ex e' k kp kd
   simp only [hInv,cD,eR,h0,ha]
  | builtin b=>
   cases b
   case append=>show wB c P ex e k kp kd=wB c P ex e' k kp kd;simp only [wB,eR,ha]
   case len=>show hLen c P ex e k kp kd=hLen c P ex e' k kp kd;simp only [hLen,eR,ha]
   case min=>show hMm true c P ex e k kp kd=hMm true c P ex e' k kp kd;simp only [hMm,eR,ha]
   case max=>show hMm false c P ex e k kp kd=hMm false c P ex e' k kp kd;simp only [hMm,eR,ha]
   case clear=>show xG c P ex e k kp kd=xG c P ex e' k kp kd;simp only [xG,eR,ha]
   all_goals rfl
 case defer c=>
  have ha:evs c.args.toList e=evs c.args.toList e':=rC fun x hx=>h x (by
   have:x∈c.operands.toList:=by unfold Call.operands;cases c.callee <;> simp <;> (first | exact .inr (by simpa using hx) | simpa using hx)
   simpa [Op.operands] using this)
  show uA c P ex e k kp kd=uA c P ex e' k kp kd
  cases hc:c.callee with
  | value f=>
   have h0:=h f (by have:f∈c.operands.toList:=by unfold Call.operands;rw [hc];simp
                    simpa [Op.operands] using this)
   unfold uA;rw [hc];show cD f e _=cD f e' _
   simp only [cD,eR,h0,ha]
  | invoke x name=>unfold uA;rw [hc];rfl
  | builtin b=>unfold uA;rw [hc];rfl
 all_goals rfl
end
end
open RowKit (Below)
noncomputable section
def gdV (w:Bool) (v:Option V):Option Bool:=match v with
 | none=>none
 | some (.bool b)=>some (b==w)
 | some _=>some false
def gd (all:List Oper) (g:Option (Nat × Bool)) (e:Tr V):Option Bool:=match g with
 | none=>some true
 | some p=>match jX all p.1 with
  | none=>some false
  | some d=>gdV p.2 (at_ e d)
def rdS (all:List Oper) (o:Oper) (t:Nat):Prop:= .tmp t∈o.op.operands.toList\/∃ j w,o.guard=some (j,w)/\jX all j=some t
def ins (d:Option Nat) (v:V) (e:Tr V):Tr V:=match d with
 | none=>e
 | some t=>pu e t (some v)
theorem pK {d:Option Nat} {v:V} {e:Tr V} {t:Nat}:at_ (ins d v e) t=if d=some t then some v else at_ e t:=by
 cases d with
 | none=>rfl
 | some s=>
  show at_ (pu e s (some v)) t=_
  rw [fQ];by_cases h:t=s
  ·subst h;simp
  ·rw [a2c h,a2c (by intro h2;cases h2;exact h rfl)]
theorem aCM {all:List Oper} {o:Oper} {e e':Tr V} (h:∀ t,rdS all o t->at_ e t=at_ e' t):gd all o.guard e=gd all o.guard e':=by
 cases hg:o.guard with
 | none=>rfl
 | some p=>
  obtain⟨j,w⟩:=p;cases hd:jX all j with
  | none=>simp only [gd,hd]
  | some d=>simp only [gd,hd,h d (.inr ⟨j,w,hg,hd⟩)]
theorem aD1 {P:Program} {ex:Ex} {all:List Oper} {o:Oper} {e e':Tr V} (h:∀ t,rdS all o t->at_ e t=at_ e' t):opH o.op P ex e=opH o.op P ex e':=aIp fun x hx=>by
 cases x with
 | tmp t=>exact h t (.inl hx)
 | const c=>rfl
 | global _=>rfl
 | func _=>rfl
theorem opG_gd {all:List Oper} {g:Option (Nat × Bool)} {e:Tr V} {yes no:AL} {h:Tr Blk} {nx:Nat} {lg:List Fp} {r:O × S} (q:run (opG g all e yes no) h nx lg=some r):(gd all g e=some true/\run yes h nx lg=some r)\/(gd all g e=some false/\run no h nx lg=some r):=by
 cases g with
 | none=>exact .inl ⟨rfl,q⟩
 | some p=>
  obtain⟨j,w⟩:=p;have q1:run (aDu all j w e yes no) h nx lg=some r:=q;rcases kL (o:=jX all j) q1 with⟨hd,q2⟩ | ⟨d,hd,q2⟩
  ·exact .inr ⟨by simp only [gd,hd],q2⟩
  ·obtain⟨v,hv,q3⟩:=bN (o:=gp e (pa d)) q2;have hv':at_ e d=some v:=hv;have hgd:gd all (some (j,w)) e=gdV w (some v):=by simp only [gd,hd,hv']
   rw [hgd];rcases aEo q3 with⟨b,rfl,q4⟩ | ⟨hnb,q4⟩
   ·cases b <;> cases w <;> first
     | exact .inl ⟨rfl,q4⟩
     | exact .inr ⟨rfl,q4⟩
   ·right
    refine⟨?_,q4⟩;cases v <;> first
     | exact(hnb _ rfl).elim
     | rfl
theorem aKr {all:Array Oper} {o:Oper} {e:Tr V} {n:Nat} {a:Act} {ρ:Rho} {b:Bool} (he:bT ρ e n a.tmps) (h:gd all.toList o.guard e=some b):Region.wanted o (yielded all a.tmps)=b:=by
 cases hg:o.guard with
 | none=>rw [hg]at h;cases h;simp [Region.wanted,hg]
 | some p=>
  obtain⟨j,w⟩:=p;rw [hg]at h;have hw:Region.wanted o (yielded all a.tmps)=(yielded all a.tmps j==some w):=by simp [Region.wanted,hg]
  rw [hw];cases hd:jX all.toList j with
  | none=>
   simp only [gd,hd]at h;cases h
   rw [aBN,a0g]at hd;have hy:yielded all a.tmps j=none:=by simp [yielded,hd]
   rw [hy];rfl
  | some d=>
   have hgd:gd all.toList (some (j,w)) e=gdV w (at_ e d):=by simp only [gd,hd]
   rw [hgd]at h;rw [aBN,a0g]at hd;cases hv:at_ e d with
   | none=>rw [hv]at h;cases h
   | some v=>
    rw [hv]at h;obtain⟨x,hx1,hx2⟩:=he.get d v hv;by_cases hb:∃ c,v= .bool c
    ·obtain⟨c,rfl⟩:=hb;cases hx2;cases h;have hy:yielded all a.tmps j=some c:=by simp [yielded,hd,hx1]
     rw [hy];cases c <;> cases w <;> rfl
    ·have hnb:∀ c,v≠ .bool c:=fun c hc=>hb ⟨c,hc⟩
     have hnx:=aFP hnb hx2;have hy:yielded all a.tmps j=none:=by
      unfold yielded;rw [hd];simp only [Option.bind_some,hx1];cases x <;> first
       | rfl
       | exact(hnx _ rfl).elim
     rw [hy];cases v <;> first
      | exact(hnb _ rfl).elim
      | (cases h;rfl)
def pOp (b:Bool) (p:St):Pr (V × List Fp):=match b with
 | true=>kT p
 | false=>fun h nx=>some ((eI,[]),h,nx,[])
theorem aAw {b:Bool} {p:St} (hp:Loc p):iD (pOp b p):=by
 cases b with
 | true=>exact aEX hp
 | false=>
  refine⟨fun {h nx x h1 n1 l} e=>?_,fun {h nx x h1 n1 l} e b i hn=>?_,fun {h nx x h1 n1 l} e g ha=>?_⟩
  ·cases e;exact a1G _
  ·cases e;rfl
  ·cases e;exact⟨g,rfl,fun b i w=>(aEm w).elim,fun b i _=>rfl⟩
section
variable (all:List Oper) (P:Program) (ex:Ex)
def St1 (o:Oper) (n0 n1:Nat) (L:List Fp) (h:Tr Blk) (e:Tr V) (h':Tr Blk) (e':Tr V):Prop:=
 ∃ b v,gd all o.guard e=some b/\pOp b (run (opH o.op P ex e retV noPan noDfr)) h n0=some ((v,L),h',n1,L)/\e'=ins o.dst v e
structure Indep (o o':Oper) (L L':List Fp):Prop where
 sep:Sep L L'
 r1:∀ t,rdS all o t->o'.dst≠some t
 r2:∀ t,rdS all o' t->o.dst≠some t
 w:∀ t,o.dst=some t->o'.dst≠some t
def Eqv (h:Tr Blk) (e:Tr V) (g:Tr Blk) (f:Tr V):Prop:=(∀ b i,cv g b i=cv h b i)/\∀ t,at_ f t=at_ e t
end
section
variable {all:List Oper} {P:Program} {ex:Ex} {o o':Oper} {L L':List Fp} {n0 n1 m0 m1:Nat} {h h1 h2 g:Tr Blk} {e e1 e2 f:Tr V}
theorem Eqv.refl:Eqv h e h e:=⟨fun _ _=>rfl,fun _=>rfl⟩
theorem Eqv.trans (p:Eqv h e h1 e1) (q:Eqv h1 e1 h2 e2):Eqv h e h2 e2:=⟨fun b i=>(q.1 b i).trans (p.1 b i),fun t=>(q.2 t).trans (p.2 t)⟩
theorem aKb (s1:St1 all P ex o n0 n1 L h e h1 e1) (s2:St1 all P ex o' m0 m1 L' h1 e1 h2 e2) (I:Indep all o o' L L'):
 ∃ g1 f1 g2 f2,St1 all P ex o' m0 m1 L' h e g1 f1/\St1 all P ex o n0 n1 L g1 f1 g2 f2/\Eqv h2 e2 g2 f2:=by
 obtain⟨b,v,k1,k2,rfl⟩:=s1
 obtain⟨b',v',k3,k4,rfl⟩:=s2
 have c1:∀ t,rdS all o' t->at_ (ins o.dst v e) t=at_ e t:=fun t ht=>by rw [pK,a2c (I.r2 t ht)]
 have c2:∀ t,rdS all o t->at_ e t=at_ (ins o'.dst v' e) t:=fun t ht=>by rw [pK,a2c (I.r1 t ht)]
 rw [aCM c1]at k3
 rw [aD1 (P:=P) (ex:=ex) c1]at k4
 obtain⟨g1,g2,j1,j2,j3⟩:=commute (aAw (gL _)) (aAw (gL _)) k2 k4 I.sep
 rw [aCM c2]at k1
 rw [aD1 (P:=P) (ex:=ex) c2]at j2
 refine⟨g1,_,g2,_,⟨b',v',k3,j1,rfl⟩,⟨b,v,k1,j2,rfl⟩,j3,fun t=>?_⟩
 rw [pK,pK,pK,pK]
 by_cases h1:o.dst=some t
 ·rw [a2d h1,a2c (I.w t h1),a2d h1]
 ·rw [a2c h1,a2c h1]
theorem st_eqv (s:St1 all P ex o n0 n1 L h e h1 e1) (q:Eqv h e g f):∃ g1 f1,St1 all P ex o n0 n1 L g f g1 f1/\Eqv h1 e1 g1 f1:=by
 obtain⟨b,v,k1,k2,rfl⟩:=s
 have c1:∀ t,rdS all o t->at_ e t=at_ f t:=fun t _=>(q.2 t).symm
 rw [aCM c1]at k1
 rw [aD1 (P:=P) (ex:=ex) c1]at k2
 obtain⟨g1,j1,j2⟩:=same_run (aAw (gL _)) k2 q.1
 exact⟨g1,_,⟨b,v,k1,j1,rfl⟩,j2,fun t=>by rw [pK,pK,q.2 t]⟩
end
end
open RowKit (Below)
noncomputable section
section
variable (P:Program) (ex:Ex) (ops:Array Oper) (N0:Nat->Nat) (L:Nat->List Fp) (hN:Tr Blk) (eN:Tr V)
def Ok:Nat->Array Bool->Tr Blk->Tr V->Prop
 | 0,listed,h,e=>Region.ready .any ops listed=[]/\Eqv hN eN h e
 | f+1,listed,h,e=>(Region.ready .any ops listed=[]->Eqv hN eN h e)/\∀ i∈Region.ready .any ops listed,∀ o,ops[i]? =some o ->
  ∃ h' e',St1 ops.toList P ex o (N0 i) (N0 (i+1)) (L i) h e h' e'/\Ok f (listed.setIfInBounds i true) h' e'
end
section
variable {P:Program} {ex:Ex} {ops:Array Oper} {N0:Nat->Nat} {L:Nat->List Fp} {hN:Tr Blk} {eN:Tr V} {anc:Nat->Nat->Prop}
theorem Ok.eqv:∀ (f:Nat) (listed:Array Bool) {h g:Tr Blk} {e e':Tr V},Ok P ex ops N0 L hN eN f listed h e->Eqv h e g e'->Ok P ex ops N0 L hN eN f listed g e'
 | 0,_,_,_,_,_,k,q=>⟨k.1,k.2.trans q⟩
 | f+1,listed,_,_,_,_,k,q=>⟨fun hr=>(k.1 hr).trans q,fun i hi o ho=>by
  obtain⟨h',e',s,k2⟩:=k.2 i hi o ho;obtain⟨g1,f1,s2,q2⟩:=st_eqv s q;exact⟨g1,f1,s2,Ok.eqv f _ k2 q2⟩⟩
theorem aGH {l:Array Bool} {i:Nat} (h:l.getD i true=false) (k:l.getD i false=true):False:=by
 rcases a1J i l.size with h' | h'
 ·simp [h']at h k;rw [h]at k;cases k
 ·simp [Array.getElem?_eq_none h']at k
def mE (anc:Nat->Nat->Prop) (listed:Array Bool):Prop:=∀ m,listed.getD m false=true->∀ q,anc m q->listed.getD q false=true
def xY (ops:Array Oper) (anc:Nat->Nat->Prop):Prop:=∀ (j:Nat) (oj:Oper),ops[j]? =some oj->∀ q,anc j q->∃ e∈oj.after,Region.binds .any e=true/\(q=e.on\/anc e.on q)
theorem aCD (ha:xY ops anc) {listed:Array Bool} (hc:mE anc listed) {j:Nat} (hj:j∈Region.ready .any ops listed) {q:Nat} (hq:anc j q):listed.getD q false=true:=by
 obtain⟨_,oj,hoj,hall⟩:=mem_ready.1 hj
 obtain⟨e,he,hb,rfl | h2⟩:=ha j oj hoj q hq
 ·exact hall e he hb
 ·exact hc _ (hall e he hb) q h2
theorem mE.set (ha:xY ops anc) {listed:Array Bool} (hc:mE anc listed) {j:Nat} (hj:j∈Region.ready .any ops listed):mE anc (listed.setIfInBounds j true):=fun m hm q hq=>by
 refine getD_set_true ?_
 by_cases hjm:j=m
 ·subst hjm;exact aCD ha hc hj hq
 ·rw [getD_set_ne false hjm]at hm;exact hc m hm q hq
theorem aFj (ha:xY ops anc) (hind:∀ (i j:Nat) (oi oj:Oper),ops[i]? =some oi->ops[j]? =some oj->i≠j->¬ anc j i->¬ anc i j->Indep ops.toList oi oj (L i) (L j)) {i:Nat} {oi:Oper} (hi:ops[i]? =some oi):
 ∀ (f:Nat) (listed:Array Bool) (h:Tr Blk) (e:Tr V) (h1:Tr Blk) (e1:Tr V),mE anc listed->i∈Region.ready .any ops listed->St1 ops.toList P ex oi (N0 i) (N0 (i+1)) (L i) h e h1 e1 ->
  Ok P ex ops N0 L hN eN f (listed.setIfInBounds i true) h1 e1->Ok P ex ops N0 L hN eN (f+1) listed h e
 | 0,listed,h,e,h1,e1,hc,hr,s,H=>⟨(fun h0=>by rw [h0]at hr;cases hr),fun j hj oj hoj=>by
  by_cases hji:j=i
  ·subst hji;rw [hi]at hoj;cases hoj;exact⟨h1,e1,s,H⟩
  ·have:=ready_mono hj hji;rw [H.1]at this;cases this⟩
 | f+1,listed,h,e,h1,e1,hc,hr,s,H=>⟨(fun h0=>by rw [h0]at hr;cases hr),fun j hj oj hoj=>by
  by_cases hji:j=i
  ·subst hji;rw [hi]at hoj;cases hoj;exact⟨h1,e1,s,H⟩
  ·obtain⟨h2,e2,s2,k2⟩:=H.2 j (ready_mono hj hji) oj hoj;have nji:¬ anc j i:=fun hq=>aGH (mem_ready.1 hr).1 (aCD ha hc hj hq)
   have nij:¬ anc i j:=fun hq=>aGH (mem_ready.1 hj).1 (aCD ha hc hr hq)
   obtain⟨g1,f1,g2,f2,t1,t2,t3⟩:=aKb s s2 (hind i j oi oj hi hoj (Ne.symm hji) nji nij);refine⟨g1,f1,t1,aFj ha hind hi f (listed.setIfInBounds j true) g1 f1 g2 f2 (hc.set ha hj) (ready_mono hr (Ne.symm hji)) t2 ?_⟩;rw [Array.setIfInBounds_comm _ _ hji];exact Ok.eqv f _ k2 t3⟩
def upTo (n:Nat):Nat->Array Bool
 | 0=>Array.replicate n false
 | k+1=>(upTo n k).setIfInBounds k true
theorem wD {n:Nat} (d:Bool):∀ (k:Nat),k<=n->∀ j,(upTo n k).getD j d=if j<k then true else if j<n then false else d
 | 0,_,j=>by
  show(Array.replicate n false).getD j d=_
  by_cases h:j<n <;> simp [a0b,h]
 | k+1,hk,j=>by
  show((upTo n k).setIfInBounds k true).getD j d=_
  by_cases h:k=j
  ·subst h;have hs:∀ m,(upTo n m).size=n:=fun m=>by induction m with
    | zero=>simp [upTo]
    | succ m ih=>simp [upTo,ih]
   have:=hs k;simp [a0b,this,show k<n from hk]
  ·rw [getD_set_ne d h,wD d k (by omega) j];by_cases h1:j<k
   ·rw [a2d h1,a2d (by omega)]
   ·simp only [a2c h1,a2c (show ¬ j<k+1 by omega)]
theorem ok_all (ha:xY ops anc) (hlt:∀ i q,anc i q->q<i) (hed:∀ (i:Nat) (o:Oper),ops[i]? =some o->∀ e∈o.after,Region.binds .any e=true->e.on<i)
 (hind:∀ (i j:Nat) (oi oj:Oper),ops[i]? =some oi->ops[j]? =some oj->i≠j->¬ anc j i->¬ anc i j->Indep ops.toList oi oj (L i) (L j)) (hs:Nat->Tr Blk) (es:Nat->Tr V)
 (hst:∀ (i:Nat) (o:Oper),ops[i]? =some o->St1 ops.toList P ex o (N0 i) (N0 (i+1)) (L i) (hs i) (es i) (hs (i+1)) (es (i+1))):
 ∀ (m k:Nat),k+m=ops.size->Ok P ex ops N0 L (hs ops.size) (es ops.size) m (upTo ops.size k) (hs k) (es k)
 | 0,k,hk=>by
  have:k=ops.size:=by omega
  subst this;refine⟨List.eq_nil_iff_forall_not_mem.2 fun j hj=>?_,Eqv.refl⟩
  obtain⟨h0,o,ho,_⟩:=mem_ready.1 hj;have hj:j<ops.size:=(a0d.1 ho).1;rw [wD true _ (a1G _),a2d hj]at h0;cases h0
 | m+1,k,hk=>by
  have hkl:k<ops.size:=by omega
  have ho:ops[k]? =some ops[k]:=Array.getElem?_eq_getElem hkl;refine aFj ha hind ho m _ _ _ _ _ (fun q hq p hp=>?_) (mem_ready.2 ⟨?_,_,ho,fun e he hb=>?_⟩) (hst k _ ho) (ok_all ha hlt hed hind hs es hst m (k+1) (by omega))
  ·rw [wD false _ (by omega)]at hq ⊢;have:=hlt q p hp;by_cases h1:q<k
   ·rw [a2d (by omega)]
   ·rw [a2c h1]at hq;split at hq <;> cases hq
  ·rw [wD true _ (by omega),a2c (by omega),a2d hkl]
  ·rw [wD false _ (by omega),a2d (hed k _ ho e he hb)]
end
end
open RowKit (Below)
noncomputable section
section
variable {P:Program} {ex:Ex} {ops:Array Oper} {N0:Nat->Nat} {L:Nat->List Fp} {hN:Tr Blk} {eN:Tr V} {g:G} {ρ0:Rho} {n:Nat} {ds:List Df} {ro rr:Option Nat} {k:KX} {lgN:List Fp} {r:O × S}
theorem cut_inv {p:St} {h h1:Tr Blk} {nx n1:Nat} {v:V} {l l':List Fp} (e:kT p h nx=some ((v,l),h1,n1,l')):∃ lg,p h nx []=some (.val v,⟨h1,n1,lg⟩):=by
 unfold kT at e
 split at e
 ·rename_i v s hs;cases e;exact⟨_,hs⟩
 ·cases e
theorem bT.ins {ρ:Rho} {e:Tr V} {a:Act} {o:Oper} (he:bT ρ e n a.tmps) (hd:∀ d,o.dst=some d->d<n) {v:V} {x:Value} (hv:tv ρ v=some x):bT ρ (BX.ins o.dst v e) n (a.put o.dst x).tmps:=by
 cases hq:o.dst with
 | none=>exact he
 | some t=>exact he.put (hd t hq) hv
structure DInv (ops:Array Oper) (N0:Nat->Nat) (g:G) (ρ0:Rho) (n:Nat) (ds:List Df) (listed:Array Bool) (ρ:Rho) (h:Tr Blk) (e:Tr V) (a:Act) (w:World):Prop where
 env:bT ρ e n a.tmps
 AY:kQ ρ ds a.defers
 core:Rel ⟨g.w,0,0,ρ⟩ ρ h 0 w
 none:∀ j,j<ops.size->listed.getD j true=false->∀ b,N0 j<=b->b<N0 (j+1)->ρ b=Option.none
 rest:∀ b,N0 ops.size<=b->b<g.hi->ρ b=Option.none
 le:g.ρ.le ρ
 le0:ρ0.le ρ
 out:∀ b,b<g.lo\/g.hi<=b->ρ b=g.ρ b
theorem ok_wp (SA:SimA P ex) (SY:SimY P ex) (hmono:∀ i j,i<=j->N0 i<=N0 j) (hlo:g.lo<=N0 0) (hhi:N0 ops.size<=g.hi) (hdst:∀ (i:Nat) (o:Oper),ops[i]? =some o->∀ d,o.dst=some d->d<n)
 (hend:run (k .normal ⟨eN,n,ds,ro⟩) hN (N0 ops.size) lgN=some r):∀ (f:Nat) (listed:Array Bool) (ρ:Rho) (h:Tr Blk) (e:Tr V) (a:Act) (w:World),DInv ops N0 g ρ0 n ds listed ρ h e a w->Ok P ex ops N0 L hN eN f listed h e ->
  wpAnyIn (SX.fw rr) 0 P .any ops (KQ g ρ0 ro k r) f listed a w:=by
 have done:∀ {listed:Array Bool} {ρ:Rho} {h:Tr Blk} {e:Tr V} {a:Act} {w:World},DInv ops N0 g ρ0 n ds listed ρ h e a w->Eqv hN eN h e->KQ g ρ0 ro k r .normal a w:=by
  intro listed ρ h e a w D q;have hat:∀ b,at_ hN b=at_ h b:=fun b=>cvB_ext fun i=>(q.1 b i).symm
  refine⟨.normal,⟨eN,n,ds,ro⟩,ρ,hN,N0 ops.size,lgN,D.le0,trivial,⟨⟨D.env.size,fun t v ht=>D.env.get t v (by rw [q.2 t];exact ht)⟩,D.AY⟩,rfl,?_,hend⟩
  have R:=D.core.ext hat;exact⟨R.blk,R.inj,R.new,R.below,a1H hlo (hmono _ _ (a1P _)),D.rest,D.le,D.out⟩
 have step:∀ {f:Nat} (ih:∀ (listed:Array Bool) (ρ:Rho) (h:Tr Blk) (e:Tr V) (a:Act) (w:World),DInv ops N0 g ρ0 n ds listed ρ h e a w->Ok P ex ops N0 L hN eN f listed h e->wpAnyIn (SX.fw rr) 0 P .any ops (KQ g ρ0 ro k r) f listed a w)
  {listed:Array Bool} {ρ:Rho} {h:Tr Blk} {e:Tr V} {a:Act} {w:World} {i:Nat} {o:Oper} {h':Tr Blk} {e':Tr V},DInv ops N0 g ρ0 n ds listed ρ h e a w->i∈Region.ready .any ops listed->ops[i]? =some o ->
  St1 ops.toList P ex o (N0 i) (N0 (i+1)) (L i) h e h' e'->Ok P ex ops N0 L hN eN f (listed.setIfInBounds i true) h' e'->wpOpIn (SX.fw rr) 0 P ops (KQ g ρ0 ro k r) i (wpAnyIn (SX.fw rr) 0 P .any ops (KQ g ρ0 ro k r) f (listed.setIfInBounds i true)) a w:=by
  intro f ih listed ρ h e a w i o h' e' D hr ho s K;have hil:i<ops.size:=(a0d.1 ho).1;obtain⟨b,v,k1,k2,rfl⟩:=s;have hw:=aKr D.env k1;have hun:∀ j,(listed.setIfInBounds i true).getD j true=false->listed.getD j true=false/\j≠i:=fun j hj=>by
   by_cases hji:i=j
   ·subst hji
    exfalso
    rcases a1J i listed.size with h' | h'
    ·simp [h']at hj
    ·simp [Array.getElem?_eq_none h']at hj
   ·rw [getD_set_ne true hji]at hj;exact⟨hj,Ne.symm hji⟩
  unfold wpOpIn;rw [ho];simp only
  cases b with
  | true=>
   rw [a2d hw];obtain⟨lg,q⟩:=cut_inv k2;have R:Rel ⟨g.w,N0 i,N0 (i+1),ρ⟩ ρ h (N0 i) w:=⟨D.core.blk,D.core.inj,D.core.new,D.core.below,a1G _,D.none i hil (mem_ready.1 hr).1,Rho.le_refl ρ,fun _ _=>rfl⟩
   refine op_sim SA SY D.env R (a1G _) q (fun v' x ρ' h2 n2 l2 w' m1 m2 m3 m4=>?_) (fun ch ch' ρ' h2 n2 l2 w' m1 m2 m3 m4=>by cases m4) (fun d d' l2 m1 m2=>by cases m2)
   have m4':some ((.val v':O),(⟨h2,n2,l2⟩:S))=some (.val v,⟨h',N0 (i+1),lg⟩):=m4;cases m4';refine ih _ ρ' _ _ _ _ ⟨(D.env.mono m1).ins (hdst i o ho) m3,?_,⟨m2.blk,m2.inj,m2.new,m2.below,a1G _,fun b _ hb=>absurd hb (a1N b),Rho.le_refl _,fun _ _=>rfl⟩,fun j hj hjl b hb1 hb2=>?_,fun b hb1 hb2=>?_,Rho.le_trans D.le m1,Rho.le_trans D.le0 m1,fun b hb=>?_⟩ K
   ·have:=D.AY.mono m1;cases o.dst <;> exact this
   ·obtain⟨h3,h4⟩:=hun j hjl;rw [m2.out b ?_]
    ·exact D.none j hj h3 b hb1 hb2
    ·show b<N0 i\/N0 (i+1)<=b
     rcases Nat.lt_or_gt_of_ne h4 with h5 | h5
     ·exact .inl (a1I hb2 (hmono _ _ h5))
     ·exact .inr (a1H (hmono _ _ h5) hb1)
   ·rw [m2.out b (.inr (a1H (hmono _ _ hil) hb1))];exact D.rest b hb1 hb2
   ·rw [m2.out b ?_]
    ·exact D.out b hb
    ·show b<N0 i\/N0 (i+1)<=b
     rcases hb with hb | hb
     ·exact .inl (a1I hb (a1H hlo (hmono _ _ (a1P _))))
     ·exact .inr (a1H (hmono _ _ hil) (a1H hhi hb))
  | false=>
   rw [a2c (by rw [hw];simp)];have k3:some (((eI,[]),h,N0 i,[]):(V × List Fp) × Tr Blk × Nat × List Fp)=some ((v,L i),h',N0 (i+1),L i):=k2;simp only [a1U,Prod.mk.injEq]at k3;obtain⟨⟨rfl,_⟩,rfl,_,_⟩:=k3;refine⟨fun _ _=>a2e,ih _ ρ _ _ _ _ ⟨D.env.ins (hdst i o ho) rfl,?_,D.core,fun j hj hjl=>D.none j hj (hun j hjl).1,D.rest,D.le,D.le0,D.out⟩ K⟩
   have:=D.AY;cases o.dst <;> exact this
 intro f
 induction f with
 | zero=>intro listed ρ h e a w D K;exact⟨K.1,done D K.2⟩
 | succ f ih=>
  intro listed ρ h e a w D K;refine⟨fun hr=>done D (K.1 hr),fun i hi=>?_⟩
  obtain⟨_,o,ho,_⟩:=mem_ready.1 hi;obtain⟨h',e',s,K2⟩:=K.2 i hi o ho;exact step ih D hi ho s K2
end
end
open RowKit (Below)
noncomputable section
section
variable {all:List Oper} {P:Program} {ex:Ex} {n:Nat} {ds:List Df} {ro:Option Nat} {k:KX} {r:O × S}
theorem aHv {d:Option Nat} {v:V} {e:Tr V} {k:Tr V->AL} {h:Tr Blk} {nx:Nat} {lg:List Fp} (q:run (insE d v e n k) h nx lg=some r):(∀ t,d=some t->t<n)/\run (k (ins d v e)) h nx lg=some r:=by
 cases d with
 | none=>exact⟨(fun t ht=>by cases ht),q⟩
 | some t=>
  have q':run (Bool.rec .fail (pp e (some v) (pa t) k) (Nat.blt t n):AL) h nx lg=some r:=q;cases hb:Nat.blt t n with
  | false=>rw [hb]at q';cases q'
  | true=>
   rw [hb]at q';have q2:run (pp e (some v) (pa t) k) h nx lg=some r:=q';rw [mX]at q2;rw [a1C]at hb;exact⟨(fun s hs=>by cases hs;exact hb),q2⟩
theorem aER {l:List Fp}:Sep [] l:=fun b i=>⟨(fun ⟨_,h,_⟩=>by cases h),(fun ⟨_,h,_⟩=>by cases h)⟩
theorem aH3 {l:List Fp}:Sep l []:=aER.symm
theorem pSub_log {p:St} {h h1:Tr Blk} {nx n1:Nat} {x:V × List Fp} {l:List Fp} (e:kT p h nx=some (x,h1,n1,l)):x.2=l:=by
 unfold kT at e
 split at e
 ·cases e;rfl
 ·cases e
def DRun (all:List Oper) (P:Program) (ex:Ex) (n:Nat) (ds:List Df) (ro:Option Nat) (k:KX) (r:O × S) (l:List Oper) (is:List Inf) (i:Nat) (lg:List (Nat × List Fp)) (e:Tr V) (h:Tr Blk) (nx:Nat):Prop:=
 ∃ (N0:Nat->Nat) (L:Nat->List Fp) (hs:Nat->Tr Blk) (es:Nat->Tr V) (lgN:List Fp),N0 i=nx/\hs i=h/\es i=e/\(∀ j,j<l.length->N0 (i+j)<=N0 (i+j+1)) /\
  (∀ (j:Nat) (o:Oper),l[j]? =some o->(∀ d,o.dst=some d->d<n)/\St1 all P ex o (N0 (i+j)) (N0 (i+j+1)) (L (i+j)) (hs (i+j)) (es (i+j)) (hs (i+j+1)) (es (i+j+1))) /\
  (∀ (j:Nat) (x:Inf),is[j]? =some x->j<l.length->(∀ p∈lg,has x.anc p.1=true\/Sep (L (i+j)) p.2)/\∀ j',j'<j->has x.anc (i+j')=true\/Sep (L (i+j)) (L (i+j'))) /\
  run (k .normal ⟨es (i+l.length),n,ds,ro⟩) (hs (i+l.length)) (N0 (i+l.length)) lgN=some r
theorem aE1:∀ (l:List Oper) (is:List Inf) (i:Nat) (lg:List (Nat × List Fp)) (e:Tr V) (h:Tr Blk) (nx:Nat) (lgr:List Fp),run (opsD all P ex l is i lg ⟨e,n,ds,ro⟩ k) h nx lgr=some r ->
 DRun all P ex n ds ro k r l is i lg e h nx
 | [],is,i,lg,e,h,nx,lgr,q=>⟨fun _=>nx,fun _=>[],fun _=>h,fun _=>e,lgr,rfl,rfl,rfl,(fun _ _=>a1G _),(fun j o ho=>by cases ho),(fun j x _ hj=>absurd hj (a1N j)),q⟩
 | o :: l,[],i,lg,e,h,nx,lgr,q=>by cases q
 | o :: l,x :: is,i,lg,e,h,nx,lgr,q=>by
  have q0:run (opG o.guard all e (.sub (opH o.op P ex e retV noPan noDfr) fun v m=>cU (apart x.anc m lg) (insE o.dst v e n fun e=>opsD all P ex l is (i+1) ((i,m) :: lg) ⟨e,n,ds,ro⟩ k)) (insE o.dst eI e n fun e=>opsD all P ex l is (i+1) lg ⟨e,n,ds,ro⟩ k)) h nx lgr=some r:=q
  have key:∀ (b:Bool) (v:V) (m:List Fp) (h1:Tr Blk) (n1:Nat) (lg1:List (Nat × List Fp)) (lgr1:List Fp),gd all o.guard e=some b->pOp b (run (opH o.op P ex e retV noPan noDfr)) h nx=some ((v,m),h1,n1,m)->(∀ t,o.dst=some t->t<n) ->
   (∀ p∈lg,has x.anc p.1=true\/Sep m p.2)->(∀ p∈lg,p∈lg1)->((i,m)∈lg1\/m=[])->run (opsD all P ex l is (i+1) lg1 ⟨ins o.dst v e,n,ds,ro⟩ k) h1 n1 lgr1=some r->DRun all P ex n ds ro k r (o :: l) (x :: is) i lg e h nx:=by
   intro b v m h1 n1 lg1 lgr1 hg hp hd hap hsub hmem q1;obtain⟨N',L',hs',es',lgN,a1,a2,a3,a4,a5,a6,a7⟩:=aE1 l is (i+1) lg1 _ h1 n1 lgr1 q1;have ne:∀ j,i+(j+1)≠i:=fun j=>by omega
   have e1:∀ j,i+(j+1)=i+1+j:=fun j=>by omega
   have e2:∀ j,i+(j+1)+1=i+1+j+1:=fun j=>by omega
   refine⟨fun j=>if j=i then nx else N' j,fun j=>if j=i then m else L' j,fun j=>if j=i then h else hs' j,fun j=>if j=i then e else es' j,lgN,by simp,by simp,by simp,fun j hj=>?_,fun j o' ho'=>?_,fun j y hy hj=>?_,?_⟩
   ·cases j with
    | zero=>
     simp only [a1B,a2d,a2c (show i+1≠i by omega),a1];exact(aAw (gL _)).mono hp
    | succ j=>
     simp only [a2c (ne j),a2c (show i+(j+1)+1≠i by omega)];have:=a4 j (by simp at hj;omega)
     rw [e2,e1];exact this
   ·cases j with
    | zero=>
     simp only [a0G,a1U]at ho';subst ho';refine⟨hd,?_⟩;simp only [a1B,a2d,a2c (show i+1≠i by omega),a1,a2,a3];exact⟨b,v,hg,hp,rfl⟩
    | succ j=>
     simp only [a0F]at ho';obtain⟨c1,c2⟩:=a5 j o' ho';refine⟨c1,?_⟩;simp only [a2c (ne j),a2c (show i+(j+1)+1≠i by omega)];rw [e2,e1];exact c2
   ·cases j with
    | zero=>
     simp only [a0G,a1U]at hy;subst hy;simp only [a1B,a2d];exact⟨hap,fun j' hj'=>absurd hj' (a1N j')⟩
    | succ j=>
     simp only [a0F]at hy;obtain⟨c1,c2⟩:=a6 j y hy (by simp at hj;omega)
     simp only [a2c (ne j)];rw [e1];refine⟨fun p hp=>c1 p (hsub p hp),fun j' hj'=>?_⟩
     cases j' with
     | zero=>
      simp only [a1B,a2d];rcases hmem with hm | hm
      ·exact c1 _ hm
      ·rw [hm];exact .inr aH3
     | succ j'=>
      simp only [a2c (ne j')];rw [e1];exact c2 j' (by omega)
   ·simp only [a0S,a2c (ne l.length)];rw [e1];exact a7
  rcases opG_gd q0 with⟨hg,q1⟩ | ⟨hg,q1⟩
  ·rw [aEW]at q1;obtain⟨⟨v,m⟩,h1,n1,m',p1,q2⟩:=dJ q1;have hm:m=m':=pSub_log p1;subst hm;obtain⟨hap,q3⟩:=dG q2;obtain⟨hd,q4⟩:=aHv (k:=fun e=>opsD all P ex l is (i+1) ((i,m) :: lg) ⟨e,n,ds,ro⟩ k) q3
   exact key true v m h1 n1 ((i,m) :: lg) _ hg p1 hd (aDs hap) (fun p hp=> .tail _ hp) (.inl (.head _)) q4
  ·obtain⟨hd,q4⟩:=aHv (k:=fun e=>opsD all P ex l is (i+1) lg ⟨e,n,ds,ro⟩ k) q1
   exact key false eI [] h nx lg _ hg rfl hd (fun p _=> .inr aER) (fun p hp=>hp) (.inr rfl) q4
end
end
open RowKit (Below)
noncomputable section
theorem pR {m i:Nat}:has m i=m.testBit i:=by
 show Nat.beq ((m >>> i) &&& 1) 1=_
 rw [Nat.and_one_is_mod,Nat.shiftRight_eq_div_pow,Nat.testBit_eq_decide_div_mod_eq]
 cases h:Nat.beq (m / 2 ^ i % 2) 1 with
 | true=>exact(a2a (a1D h)).symm
 | false=>exact(a1Z (Nat.ne_of_beq_eq_false h)).symm
theorem aC3 {n t:Nat}:has (bit n) t=true ↔ n=t:=by
 rw [pR]
 show(1 <<< n).testBit t=true ↔ _
 rw [Nat.one_shiftLeft,Nat.testBit_two_pow];simp
theorem sS {a b t:Nat}:has (Nat.lor a b) t=true ↔ has a t=true\/has b t=true:=by
 rw [pR,pR,pR]
 show(a ||| b).testBit t=true ↔ _
 rw [Nat.testBit_or];simp
theorem has_zero {t:Nat}:has 0 t=false:=by rw [pR];simp
theorem aD4 {a b t:Nat} (h:dis a b=true) (ha:has a t=true) (hb:has b t=true):False:=by
 have h0:a &&& b=0:=a1D h
 rw [pR]at ha hb
 have:(a &&& b).testBit t=true:=by rw [Nat.testBit_and,ha,hb];rfl
 rw [h0]at this;simp at this
theorem aEt:∀ {l:List Operand} {t:Nat},Operand.tmp t∈l->has (mW l) t=true
 | [],_,h=>by cases h
 | x :: l,t,h=>by
  show has (Nat.lor (opTmp x) (mW l)) t=true
  rw [sS];rcases a1f.1 h with rfl | h
  ·exact .inl (aC3.2 rfl)
  ·exact .inr (aEt h)
theorem xS {d:Option Nat} {t:Nat} (h:d=some t):has (pE d) t=true:=by subst h;exact aC3.2 rfl
theorem has_rd {all:List Oper} {o:Oper} {t:Nat} (h:rdS all o t):has (Nat.lor (mW o.op.operands.toList) (gBit all o.guard)) t=true:=by
 rw [sS]
 rcases h with h | ⟨j,w,h1,h2⟩
 ·exact .inl (aEt h)
 ·right
  rw [h1];show has (pE (jX all j)) t=true
  exact xS h2
theorem aCt {ds:List Nat} {n:Nat}:∀ {l:List Edge} {m:Nat},qI ds n l=some m->(∀ e∈l,Region.binds .any e=true->e.on<n)/\∀ q,has m q=true->∃ e∈l,Region.binds .any e=true/\(q=e.on\/∃ x,ds[n - 1 - e.on]? =some x/\has x q=true)
 | [],m,h=>by
  cases h;exact⟨(fun e he=>by cases he),fun q hq=>by rw [has_zero]at hq;cases hq⟩
 | e :: l,m,h=>by
  have h':(Option.rec none (fun m=>Bool.rec (some m) (Bool.rec none (Option.rec none (fun x=>eK (Nat.lor (Nat.lor (bit e.on) x) m) none some) (nth ds (Nat.sub (Nat.sub n 1) e.on))) (Nat.blt e.on n)) (Region.binds .any e)) (qI ds n l):Option Nat)=some m:=h
  cases h0:qI ds n l with
  | none=>rw [h0]at h';cases h'
  | some m0=>
   rw [h0]at h';obtain⟨i1,i2⟩:=aCt h0;cases hb:Region.binds .any e with
   | false=>
    rw [hb]at h';cases h';refine⟨fun e' he' hb'=>?_,fun q hq=>?_⟩
    ·rcases a1f.1 he' with rfl | he'
     ·rw [hb]at hb';cases hb'
     ·exact i1 e' he' hb'
    ·obtain⟨e',a,b,c⟩:=i2 q hq;exact⟨e', .tail _ a,b,c⟩
   | true=>
    rw [hb]at h';cases hl:Nat.blt e.on n with
    | false=>rw [hl]at h';cases h'
    | true=>
     rw [hl]at h';cases hn:nth ds (Nat.sub (Nat.sub n 1) e.on)with
     | none=>rw [hn]at h';cases h'
     | some x=>
      rw [hn]at h';have h2:eK (Nat.lor (Nat.lor (bit e.on) x) m0) none some=some m:=h';rw [wM]at h2;have hm:m=Nat.lor (Nat.lor (bit e.on) x) m0:=(a1T h2).symm;rw [a1C]at hl;refine⟨fun e' he' hb'=>?_,fun q hq=>?_⟩
      ·rcases a1f.1 he' with rfl | he'
       ·exact hl
       ·exact i1 e' he' hb'
      ·rw [hm,sS,sS,aC3]at hq;rcases hq with(hq | hq) | hq
       ·exact⟨e, .head _,hb, .inl hq.symm⟩
       ·rw [lV]at hn;exact⟨e, .head _,hb, .inr ⟨x,hn,hq⟩⟩
       ·obtain⟨e',a,b,c⟩:=i2 q hq;exact⟨e', .tail _ a,b,c⟩
end
open RowKit (Below)
noncomputable section
theorem aEy {all:List Oper}:∀ (l:List Oper) (ds:List Nat) (nn:Nat) (k:List Inf->Option (List Inf)) {res:List Inf},infs all l ds nn k=some res->∃ xs,k xs=some res/\xs.length=l.length/\∀ (j:Nat) (o:Oper),l[j]? =some o ->
 ∃ x,xs[j]? =some x/\x.tr=Nat.lor (mW o.op.operands.toList) (gBit all o.guard)/\x.tw=pE o.dst/\∃ dsj,qI dsj (nn+j) o.after.toList=some x.anc/\(∀ i y,i<j->xs[i]? =some y->dsj[j - 1 - i]? =some y.anc)/\∀ i:Nat,dsj[j+i]? =ds[i]?
 | [],ds,nn,k,res,h=>⟨[],h,rfl,fun j o ho=>by cases ho⟩
 | o :: l,ds,nn,k,res,h=>by
  have h':(Option.rec none (fun x=>Bool.rec none (eK (Nat.lor (mW o.op.operands.toList) (gBit all o.guard)) none fun tr=>eK (pE o.dst) none fun tw=>infs all l (x :: ds) (Nat.succ nn) fun l=>k (⟨x,tr,tw⟩ :: l)) (plain? o.op)) (qI ds nn o.after.toList):Option (List Inf))=some res:=h
  cases ha:qI ds nn o.after.toList with
  | none=>rw [ha]at h';cases h'
  | some x=>
   rw [ha]at h';cases hp:plain? o.op with
   | false=>rw [hp]at h';cases h'
   | true=>
    rw [hp]at h';have h2:(eK (Nat.lor (mW o.op.operands.toList) (gBit all o.guard)) none fun tr=>eK (pE o.dst) none fun tw=>infs all l (x :: ds) (Nat.succ nn) fun l=>k (⟨x,tr,tw⟩ :: l))=some res:=h'
    rw [wM,wM]at h2;obtain⟨xs,k1,k2,k3⟩:=aEy l (x :: ds) (nn+1) _ h2;refine⟨_ :: xs,k1,by simp [k2],fun j o' ho'=>?_⟩
    cases j with
    | zero=>
     simp only [a0G,a1U]at ho';subst ho';exact⟨_,rfl,rfl,rfl,ds,ha,fun i y hi=>absurd hi (a1N i),fun i=>by rw [a1O]⟩
    | succ j=>
     simp only [a0F]at ho';obtain⟨y,c1,c2,c3,dsj,c4,c5,c6⟩:=k3 j o' ho';refine⟨y,c1,c2,c3,dsj,by rw [show nn+(j+1)=nn+1+j by omega];exact c4,fun i z hi hz=>?_,fun i=>?_⟩
     ·cases i with
      | zero=>
       simp only [a0G,a1U]at hz;subst hz;have:=c6 0;simpa using this
      | succ i=>
       simp only [a0F]at hz;have:=c5 i z (by omega) hz
       rw [show j+1 - 1 - (i+1)=j - 1 - i by omega];exact this
     ·have:=c6 (i+1);rw [a0F]at this;rw [show j+1+i=j+(i+1) by omega];exact this
def TA (x y:Inf):Prop:=dis x.tw (Nat.lor y.tr y.tw)=true/\dis y.tw x.tr=true
theorem aCs {x:Inf}:∀ (l:List Inf) (n:Nat),tF x l n=true->∀ (i:Nat) (y:Inf),l[i]? =some y->has x.anc (n - i)=true\/TA x y
 | [],_,_,_,_,h=>by cases h
 | y :: l,n,h,i,z,hz=>by
  have h':(Bool.rec (Bool.rec false (Bool.rec false (tF x l (Nat.sub n 1)) (dis y.tw x.tr)) (dis x.tw (Nat.lor y.tr y.tw))) (tF x l (Nat.sub n 1)) (has x.anc n):Bool)=true:=h;cases h1:has x.anc n with
  | true=>
   rw [h1]at h';cases i with
   | zero=>exact .inl h1
   | succ i=>
    have:=aCs l (n - 1) h' i z hz;rw [show n - (i+1)=n - 1 - i by omega];exact this
  | false=>
   rw [h1]at h';cases h2:dis x.tw (Nat.lor y.tr y.tw)with
   | false=>rw [h2]at h';cases h'
   | true=>
    rw [h2]at h';cases h3:dis y.tw x.tr with
    | false=>rw [h3]at h';cases h'
    | true=>
     rw [h3]at h';cases i with
     | zero=>cases hz;exact .inr ⟨h2,h3⟩
     | succ i=>
      have:=aCs l (n - 1) h' i z hz;rw [show n - (i+1)=n - 1 - i by omega];exact this
theorem aHO:∀ (l:List Inf) (n:Nat) (done:List Inf),zG l n done=true->∀ (j:Nat) (x:Inf),l[j]? =some x ->
 (∀ (i:Nat) (y:Inf),done[i]? =some y->has x.anc (n - 1 - i)=true\/TA x y)/\∀ (i:Nat) (y:Inf),i<j->l[i]? =some y->has x.anc (n+i)=true\/TA x y
 | [],_,_,_,_,_,h=>by cases h
 | x0 :: l,n,done,h,j,x,hx=>by
  have h':(Bool.rec false (zG l (Nat.succ n) (x0 :: done)) (tF x0 done (Nat.sub n 1)):Bool)=true:=h;cases h1:tF x0 done (Nat.sub n 1)with
  | false=>rw [h1]at h';cases h'
  | true=>
   rw [h1]at h';cases j with
   | zero=>cases hx;exact⟨aCs done (n - 1) h1,fun i y hi=>absurd hi (a1N i)⟩
   | succ j=>
    obtain⟨c1,c2⟩:=aHO l (n+1) (x0 :: done) h' j x hx;refine⟨fun i y hy=>?_,fun i y hi hy=>?_⟩
    ·have:=c1 (i+1) y hy;rw [show n - 1 - i=n+1 - 1 - (i+1) by omega];exact this
    ·cases i with
     | zero=>
      have:=c1 0 y hy;simpa using this
     | succ i=>
      have:=c2 i y (by omega) hy
      rw [show n+(i+1)=n+1+i by omega];exact this
end
open RowKit (Below)
noncomputable section
section
variable {P:Program} {ex:Ex}
theorem aBU {l:List Oper} {is:List Inf} (hd:drawn l=some is):zG is 0 []=true/\is.length=l.length/\∀ (j:Nat) (o:Oper),l[j]? =some o ->
 ∃ x,is[j]? =some x/\x.tr=Nat.lor (mW o.op.operands.toList) (gBit l o.guard)/\x.tw=pE o.dst/\∃ dsj,qI dsj j o.after.toList=some x.anc/\∀ i y,i<j->is[i]? =some y->dsj[j - 1 - i]? =some y.anc:=by
 obtain⟨xs,k1,k2,k3⟩:=aEy l [] 0 _ hd
 cases ht:zG xs 0 []with
 | false=>rw [ht]at k1;cases k1
 | true=>
  rw [ht]at k1;have:xs=is:=a1T k1;subst this;refine⟨ht,k2,fun j o ho=>?_⟩
  obtain⟨x,c1,c2,c3,dsj,c4,c5,_⟩:=k3 j o ho;rw [a1O]at c4;exact⟨x,c1,c2,c3,dsj,c4,c5⟩
def ancR (is:List Inf) (i j:Nat):Prop:=∃ x,is[i]? =some x/\has x.anc j=true
theorem aBX {ops:Array Oper} {is:List Inf} (hd:drawn ops.toList=some is):xY ops (ancR is)/\∀ (i:Nat) (o:Oper),ops[i]? =some o->∀ e∈o.after,Region.binds .any e=true->e.on<i:=by
 obtain⟨_,hl,hs⟩:=aBU hd
 refine⟨fun j oj hj q hq=>?_,fun i o ho e he hb=>?_⟩
 ·obtain⟨x,hx,hq⟩:=hq;obtain⟨y,c1,_,_,dsj,c4,c5⟩:=hs j oj (by rw [a0g];exact hj)
  rw [hx]at c1;cases c1
  obtain⟨s1,s2⟩:=aCt c4;obtain⟨e,he,hb,h⟩:=s2 q hq;refine⟨e,by simpa using he,hb,?_⟩
  rcases h with h | ⟨m,hm,hq2⟩
  ·exact .inl h
  ·right
   have hlt:=s1 e he hb;have hj':j<is.length:=(a0K.1 hx).1;have hey:is[e.on]? =some (is[e.on]'(by omega)):=a0I (by omega)
   have:=c5 e.on _ hlt hey;rw [hm]at this;cases this;exact⟨_,hey,hq2⟩
 ·obtain⟨y,_,_,_,dsj,c4,_⟩:=hs i o (by rw [a0g];exact ho)
  exact(aCt c4).1 e (by simpa using he) hb
theorem drawn_lt {ops:Array Oper} {is:List Inf} (hd:drawn ops.toList=some is):∀ (i q:Nat),ancR is i q->q<i:=by
 intro i
 induction i using Nat.strongRecOn with
 | _ i ih=>
  intro q hq;have hil:i<ops.size:=by
   obtain⟨x,hx,_⟩:=hq;have h1:=(a0K.1 hx).1;have h2:=(aBU hd).2.1;simp at h2;omega
  have ho:ops[i]? =some ops[i]:=Array.getElem?_eq_getElem hil;obtain⟨e,he,hb,h⟩:=(aBX hd).1 i _ ho q hq;have hlt:=(aBX hd).2 i _ ho e he hb;rcases h with rfl | h
  ·exact hlt
  ·have:=ih e.on hlt q h;omega
theorem aE4 {ops:Array Oper} {is:List Inf} (hd:drawn ops.toList=some is) {i j:Nat} {oi oj:Oper} (hi:ops[i]? =some oi) (hj:ops[j]? =some oj) (hlt:j<i) (hn:¬ ancR is i j):
 (∀ t,rdS ops.toList oi t->oj.dst≠some t)/\(∀ t,rdS ops.toList oj t->oi.dst≠some t)/\∀ t,oi.dst=some t->oj.dst≠some t:=by
 obtain⟨ht,hl,hs⟩:=aBU hd
 obtain⟨x,x1,x2,x3,_⟩:=hs i oi (by rw [a0g];exact hi)
 obtain⟨y,y1,y2,y3,_⟩:=hs j oj (by rw [a0g];exact hj)
 rcases(aHO is 0 [] ht i x x1).2 j y hlt y1 with h | ⟨h1,h2⟩
 ·rw [a1O]at h;exact(hn ⟨x,x1,h⟩).elim
 ·refine⟨fun t hr hw=>aD4 h2 (by rw [y3];exact xS hw) (by rw [x2];exact has_rd hr),fun t hr hw=>aD4 h1 (by rw [x3];exact xS hw) (sS.2 (.inl (by rw [y2];exact has_rd hr))),fun t hw hw2=>aD4 h1 (by rw [x3];exact xS hw) (sS.2 (.inr (by rw [y3];exact xS hw2)))⟩
end
end
open RowKit (Below)
noncomputable section
section
variable {P:Program} {ex:Ex}
theorem aJN (hm:P.follows .mixedOrders=true) (SC:SimC P ex):SimD P ex:=fun id ops g ρ ac a h nx lg w k r rr hA R hi hr q=>by
 obtain⟨e,n,ds,ro⟩:=ac
 obtain⟨is,hd,q1⟩:=bN (o:=drawn ops.toList) (f:=fun is=>opsD ops.toList P ex ops.toList is 0 [] ⟨e,n,ds,ro⟩ k) q
 obtain⟨N0,L,hs,es,lgN,a1,a2,a3,a4,a5,a6,a7⟩:=aE1 ops.toList is 0 [] e h nx lg q1
 simp only [a1O,a0h]at a4 a5 a6 a7
 have hend:=rQ a7
 let M:Nat->Nat:=fun j=>N0 (min j ops.size)
 have hMe:∀ j,j<=ops.size->M j=N0 j:=fun j hj=>by show N0 (min j ops.size)=_;rw [a1L hj]
 have hM1:∀ i,M i<=M (i+1):=fun i=>by
  by_cases hl:i<ops.size
  ·rw [hMe i (by omega),hMe (i+1) hl];exact a4 i hl
  ·show N0 (min i ops.size)<=N0 (min (i+1) ops.size)
   rw [Nat.min_eq_right (by omega),Nat.min_eq_right (by omega)];exact a1G _
 have hM:∀ i j,i<=j->M i<=M j:=fun i j hij=>by
  induction hij with
  | refl=>exact a1G _
  | step _ ih=>exact a1H ih (hM1 _)
 have hM0:M 0=nx:=(hMe 0 (a1P _)).trans a1
 have hMN:M ops.size=N0 ops.size:=hMe _ (a1G _)
 have hhi:M ops.size<=g.hi:=by rw [hMN];exact a1H hend hi
 have hst:∀ (i:Nat) (o:Oper),ops[i]? =some o->St1 ops.toList P ex o (M i) (M (i+1)) (L i) (hs i) (es i) (hs (i+1)) (es (i+1)):=fun i o ho=>by
  have hl:i<ops.size:=(a0d.1 ho).1;rw [hMe i (by omega),hMe (i+1) hl];exact(a5 i o (by rw [a0g];exact ho)).2
 have pair:∀ i j,j<i->i<ops.size->¬ ancR is i j->Sep (L i) (L j):=fun i j hji hl hn=>by
  have hli:i<is.length:=by have:=(aBU hd).2.1;simp at this;omega
  rcases(a6 i _ (a0I hli) hl).2 j hji with h1 | h1
  ·exact(hn ⟨_,a0I hli,h1⟩).elim
  ·exact h1
 have hind:∀ (i j:Nat) (oi oj:Oper),ops[i]? =some oi->ops[j]? =some oj->i≠j->¬ ancR is j i->¬ ancR is i j->Indep ops.toList oi oj (L i) (L j):=fun i j oi oj h1 h2 hne n1 n2=>by
  have l1:i<ops.size:=(a0d.1 h1).1;have l2:j<ops.size:=(a0d.1 h2).1;rcases Nat.lt_or_gt_of_ne hne with hlt | hlt
  ·obtain⟨s1,s2,s3⟩:=aE4 hd h2 h1 hlt n1;exact⟨(pair j i hlt l2 n1).symm,s2,s1,fun t w1 w2=>s3 t w2 w1⟩
  ·obtain⟨s1,s2,s3⟩:=aE4 hd h1 h2 hlt n2;exact⟨pair i j hlt l1 n2,s1,s2,s3⟩
 have hok:=ok_all (aBX hd).1 (drawn_lt hd) (aBX hd).2 hind hs es hst ops.size 0 (a1O _)
 rw [a2,a3]at hok
 refine wpIn_region_any hm (ok_wp (aBO SC) (aHE SC) hM (by rw [hM0];exact R.lo) hhi (fun i o ho=>(a5 i o (by rw [a0g];exact ho)).1) (by rw [hMN];exact a7) ops.size _ ρ h e a _ ⟨hA.env,hA.ds,⟨R.blk,R.inj,R.new,⟨R.below.os,R.below.tape,R.below.output,R.below.size,R.below.block⟩,a1G _,fun b _ hb=>absurd hb (a1N b),Rho.le_refl _,fun _ _=>rfl⟩,fun j hj _ b hb1 hb2=>?_,fun b hb1 hb2=>?_,R.le,Rho.le_refl _,R.out⟩ hok)
 ·exact R.fresh b (a1H (by rw [<- hM0];exact hM 0 j (a1P _)) hb1) (a1I hb2 (a1H (hM _ _ hj) hhi))
 ·exact R.fresh b (a1H (by rw [<- hM0];exact hM 0 _ (a1P _)) hb1) hb2
theorem sound (hm:P.follows .mixedOrders=true) (n:Nat):SimA P (exec P n):=aBO (aEr (fun _ SC=>aJN hm SC) n).1
end
end
open RowKit (Below)
noncomputable section
theorem aId {P:Program} (hm:P.follows .mixedOrders=true) {n f:Nat} {v:V} {x:Value} {s:S} (hv:tv (fun _=>none) v=some x) (hk:run0 P n f=some (.val v,s)) (w:World):
 SX.Ar P f/\CallsIn (SX.fw none) 0 P f #[] w (fun e w'=>e= .returned x/\Below w.heap.size w w'):=by
 have R:Rel ⟨w,0,s.nx,fun _=>none⟩ (fun _=>none) .leaf 0 w:=⟨(fun b k e=>by rw [xZ]at e;cases e),fun b b' x x' h=>(h (xZ _)).elim,(fun b x h=>by cases h),⟨rfl,rfl,rfl,a1G _,fun _ _=>rfl⟩,a1G _,fun _ _ _=>rfl,fun _ _ h=>h,fun _ _=>rfl⟩
 obtain⟨h1,h2⟩:=sound hm n f [] [] _ _ _ _ _ w .ret (.val v,s) rfl R (a1G _) hk
 refine⟨h1,CallsIn.mono h2 fun e w' hc=>?_⟩
 cases e with
 | outgrown=>exact hc.elim
 | panicked ch=>
  obtain⟨c,ρ',h,nx,lg,k1,k2,k3,k4⟩:=hc;cases k4
 | returned y=>
  obtain⟨u,ρ',h,nx,lg,k1,k2,k3,k4⟩:=hc;have k5:some ((.val u:O),(⟨h,nx,lg⟩:S))=some (.val v,s):=k4;cases k5;rw [mY (ρ:=fun _=>none) (ρ':=ρ') (fun _ _ h=>by cases h) v hv]at k3
  cases k3;exact⟨rfl,k2.below⟩
end
open Go.SX Go.SW
theorem aIh {P:Program} (hm:P.follows .mixedOrders=true) {n f:Nat} {v:V} {x:Value} {s:S} (hv:tv (fun _=>none) v=some x) (hk:run0 P n f=some (.val v,s)):
 FnS P f [] [] (fEq x) (fun _=>[]):=by
 intro m L vs hv' hL w hS
 have h1:vs=[]:=by cases vs with
  | nil=>rfl
  | cons _ _=>exact absurd hv' (by simp [aT])
 have h2:L=[]:=hL
 subst h1;subst h2
 have hc:=callsIn_wide.1 (aId hm hv hk w).2
 refine hc.mono fun e w' ⟨he,hb⟩=>⟨m,[],?_,x,he,rfl,rfl⟩
 have hlt:∀ b o,w.heap[b]? =some o->b<w.heap.size:=fun b o h=>by
  rcases a1J b w.heap.size with h1 | h1
  ·exact h1
  ·rw [Array.getElem?_eq_none h1]at h;cases h
 exact⟨fun b o h=>(hb.block b (hlt b o (hS.mem b o h))).trans (hS.mem b o h),fun x h=>(by cases h),fun x h=>(by cases h),List.nodup_nil,Mem.le_refl _,fun _ h=>absurd rfl h,fun x h=>(by cases h),hb.size,fun b h _=>hb.block b h,hb.os,hb.output,hb.tape⟩
theorem run_true {P:Program} {n f:Nat} (h:okB (run0 P n f) true=true):∃ s,run0 P n f=some (.val (.bool true),s):=by
 revert h
 generalize run0 P n f=r
 intro h
 match r,h with
 | some (.val (.bool true),s),_=>exact⟨s,rfl⟩
end Go.BX
namespace Go.Proofs.YtgidgoahhepmlaaGreat
open Go.SX Go.SW Go.BX
theorem aJo:okB (run0 Tryz.prog 1000000 10) true=true:=by kernel_rfl
def aA9:Option Bool:=some true
theorem aFn (r:Bool) (H:aA9=some r):FnS Tryz.prog 10 [] [] (aR r) (fun _=>[]):=by
 cases H
 obtain⟨s,h⟩:=run_true aJo
 exact aIh (by kernel_rfl) rfl h
open Go.SX Go.SW Go.Dt
attribute [local irreducible] Code.wpIn wpListIn Exit.then Exit.inBlock
def oA (AA:Nat) (a0:AE) (y4:AE × Int) (y5:(List (List Int)) × Int) (y6:(List (List Int)) × Int):Nat->Int->Int->Option ((Int) ⊕ (Bool))
| 0,_,_=>none
| k+1,x5,x6=>
 if x6<(a0.AD.length:Int)then
  (idx y5.1 x6).bind fun y9=>
  (idx a0.AD x6).bind fun y10=>
  (tM AA y9 y10.AM).bind fun y11=>
  (idx y6.1 x6).bind fun y12=>
  (idx y4.1.AD x6).bind fun y13=>
  (tM AA y12 y13.AM).bind fun y14=>
  bif !y11.2 then
   (some false).bind fun r=>some (Sum.inr r)
  else
   bif !y14.2 then
    (some false).bind fun r=>some (Sum.inr r)
   else
    (sK AA y14.1 y11.1).bind fun y15=>
    bif !y15 then
     (some false).bind fun r=>some (Sum.inr r)
    else
     (idx y6.1 x6).bind fun y16=>
     (idx y5.1 x6).bind fun y17=>
     (sK AA y16 y17).bind fun y18=>
     bif y18 then
      (chk (x5+(y11.1.length:Int))).bind fun z2=>
      (chk (z2 - (y14.1.length:Int))).bind fun z3=>
      (chk (x6+1)).bind fun z4=>
      oA AA a0 y4 y5 y6 k z3 z4
     else
      (some false).bind fun r=>some (Sum.inr r)
 else
  some (Sum.inl x5)
def aBb (AA:Nat) (a0:AE):Option (Bool):=
 (rA AA (⟨a0.AH,a0.AM,a0.AD,a0.AF,a0.AG⟩:AE)).bind fun y1=>
 if y1.2≠0 then
  ((zY AA (⟨y1.1.AH,y1.1.AD,y1.1.AF,y1.1.AG⟩:AI) (⟨[],[],[],0⟩:AI)).bind fun y2=>
  bif y2 then
   (aA9).bind fun y3=>
   some y3
  else
   some false).bind fun x1=>
  some x1
 else
  (zE AA (⟨y1.1.AH,y1.1.AD,y1.1.AF,y1.1.AG⟩:AI)).bind fun y4=>
  (tE AA (⟨a0.AH,a0.AM,a0.AD,a0.AF,a0.AG⟩:AE)).bind fun y5=>
  (tE AA (⟨y4.1.AH,y4.1.AM,y4.1.AD,y4.1.AF,y4.1.AG⟩:AE)).bind fun y6=>
  (yO AA (⟨a0.AH,a0.AM,a0.AD,a0.AF,a0.AG⟩:AE)).bind fun y7=>
  if y4.2≠0 then
   some false
  else
   if y5.2≠0 then
    some false
   else
    if y6.2≠0 then
     some false
    else
     if y7.2≠0 then
      some false
     else
      if (y5.1.length:Int)≠(a0.AD.length:Int)then
       some false
      else
       if (y6.1.length:Int)≠(a0.AD.length:Int)then
        some false
       else
        if (y4.1.AD.length:Int)≠(a0.AD.length:Int)then
         some false
        else
         (sK AA y4.1.AM a0.AM).bind fun y8=>
         bif y8 then
          (chk ((a0.AM.length:Int) - (y4.1.AM.length:Int))).bind fun z1=>
          (oA AA a0 y4 y5 y6 AA z1 0).bind fun o=>match o with
          | Sum.inr r=>some r
          | Sum.inl x2=>
          (if x2=y7.1 then
           (aA9).bind fun y19=>
           some y19
          else
           some false).bind fun x7=>
          some x7
         else
          some false
theorem aI3 (AA:Nat)  (a0:AE) (r:Bool) (H:aBb AA a0=some r):FnS Tryz.prog 6 [fSt lF a0] [] (aR r) (fun _=>[]):=by
 unfold aBb at H
 refine bL Tryz.func6 rfl Tryz.ntmps6 rfl (fun β=>?_)
 refine Z1 ?_
 refine Tn (cC rfl hh cB) fun b1=>?_
 revert H;refine B4 fun y1 h1 H=>?_
 refine Tc (aH9 _ _ _ h1) ?_
 refine Z3 ?_
 refine Tn (bG rfl aHN rfl) fun b2=>?_
 refine bZ (φs':=[fSl aL y1.1.AH,fSl aY y1.1.AD,fSl aE y1.1.AF,fI y1.1.AG]) a2e rfl rfl (has rfl) (has rfl) (aC (aP) (aC (aP) (aC (aP) (aC (aI a2e) bD)))) (sz rfl) rfl rfl rfl ?_
 refine Z2 ?_
 refine aJ ?_
 revert H;refine I4 (fun c1 H=>?_) fun c1 H=>?_
 revert H;refine B1 fun o1 H Hr1=>?_
 refine aS (ι:=Bool) (fun i=>o1=i) (fun i=>[(2,aR i)]) (fun i=>[aA b2 26 [fSl aL y1.1.AH,fSl aY y1.1.AD,fSl aE y1.1.AF,fI y1.1.AG],aA b1 30 [fSl aL a0.AH,fSl tI a0.AM,fSl bH a0.AD,fSl aE a0.AF,fI a0.AG]]) ?_ ?_
 refine Z2 ?_
 refine Yy (fY (ψs:=[fEq (.slice none 0 0),fEq (.slice none 0 0),fEq (.slice none 0 0),fI 0]) rfl aDp rfl bJ.nil rfl) ?_
 revert H;refine bs fun y2 h2 H=>?_
 refine lT a2e rfl rfl rfl hh (aK.cons hh (aK.cons (fF rfl (qS (aO.cons cW (aO.cons cW (aO.cons cW (aO.cons Ent.rfl aO.nil)))))) aK.nil)) rfl (cb rfl) (aIY AA (⟨y1.1.AH,y1.1.AD,y1.1.AF,y1.1.AG⟩:AI) (⟨[],[],[],0⟩:AI) y2 h2) rfl ?_
 refine Z1 ?_
 revert H;refine cs (fun c2 H=>?_) fun c2 H=>?_
 revert H;refine bs fun y3 h3 H=>?_
 refine Tc (aFn _ h3) ?_
 refine Z3 ?_
 exact Tm (y3) (ij H)
 refine Z4 ?_
 exact Tm (false) (ij H)
 clear H;intro x1 hi;subst o1;have H:=Hr1;clear Hr1;try dsimp only at H
 try dsimp only
 refine Z1 ?_
 cases H
 refine aH [] (by decide) ?_
 exact To
 revert H;refine B5 fun y4 h4 H=>?_
 refine Tc (aIq _ _ _ h4) ?_
 refine Z3 ?_
 refine Tn (bG rfl aD0 rfl) fun b3=>?_
 refine bZ (φs':=[fSl aL y4.1.AH,fSl tI y4.1.AM,fSl bH y4.1.AD,fSl aE y4.1.AF,fI y4.1.AG]) a2e rfl rfl (has rfl) (has rfl) (aC (aP) (aC (aP) (aC (aP) (aC (aP) (aC (aI a2e) bD))))) (sz rfl) rfl rfl rfl ?_
 revert H;refine B4 fun y5 h5 H=>?_
 refine Tc (aEI _ _ _ h5) ?_
 revert H;refine B8 fun y6 h6 H=>?_
 refine Tc (aEI _ _ _ h6) ?_
 revert H;refine B8 fun y7 h7 H=>?_
 refine Tc (aKv _ _ _ h7) ?_
 refine Z6 ?_
 refine aJ ?_
 revert H;refine I4 (fun c3 H=>?_) fun c3 H=>?_
 refine Z12 ?_
 refine Z12 ?_
 refine Z12 ?_
 refine Z12 ?_
 refine Z2 ?_
 cases H
 refine aH [] (by decide) ?_
 exact To
 revert H;refine I4 (fun c4 H=>?_) fun c4 H=>?_
 refine Z12 ?_
 refine Z12 ?_
 refine Z12 ?_
 refine Z10 ?_
 cases H
 refine aH [] (by decide) ?_
 exact To
 revert H;refine I4 (fun c5 H=>?_) fun c5 H=>?_
 refine Z12 ?_
 refine Z12 ?_
 refine Z12 ?_
 refine Z6 ?_
 cases H
 refine aH [] (by decide) ?_
 exact To
 revert H;refine I4 (fun c6 H=>?_) fun c6 H=>?_
 refine Z12 ?_
 refine Z12 ?_
 refine Z12 ?_
 refine Z2 ?_
 cases H
 refine aH [] (by decide) ?_
 exact To
 revert H;refine I8 (fun c7 H=>?_) fun c7 H=>?_
 refine Z12 ?_
 refine Z12 ?_
 refine Z6 ?_
 cases H
 refine aH [] (by decide) ?_
 exact To
 revert H;refine I8 (fun c8 H=>?_) fun c8 H=>?_
 refine Z12 ?_
 refine Z10 ?_
 cases H
 refine aH [] (by decide) ?_
 exact To
 revert H;refine I9 (fun c9 H=>?_) fun c9 H=>?_
 refine Z12 ?_
 refine Z1 ?_
 cases H
 refine aH [] (by decide) ?_
 exact To
 revert H;refine B4 fun y8 h8 H=>?_
 refine Tc (aAL _ _ _ _ h8) ?_
 refine Z3 ?_
 revert H;refine cs (fun c10 H=>?_) fun c10 H=>?_
 revert H;refine B10 fun z1 h9 H=>?_
 revert H;refine B3 fun o2 H Hr2=>?_
 refine aS (ι:=Int) (fun i=>o2=Sum.inl i) (fun i=>[(11,fI y7.1),(13,fI i)]) (fun i=>[aA b3 30 [fSl aL y4.1.AH,fSl tI y4.1.AM,fSl bH y4.1.AD,fSl aE y4.1.AF,fI y4.1.AG],aA b2 26 [fSl aL y1.1.AH,fSl aY y1.1.AD,fSl aE y1.1.AF,fI y1.1.AG],aA b1 30 [fSl aL a0.AH,fSl tI a0.AM,fSl bH a0.AD,fSl aE a0.AF,fI a0.AG]]) ?_ ?_
 refine Z4 ?_
 refine Tl (ι:=Nat × Int × Int) (fun i=>oA AA a0 y4 y5 y6 i.1 i.2.1 i.2.2=_) (fun i=>i.1) (fun i=>[(1,fEq (ptr b1)),(5,fEq (ptr b3)),(7,fSl (tSl tI) y5.1),(9,fSl (tSl tI) y6.1),(11,fI y7.1),(13,fI i.2.1),(14,fI i.2.2)]) (fun i=>[aA b3 30 [fSl aL y4.1.AH,fSl tI y4.1.AM,fSl bH y4.1.AD,fSl aE y4.1.AF,fI y4.1.AG],aA b2 26 [fSl aL y1.1.AH,fSl aY y1.1.AD,fSl aE y1.1.AF,fI y1.1.AG],aA b1 30 [fSl aL a0.AH,fSl tI a0.AM,fSl bH a0.AD,fSl aE a0.AF,fI a0.AG]]) (AA,z1,0) H ?_
 clear H;rintro⟨k1,x5,x6⟩ H
 replace H:oA AA a0 y4 y5 y6 k1 x5 x6=_:=H
 try dsimp only
 obtain _ | k1:=k1
 rw [oA]at H;cases H
 rw [oA]at H
 refine aJ ?_
 revert H;refine I7 (fun c11 H=>?_) fun c11 H=>?_
 refine Z3 ?_
 refine aJ ?_
 refine Z1 ?_
 refine aJ ?_
 revert H;refine bs fun y9 h10 H=>?_
 revert H;refine bs fun y10 h11 H=>?_
 revert H;refine bs fun y11 h12 H=>?_
 apply bW (ods:=[_,_,_,_,_,_,_,_,_,_,_,_,_,_,_,_]) 16 0 3 bV rfl rfl rfl
 refine ND ?_
 refine M8 ?_
 intros
 refine M2 ?_
 intros
 refine Nc (aHU _ _ _ _ h12) fun _=>?_
 refine M5 ?_
 intros
 refine Z2 ?_
 refine aJ ?_
 revert H;refine bs fun y12 h13 H=>?_
 revert H;refine bs fun y13 h14 H=>?_
 revert H;refine bs fun y14 h15 H=>?_
 apply bW (ods:=[_,_,_,_,_,_,_,_,_,_,_,_,_,_,_,_]) 16 0 3 bV rfl rfl rfl
 refine ND ?_
 refine M8 ?_
 intros
 refine M2 ?_
 intros
 refine Nc (aHU _ _ _ _ h15) fun _=>?_
 refine M5 ?_
 intros
 refine Z2 ?_
 refine aJ ?_
 refine aJ ?_
 revert H;refine cs (fun c12 H=>?_) fun c12 H=>?_
 apply bW (ods:=[_,_,_,_,_,_,_,_,_,_,_,_,_,_,_,_,_,_,_,_,_,_,_,_]) 24 0 3 bV rfl rfl rfl
 refine ND ?_
 refine M8 ?_
 intros
 refine M8 ?_
 intros
 refine M8 ?_
 intros
 revert H;refine B12 fun r1 H e1=>?_
 cases e1;cases Hr2
 cases H
 refine aH [] (by decide) ?_
 exact To
 exact fk
 kernel_rfl
 revert H;refine cs (fun c13 H=>?_) fun c13 H=>?_
 apply bW (ods:=[_,_,_,_,_,_,_,_,_,_,_,_,_,_,_,_,_,_,_,_,_,_,_,_]) 24 0 3 bV rfl rfl rfl
 refine ND ?_
 refine M8 ?_
 intros
 refine M8 ?_
 intros
 refine M8 ?_
 intros
 revert H;refine B12 fun r2 H e2=>?_
 cases e2;cases Hr2
 cases H
 refine aH [] (by decide) ?_
 exact To
 exact fk
 kernel_rfl
 revert H;refine bs fun y15 h16 H=>?_
 revert H;refine cs (fun c14 H=>?_) fun c14 H=>?_
 apply bW (ods:=[_,_,_,_,_,_,_,_,_,_,_,_,_,_,_,_,_,_,_,_,_,_,_,_]) 24 0 3 bV rfl rfl rfl
 refine ND ?_
 refine M8 ?_
 intros
 refine M1 ?_
 intros
 refine Nc (aAL _ _ _ _ h16) fun _=>?_
 refine M8 ?_
 intros
 refine M6 ?_
 intros
 revert H;refine B12 fun r3 H e3=>?_
 cases e3;cases Hr2
 cases H
 refine aH [] (by decide) ?_
 exact To
 exact fk
 kernel_rfl
 revert H;refine bs fun y16 h17 H=>?_
 revert H;refine bs fun y17 h18 H=>?_
 revert H;refine bs fun y18 h19 H=>?_
 apply bW (ods:=[_,_,_,_,_,_,_,_,_,_,_,_,_,_,_,_,_,_,_,_,_,_,_,_]) 24 0 3 bV rfl rfl rfl
 refine ND ?_
 refine M8 ?_
 intros
 refine M1 ?_
 intros
 refine Nc (aAL _ _ _ _ h16) fun _=>?_
 refine M8 ?_
 intros
 refine M3 ?_
 intros
 refine Nc (aAL _ _ _ _ h19) fun _=>?_
 refine M2 ?_
 intros
 refine Z2 ?_
 revert H;refine cs (fun c15 H=>?_) fun c15 H=>?_
 revert H;refine B7 fun z2 h20 H=>?_
 revert H;refine B3 fun z3 h21 H=>?_
 revert H;refine B7 fun z4 h22 H=>?_
 refine Z3 ?_
 exact Tm ((k1,z3,z4)) ⟨H,ls⟩
 revert H;refine B10 fun r4 H e4=>?_
 cases e4;cases Hr2
 cases H
 refine aH [] (by decide) ?_
 exact To
 exact fk
 kernel_rfl
 exact fk
 kernel_rfl
 exact fk
 kernel_rfl
 refine Z6 ?_
 exact Tm (x5) (ij H)
 clear H;intro x2 hi;subst o2;have H:=Hr2;clear Hr2;try dsimp only at H
 try dsimp only
 revert H;refine bs fun o3 H Hr3=>?_
 refine aS (ι:=Bool) (fun i=>o3=i) (fun i=>[(2,aR i)]) (fun i=>[aA b3 30 [fSl aL y4.1.AH,fSl tI y4.1.AM,fSl bH y4.1.AD,fSl aE y4.1.AF,fI y4.1.AG],aA b2 26 [fSl aL y1.1.AH,fSl aY y1.1.AD,fSl aE y1.1.AF,fI y1.1.AG],aA b1 30 [fSl aL a0.AH,fSl tI a0.AM,fSl bH a0.AD,fSl aE a0.AF,fI a0.AG]]) ?_ ?_
 revert H;refine I5 (fun c16 H=>?_) fun c16 H=>?_
 revert H;refine bs fun y19 h23 H=>?_
 refine Tc (aFn _ h23) ?_
 refine Z3 ?_
 exact Tm (y19) (ij H)
 refine Z4 ?_
 exact Tm (false) (ij H)
 clear H;intro x7 hi;subst o3;have H:=Hr3;clear Hr3;try dsimp only at H
 try dsimp only
 refine Z1 ?_
 cases H
 refine aH [] (by decide) ?_
 exact To
 refine Z5 ?_
 cases H
 refine aH [] (by decide) ?_
 exact To
open Go.SX Go.SW Go.Dt
def yZ (a0:List ByteArray) (a1:ByteArray):Nat->Int->Option ((Unit) ⊕ (Bool))
| 0,_=>none
| k+1,x2=>
 if x2<(a0.length:Int)then
  (idx a0 x2).bind fun y1=>
  if y1=a1 then
   (some true).bind fun r=>some (Sum.inr r)
  else
   (chk (x2+1)).bind fun z1=>
   yZ a0 a1 k z1
 else
  some (Sum.inl ())
def aCO (AA:Nat) (a0:List ByteArray) (a1:ByteArray):Option (Bool):=
 (yZ a0 a1 AA 0).bind fun o=>match o with
 | Sum.inr r=>some r
 | Sum.inl _=>
 some false
def aAz (a0:ByteArray):Nat->Int->Option ((Unit) ⊕ (Bool))
| 0,_=>none
| k+1,x2=>
 if x2<(a0.size:Int)then
  (sidx a0 x2).bind fun z1=>
  if z1<97 then
   (some false).bind fun r=>some (Sum.inr r)
  else
   (sidx a0 x2).bind fun z2=>
   if 122<z2 then
    (some false).bind fun r=>some (Sum.inr r)
   else
    (chk (x2+1)).bind fun z3=>
    aAz a0 k z3
 else
  some (Sum.inl ())
def aAv (AA:Nat) (a0:ByteArray):Option (Bool):=
 if (a0.size:Int)<1 then
  some false
 else
  if 8<(a0.size:Int)then
   some false
  else
   (aAz a0 AA 0).bind fun o=>match o with
   | Sum.inr r=>some r
   | Sum.inl _=>
   (aCO AA [{ data:=#[97,110,100] },{ data:=#[100,101,102] },{ data:=#[101,108,115,101] },{ data:=#[103,111] },{ data:=#[105,102] },{ data:=#[105,110] },{ data:=#[112,108,97,99,101] },{ data:=#[115,116,111,112] },{ data:=#[116,104,101,110] },{ data:=#[119,97,116,99,104] }] a0).bind fun y1=>
   some (!y1)
def vW (a0:AN):Nat->Int->Option ((Unit) ⊕ (Bool))
| 0,_=>none
| k+1,x2=>
 if x2<(a0.AQ.length:Int)then
  (idx a0.AQ x2).bind fun y1=>
  if y1.At<0 then
   (some false).bind fun r=>some (Sum.inr r)
  else
   (idx a0.AQ x2).bind fun y2=>
   if (a0.AS.length:Int)<y2.At then
    (some false).bind fun r=>some (Sum.inr r)
   else
    (idx a0.AQ x2).bind fun y3=>
    if y3.Ap<0 then
     (some false).bind fun r=>some (Sum.inr r)
    else
     (idx a0.AQ x2).bind fun y4=>
     if 3<y4.Ap then
      (some false).bind fun r=>some (Sum.inr r)
     else
      (chk (x2+1)).bind fun z1=>
      vW a0 k z1
 else
  some (Sum.inl ())
def xP (a0:AN):Nat->Int->Option ((Unit) ⊕ (Bool))
| 0,_=>none
| k+1,x4=>
 if x4<(a0.AS.length:Int)then
  (idx a0.AS x4).bind fun y5=>
  if y5.In<0 then
   (some false).bind fun r=>some (Sum.inr r)
  else
   (idx a0.AS x4).bind fun y6=>
   if x4<y6.In then
    (some false).bind fun r=>some (Sum.inr r)
   else
    (chk (x4+1)).bind fun z2=>
    xP a0 k z2
 else
  some (Sum.inl ())
def vS (y8:Ai) (x14:Int) (y9:Int):Nat->Int->Option ((Unit) ⊕ ((List Bool) ⊕ ((List Bool) ⊕ ((List Bool) ⊕ (Bool)))))
| 0,_=>none
| k+1,x17=>
 if x17<x14 then
  (idx y8.Ab x17).bind fun y11=>
  if y11=y9 then
   ((((some false).bind fun r=>some (Sum.inr r)).bind fun r=>some (Sum.inr r)).bind fun r=>some (Sum.inr r)).bind fun r=>some (Sum.inr r)
  else
   (chk (x17+1)).bind fun z3=>
   vS y8 x14 y9 k z3
 else
  some (Sum.inl ())
def qO (AA:Nat) (a0:AN) (y8:Ai):Nat->(List Bool)->Int->Option ((List Bool) ⊕ ((List Bool) ⊕ (Bool)))
| 0,_,_=>none
| k+1,x13,x14=>
 if x14<(y8.Ab.length:Int)then
  ((idx y8.Ab x14).bind fun y9=>
  if y9<0 then
   (((some false).bind fun r=>some (Sum.inr r)).bind fun r=>some (Sum.inr r)).bind fun r=>some (Sum.inr r)
  else
   if (a0.AQ.length:Int)<=y9 then
    (((some false).bind fun r=>some (Sum.inr r)).bind fun r=>some (Sum.inr r)).bind fun r=>some (Sum.inr r)
   else
    (idx a0.AQ y9).bind fun y10=>
    if y10.At≠y8.At then
     (((some false).bind fun r=>some (Sum.inr r)).bind fun r=>some (Sum.inr r)).bind fun r=>some (Sum.inr r)
    else
     (vS y8 x14 y9 AA 0).bind fun o=>match o with
     | Sum.inr r=>some r
     | Sum.inl _=>
     (idx x13 y9).bind fun y12=>
     some (Sum.inl (x13.set y9.toNat true))).bind fun o=>match o with
  | Sum.inr r=>some r
  | Sum.inl x15=>
  (chk (x14+1)).bind fun z4=>
  qO AA a0 y8 k x15 z4
 else
  some (Sum.inl x13)
def tD (AA:Nat) (a0:AN):Nat->(List Bool)->Int->Option ((List Bool) ⊕ (Bool))
| 0,_,_=>none
| k+1,x8,x9=>
 if x9<(a0.AP.length:Int)then
  ((idx a0.AP x9).bind fun y8=>
  if y8.At<0 then
   ((some false).bind fun r=>some (Sum.inr r)).bind fun r=>some (Sum.inr r)
  else
   if (a0.AS.length:Int)<y8.At then
    ((some false).bind fun r=>some (Sum.inr r)).bind fun r=>some (Sum.inr r)
   else
    if (y8.Ab.length:Int)<1 then
     ((some false).bind fun r=>some (Sum.inr r)).bind fun r=>some (Sum.inr r)
    else
     if 3<(y8.Ab.length:Int)then
      ((some false).bind fun r=>some (Sum.inr r)).bind fun r=>some (Sum.inr r)
     else
      qO AA a0 y8 AA x8 0).bind fun o=>match o with
  | Sum.inr r=>some r
  | Sum.inl x10=>
  (chk (x9+1)).bind fun z5=>
  tD AA a0 k x10 z5
 else
  some (Sum.inl x8)
def yA (x5:List Bool):Nat->Int->Option ((Unit) ⊕ (Bool))
| 0,_=>none
| k+1,x19=>
 if x19<(x5.length:Int)then
  (idx x5 x19).bind fun y13=>
  bif y13 then
   (chk (x19+1)).bind fun z6=>
   yA x5 k z6
  else
   (some false).bind fun r=>some (Sum.inr r)
 else
  some (Sum.inl ())
def aDc (AA:Nat) (a0:AN):Option (Bool):=
 if 30<(a0.AQ.length:Int)then
  some false
 else
  if 30<(a0.AS.length:Int)then
   some false
  else
   if 30<(a0.AP.length:Int)then
    some false
   else
    (vW a0 AA 0).bind fun o=>match o with
    | Sum.inr r=>some r
    | Sum.inl _=>
    (xP a0 AA 0).bind fun o=>match o with
    | Sum.inr r=>some r
    | Sum.inl _=>
    (mk false (a0.AQ.length:Int)).bind fun y7=>
    (tD AA a0 AA y7 0).bind fun o=>match o with
    | Sum.inr r=>some r
    | Sum.inl x5=>
    (yA x5 AA 0).bind fun o=>match o with
    | Sum.inr r=>some r
    | Sum.inl _=>
    some true
def yX (rec_r03_expNodes:AT->Int->Option (Int)) (a0:AT) (a1:Int):Nat->Int->Int->Option (Int)
| 0,_,_=>none
| k+1,x4,x5=>
 if x5<(a0.AO.length:Int)then
  if x4<=a1 then
   (idx a0.AO x5).bind fun y1=>
   (chk (a1 - x4)).bind fun z1=>
   (rec_r03_expNodes y1 z1).bind fun y2=>
   (chk (x4+y2)).bind fun z2=>
   (chk (x5+1)).bind fun z3=>
   yX rec_r03_expNodes a0 a1 k z2 z3
  else
   some x4
 else
  some x4
def wL:Nat->AT->Int->Option (Int)
| 0,_,_=>none
| AA+1,a0,a1=>
 (yX (wL AA) a0 a1 AA 1 0).bind fun x1=>
 some x1
def vP (rec_r03_expDepth:AT->Option (Int)) (a0:AT):Nat->Int->Int->Option (Int)
| 0,_,_=>none
| k+1,x4,x5=>
 if x5<(a0.AO.length:Int)then
  (idx a0.AO x5).bind fun y1=>
  (rec_r03_expDepth y1).bind fun y2=>
  (chk (x5+1)).bind fun z1=>
  vP rec_r03_expDepth a0 k (max x4 y2) z1
 else
  some x4
def wO:Nat->AT->Option (Int)
| 0,_=>none
| AA+1,a0=>
 (vP (wO AA) a0 AA 0 0).bind fun x1=>
 (chk (x1+1)).bind fun z2=>
 some z2
def zT:Nat->AT->Int->Option (Bool)
| 0,_,_=>none
| AA+1,a0,a1=>
 if a0.Op=1 then
  (if (a0.AO.length:Int)=0 then
   if (-1000000000)<=a0.N then
    some (decide (a0.N<=1000000000))
   else
    some false
  else
   some false).bind fun x1=>
  some x1
 else
  if a0.Op=2 then
   (if (a0.AO.length:Int)=0 then
    if 0<=a0.N then
     some (decide (a0.N<a1))
    else
     some false
   else
    some false).bind fun x2=>
   some x2
  else
   if a0.Op<3 then
    some false
   else
    if 7<a0.Op then
     some false
    else
     if (a0.AO.length:Int)≠2 then
      some false
     else
      if a0.N≠0 then
       some false
      else
       ((idx a0.AO 0).bind fun y1=>
       ((zT AA) y1 a1).bind fun y2=>
       bif y2 then
        (idx a0.AO 1).bind fun y3=>
        ((zT AA) y3 a1).bind fun y4=>
        some y4
       else
        some false).bind fun x3=>
       some x3
def aCN (AA:Nat) (a0:AT) (a1:Int):Option (Bool):=
 ((wL AA (⟨a0.Op,a0.N,a0.AO⟩:AT) 60).bind fun y1=>
 if y1<=60 then
  (wO AA (⟨a0.Op,a0.N,a0.AO⟩:AT)).bind fun y2=>
  if y2<=12 then
   (zT AA (⟨a0.Op,a0.N,a0.AO⟩:AT) a1).bind fun y3=>
   some y3
  else
   some false
 else
  some false).bind fun x1=>
 some x1
def aBa (a0:Int):Option (Int × Int × Bool):=
 (if a0=1 then
  some (decide (a0=1))
 else
  some (decide (a0=7))).bind fun x1=>
 bif x1 then
  some (0,0,true)
 else
  if a0=2 then
   some ((-1),0,true)
  else
   if a0=3 then
    some (0,2,true)
   else
    if a0=5 then
     some (1,2,true)
    else
     (if a0=4 then
      some (decide (a0=4))
     else
      if a0=6 then
       some (decide (a0=6))
      else
       some (decide (a0=8))).bind fun x2=>
     bif x2 then
      some (0,1,true)
     else
      some (0,0,false)
def aBg (a0:AN):Option (Int):=
 (chk ((a0.AQ.length:Int)+(a0.AS.length:Int))).bind fun z1=>
 some z1
def zK (a0:AN) (a1:Ai):Nat->Int->Int->Option (Int)
| 0,_,_=>none
| k+1,x4,x5=>
 if x5<(a1.Ab.length:Int)then
  (idx a1.Ab x5).bind fun y1=>
  (idx a0.AQ y1).bind fun y2=>
  (chk (x4+y2.Ap)).bind fun z1=>
  (chk (x5+1)).bind fun z2=>
  zK a0 a1 k z1 z2
 else
  some x4
def aCC (AA:Nat) (a0:AN) (a1:Ai):Option (Int):=
 (zK a0 a1 AA 0 0).bind fun x1=>
 some x1
def nY (AA:Nat) (a2:Int) (y5:AV):Nat->Int->Bool->Option (Bool)
| 0,_,_=>none
| k+1,x4,x5=>
 if x4<(y5.AW.length:Int)then
  (bif x5 then
   some true
  else
   (idx y5.AW x4).bind fun y7=>
   (aCN AA y7 a2).bind fun y8=>
   some (!y8)).bind fun x6=>
  (chk (x4+1)).bind fun z2=>
  nY AA a2 y5 k z2 x6
 else
  some x5
def nT (rec_r03_look_node:Aj->Int->Int->Option (Aj)) (y5:AV) (x7:Int):Nat->Int->(List ByteArray)->(List AV)->(List AN)->Int->(List Int)->(List Int)->(List Int)->Bool->Option (Aj)
| 0,_,_,_,_,_,_,_,_,_=>none
| k+1,x26,x27,x28,x29,x30,x31,x32,x33,x34=>
 if x26<(y5.AO.length:Int)then
  bif x34 then
   some (⟨(⟨x27,x28,x29,x30⟩:AI),x31,x32,x33,x34⟩:Aj)
  else
   (idx y5.AO x26).bind fun y16=>
   (rec_r03_look_node (⟨(⟨x27,x28,x29,x30⟩:AI),x31,x32,x33,x34⟩:Aj) y16 x7).bind fun y17=>
   (chk (x26+1)).bind fun z5=>
   nT rec_r03_look_node y5 x7 k z5 y17.p.AH y17.p.AD y17.p.AF y17.p.AG y17.Ak y17.Aq y17.Ao y17.bad
 else
  some (⟨(⟨x27,x28,x29,x30⟩:AI),x31,x32,x33,x34⟩:Aj)
def rH (AA:Nat) (rec_r03_look_node:Aj->Int->Int->Option (Aj)) (a1:AN) (a2:Int):Nat->Int->(List ByteArray)->(List AV)->(List AN)->Int->(List Int)->(List Int)->(List Int)->Bool->Option (List ByteArray × List AV × List AN × Int × List Int × List Int × List Int × Bool)
| 0,_,_,_,_,_,_,_,_,_=>none
| k+1,x18,x19,x20,x21,x22,x23,x24,x25,x26=>
 if x18<(a1.AP.length:Int)then
  bif x26 then
   some (x19,x20,x21,x22,x23,x24,x25,x26)
  else
   (idx a1.AP x18).bind fun y1=>
   (idx a1.AP x18).bind fun y2=>
   (aCC AA (⟨a1.AQ,a1.AS,a1.AP⟩:AN) y2).bind fun y3=>
   (chk (a2+y3)).bind fun z1=>
   (rec_r03_look_node (⟨(⟨x19,x20,x21,x22⟩:AI),x23,x24,x25,x26⟩:Aj) y1.AU z1).bind fun y4=>
   (chk (x18+1)).bind fun z2=>
   rH AA rec_r03_look_node a1 a2 k z2 y4.p.AH y4.p.AD y4.p.AF y4.p.AG y4.Ak y4.Aq y4.Ao y4.bad
 else
  some (x19,x20,x21,x22,x23,x24,x25,x26)
def rB (rec_r03_look_node:Aj->Int->Int->Option (Aj)) (a1:AN) (a2:Int):Nat->Int->(List ByteArray)->(List AV)->(List AN)->Int->(List Int)->(List Int)->(List Int)->Bool->Option (Aj)
| 0,_,_,_,_,_,_,_,_,_=>none
| k+1,x36,x37,x38,x39,x40,x41,x42,x43,x44=>
 if x36<(a1.AS.length:Int)then
  bif x44 then
   some (⟨(⟨x37,x38,x39,x40⟩:AI),x41,x42,x43,x44⟩:Aj)
  else
   (idx a1.AS x36).bind fun y5=>
   (rec_r03_look_node (⟨(⟨x37,x38,x39,x40⟩:AI),x41,x42,x43,x44⟩:Aj) y5.AU a2).bind fun y6=>
   (chk (x36+1)).bind fun z3=>
   rB rec_r03_look_node a1 a2 k z3 y6.p.AH y6.p.AD y6.p.AF y6.p.AG y6.Ak y6.Aq y6.Ao y6.bad
 else
  some (⟨(⟨x37,x38,x39,x40⟩:AI),x41,x42,x43,x44⟩:Aj)
mutual
def gN:Nat->Aj->Int->Int->Option (Aj)
| 0,_,_,_=>none
| AA+1,a0,a1,a2=>
 if a1<0 then
  some (⟨(⟨a0.p.AH,a0.p.AD,a0.p.AF,a0.p.AG⟩:AI),a0.Ak,a0.Aq,a0.Ao,true⟩:Aj)
 else
  if (a0.p.AD.length:Int)<=a1 then
   some (⟨(⟨a0.p.AH,a0.p.AD,a0.p.AF,a0.p.AG⟩:AI),a0.Ak,a0.Aq,a0.Ao,true⟩:Aj)
  else
   (idx a0.Aq a1).bind fun y1=>
   if 0<y1 then
    some (⟨(⟨a0.p.AH,a0.p.AD,a0.p.AF,a0.p.AG⟩:AI),a0.Ak,a0.Aq,a0.Ao,true⟩:Aj)
   else
    (idx a0.Aq a1).bind fun y2=>
    (chk (y2+1)).bind fun z1=>
    (idx a0.Aq a1).bind fun y3=>
    (idx a0.Ak a1).bind fun y4=>
    (idx a0.p.AD a1).bind fun y5=>
    (aBa y5.Op).bind fun y6=>
    (bif !y6.2.2 then
     (some (⟨(⟨a0.p.AH,a0.p.AD,a0.p.AF,a0.p.AG⟩:AI),a0.Ak.set a1.toNat a2,a0.Aq.set a1.toNat z1,a0.Ao,true⟩:Aj)).bind fun r=>some (Sum.inr r)
    else
     if (y5.AO.length:Int)≠y6.2.1 then
      (some (⟨(⟨a0.p.AH,a0.p.AD,a0.p.AF,a0.p.AG⟩:AI),a0.Ak.set a1.toNat a2,a0.Aq.set a1.toNat z1,a0.Ao,true⟩:Aj)).bind fun r=>some (Sum.inr r)
     else
      if y6.1<0 then
       if 3<(y5.AW.length:Int)then
        (some (⟨(⟨a0.p.AH,a0.p.AD,a0.p.AF,a0.p.AG⟩:AI),a0.Ak.set a1.toNat a2,a0.Aq.set a1.toNat z1,a0.Ao,true⟩:Aj)).bind fun r=>some (Sum.inr r)
       else
        if 0<=y6.1 then
         if (y5.AW.length:Int)≠y6.1 then
          (some (⟨(⟨a0.p.AH,a0.p.AD,a0.p.AF,a0.p.AG⟩:AI),a0.Ak.set a1.toNat a2,a0.Aq.set a1.toNat z1,a0.Ao,true⟩:Aj)).bind fun r=>some (Sum.inr r)
         else
          some (Sum.inl ())
        else
         some (Sum.inl ())
      else
       if 0<=y6.1 then
        if (y5.AW.length:Int)≠y6.1 then
         (some (⟨(⟨a0.p.AH,a0.p.AD,a0.p.AF,a0.p.AG⟩:AI),a0.Ak.set a1.toNat a2,a0.Aq.set a1.toNat z1,a0.Ao,true⟩:Aj)).bind fun r=>some (Sum.inr r)
        else
         some (Sum.inl ())
       else
        some (Sum.inl ())).bind fun o=>match o with
    | Sum.inr r=>some r
    | Sum.inl _=>
    (nY AA a2 y5 AA 0 a0.bad).bind fun x1=>
    ((if y5.Op=2 then
      some (decide (y5.Op=2))
    else
     if y5.Op=6 then
      some (decide (y5.Op=6))
     else
      some (decide (y5.Op=8))).bind fun x16=>
    bif x16 then
     bif x1 then
      some (Sum.inl (a2,a0.p.AH,a0.p.AD,a0.p.AF,a0.p.AG,a0.Ak.set a1.toNat a2,a0.Aq.set a1.toNat z1,a0.Ao,true))
     else
      if y5.N<0 then
       some (Sum.inl (a2,a0.p.AH,a0.p.AD,a0.p.AF,a0.p.AG,a0.Ak.set a1.toNat a2,a0.Aq.set a1.toNat z1,a0.Ao,true))
      else
       some (Sum.inl (a2,a0.p.AH,a0.p.AD,a0.p.AF,a0.p.AG,a0.Ak.set a1.toNat a2,a0.Aq.set a1.toNat z1,a0.Ao,decide (a2<=y5.N)))
    else
     if y5.Op=4 then
      if y5.N<0 then
       (some (⟨(⟨a0.p.AH,a0.p.AD,a0.p.AF,a0.p.AG⟩:AI),a0.Ak.set a1.toNat a2,a0.Aq.set a1.toNat z1,a0.Ao,true⟩:Aj)).bind fun r=>some (Sum.inr r)
      else
       if (a0.p.AF.length:Int)<=y5.N then
        (some (⟨(⟨a0.p.AH,a0.p.AD,a0.p.AF,a0.p.AG⟩:AI),a0.Ak.set a1.toNat a2,a0.Aq.set a1.toNat z1,a0.Ao,true⟩:Aj)).bind fun r=>some (Sum.inr r)
       else
        (idx a0.Ao y5.N).bind fun y9=>
        if 0<y9 then
         (some (⟨(⟨a0.p.AH,a0.p.AD,a0.p.AF,a0.p.AG⟩:AI),a0.Ak.set a1.toNat a2,a0.Aq.set a1.toNat z1,a0.Ao,true⟩:Aj)).bind fun r=>some (Sum.inr r)
        else
         (idx a0.Ao y5.N).bind fun y10=>
         (chk (y10+1)).bind fun z3=>
         (idx a0.Ao y5.N).bind fun y11=>
         (idx a0.p.AF y5.N).bind fun y12=>
         (aBg y12).bind fun y13=>
         (chk (a2+y13)).bind fun z4=>
         (idx a0.p.AF y5.N).bind fun y14=>
         ((sV AA) (⟨(⟨a0.p.AH,a0.p.AD,a0.p.AF,a0.p.AG⟩:AI),a0.Ak.set a1.toNat a2,a0.Aq.set a1.toNat z1,a0.Ao.set y5.N.toNat z3,x1⟩:Aj) y14 z4).bind fun y15=>
         some (Sum.inl (z4,y15.p.AH,y15.p.AD,y15.p.AF,y15.p.AG,y15.Ak,y15.Aq,y15.Ao,y15.bad))
     else
      bif x1 then
       some (Sum.inl (a2,a0.p.AH,a0.p.AD,a0.p.AF,a0.p.AG,a0.Ak.set a1.toNat a2,a0.Aq.set a1.toNat z1,a0.Ao,true))
      else
       some (Sum.inl (a2,a0.p.AH,a0.p.AD,a0.p.AF,a0.p.AG,a0.Ak.set a1.toNat a2,a0.Aq.set a1.toNat z1,a0.Ao,decide (y5.N≠0)))).bind fun o=>match o with
    | Sum.inr r=>some r
    | Sum.inl (x7,x8,x9,x10,x11,x12,x13,x14,x15)=>
    nT (gN AA) y5 x7 AA 0 x8 x9 x10 x11 x12 x13 x14 x15
def sV:Nat->Aj->AN->Int->Option (Aj)
| 0,_,_,_=>none
| AA+1,a0,a1,a2=>
 (rH AA (gN AA) a1 a2 AA 0 a0.p.AH a0.p.AD a0.p.AF a0.p.AG a0.Ak a0.Aq a0.Ao a0.bad).bind fun (x1,x2,x3,x4,x5,x6,x7,x8)=>
 rB (gN AA) a1 a2 AA 0 x1 x2 x3 x4 x5 x6 x7 x8
end
def mO (AA:Nat) (a0:AI):Nat->Int->Bool->Option (Bool)
| 0,_,_=>none
| k+1,x4,x5=>
 if x4<(a0.AH.length:Int)then
  (bif x5 then
   some true
  else
   (idx a0.AH x4).bind fun y1=>
   (aAv AA y1).bind fun y2=>
   bif !y2 then
    some true
   else
    if 0<x4 then
     (idx a0.AH x4).bind fun y3=>
     (chk (x4 - 1)).bind fun z1=>
     (idx a0.AH z1).bind fun y4=>
     some (sle y3 y4)
    else
     some false).bind fun x6=>
  (chk (x4+1)).bind fun z2=>
  mO AA a0 k z2 x6
 else
  some x5
def qV (AA:Nat) (a0:AI):Nat->Int->Bool->Option (Bool)
| 0,_,_=>none
| k+1,x10,x11=>
 if x10<(a0.AF.length:Int)then
  (bif x11 then
   some true
  else
   (idx a0.AF x10).bind fun y5=>
   (aDc AA y5).bind fun y6=>
   some (!y6)).bind fun x12=>
  (chk (x10+1)).bind fun z3=>
  qV AA a0 k z3 x12
 else
  some x11
def pU (y10:Aj):Nat->Int->Bool->Option (Bool)
| 0,_,_=>none
| k+1,x16,x17=>
 if x16<(y10.Aq.length:Int)then
  (bif x17 then
   some true
  else
   (idx y10.Aq x16).bind fun y11=>
   some (decide (y11=0))).bind fun x18=>
  (chk (x16+1)).bind fun z4=>
  pU y10 k z4 x18
 else
  some x17
def qK (y10:Aj):Nat->Int->Bool->Option (Bool)
| 0,_,_=>none
| k+1,x22,x23=>
 if x22<(y10.Ao.length:Int)then
  (bif x23 then
   some true
  else
   (idx y10.Ao x22).bind fun y12=>
   some (decide (y12=0))).bind fun x24=>
  (chk (x22+1)).bind fun z5=>
  qK y10 k z5 x24
 else
  some x23
def aCI (AA:Nat) (a0:AI):Option (Aj):=
 if 12<(a0.AH.length:Int)then
  some (⟨(⟨a0.AH,a0.AD,a0.AF,a0.AG⟩:AI),[],[],[],true⟩:Aj)
 else
  if 60<(a0.AD.length:Int)then
   some (⟨(⟨a0.AH,a0.AD,a0.AF,a0.AG⟩:AI),[],[],[],true⟩:Aj)
  else
   if 12<(a0.AF.length:Int)then
    some (⟨(⟨a0.AH,a0.AD,a0.AF,a0.AG⟩:AI),[],[],[],true⟩:Aj)
   else
    (mO AA a0 AA 0 false).bind fun x1=>
    (qV AA a0 AA 0 x1).bind fun x7=>
    (mk 0 (a0.AD.length:Int)).bind fun y7=>
    (mk 0 (a0.AD.length:Int)).bind fun y8=>
    (mk 0 (a0.AF.length:Int)).bind fun y9=>
    bif x7 then
     some (⟨(⟨a0.AH,a0.AD,a0.AF,a0.AG⟩:AI),y7,y8,y9,x7⟩:Aj)
    else
     (gN AA (⟨(⟨a0.AH,a0.AD,a0.AF,a0.AG⟩:AI),y7,y8,y9,x7⟩:Aj) a0.AG (a0.AH.length:Int)).bind fun y10=>
     (pU y10 AA 0 y10.bad).bind fun x13=>
     (qK y10 AA 0 x13).bind fun x19=>
     some (⟨(⟨y10.p.AH,y10.p.AD,y10.p.AF,y10.p.AG⟩:AI),y10.Ak,y10.Aq,y10.Ao,x19⟩:Aj)
def aAT (AA:Nat) (a0:AI):Option (List Int):=
 (aCI AA (⟨a0.AH,a0.AD,a0.AF,a0.AG⟩:AI)).bind fun y1=>
 some y1.Ak
def zS (a0:List Int) (a1:Int):Nat->Int->Option (Int)
| 0,_=>none
| k+1,x3=>
 if x3<(a0.length:Int)then
  (idx a0 x3).bind fun y1=>
  if y1<a1 then
   (chk (x3+1)).bind fun z1=>
   zS a0 a1 k z1
  else
   some x3
 else
  some x3
def jL (AA:Nat) (a0:List Int) (a1:Int):Option (List Int):=
 (zS a0 a1 AA 0).bind fun x1=>
 (if x1<(a0.length:Int)then
  (idx a0 x1).bind fun y2=>
  if y2=a1 then
   (some a0).bind fun r=>some (Sum.inr r)
  else
   some (Sum.inl ())
 else
  some (Sum.inl ())).bind fun o=>match o with
 | Sum.inr r=>some r
 | Sum.inl _=>
 (slc a0 x1 (a0.length:Int)).bind fun y3=>
 (cQ ([a1]++y3)).bind fun z2=>
 (slc a0 0 x1).bind fun y4=>
 (cQ (([]:List Int)++y4)).bind fun z3=>
 (cQ (z3++z2)).bind fun z4=>
 some z4
def xJ (y2:AN):Nat->(List Int)->Int->Option (List Int)
| 0,_,_=>none
| k+1,x5,x6=>
 if x6<(y2.AP.length:Int)then
  (idx y2.AP x6).bind fun y3=>
  (cQ (x5++[y3.AU])).bind fun z1=>
  (chk (x6+1)).bind fun z2=>
  xJ y2 k z1 z2
 else
  some x5
def zL (y2:AN):Nat->(List Int)->Int->Option (List Int)
| 0,_,_=>none
| k+1,x9,x10=>
 if x10<(y2.AS.length:Int)then
  (idx y2.AS x10).bind fun y4=>
  (cQ (x9++[y4.AU])).bind fun z3=>
  (chk (x10+1)).bind fun z4=>
  zL y2 k z3 z4
 else
  some x9
def aB1 (AA:Nat) (a0:AI) (a1:Int):Option (List Int):=
 (idx a0.AD a1).bind fun y1=>
 (if y1.Op=4 then
  (idx a0.AF y1.N).bind fun y2=>
  (xJ y2 AA [] 0).bind fun x2=>
  zL y2 AA x2 0
 else
  some []).bind fun x1=>
 (cQ (x1++y1.AO)).bind fun z5=>
 some z5
def vZ (rec_r03_below:AI->(List Int)->Int->Option (List Int)) (a0:AI) (y2:List Int):Nat->(List Int)->Int->Option (List Int)
| 0,_,_=>none
| k+1,x4,x5=>
 if x5<(y2.length:Int)then
  (idx y2 x5).bind fun y3=>
  (rec_r03_below (⟨a0.AH,a0.AD,a0.AF,a0.AG⟩:AI) x4 y3).bind fun y4=>
  (chk (x5+1)).bind fun z1=>
  vZ rec_r03_below a0 y2 k y4 z1
 else
  some x4
def vT:Nat->AI->(List Int)->Int->Option (List Int)
| 0,_,_,_=>none
| AA+1,a0,a1,a2=>
 (jL AA a1 a2).bind fun y1=>
 (aB1 AA (⟨a0.AH,a0.AD,a0.AF,a0.AG⟩:AI) a2).bind fun y2=>
 (vZ (vT AA) a0 y2 AA y1 0).bind fun x1=>
 some x1
def aFr (AA:Nat) (a0:AI) (a1:Int):Option (List Int):=
 (vT AA (⟨a0.AH,a0.AD,a0.AF,a0.AG⟩:AI) [] a1).bind fun y1=>
 some y1
def sX (rec_r03_needExp:(List Int)->AT->Int->Option (List Int)) (a1:AT) (a2:Int):Nat->(List Int)->Int->Option (List Int)
| 0,_,_=>none
| k+1,x5,x6=>
 if x6<(a1.AO.length:Int)then
  (idx a1.AO x6).bind fun y2=>
  (rec_r03_needExp x5 y2 a2).bind fun y3=>
  (chk (x6+1)).bind fun z1=>
  sX rec_r03_needExp a1 a2 k y3 z1
 else
  some x5
def sY:Nat->(List Int)->AT->Int->Option (List Int)
| 0,_,_,_=>none
| AA+1,a0,a1,a2=>
 (if a1.Op=2 then
  if a1.N<a2 then
   (jL AA a0 a1.N).bind fun y1=>
   some y1
  else
   some a0
 else
  some a0).bind fun x1=>
 (sX (sY AA) a1 a2 AA x1 0).bind fun x2=>
 some x2
def pJ (AA:Nat) (y2:Int) (y5:AV):Nat->(List Int)->Int->Option (List Int)
| 0,_,_=>none
| k+1,x10,x11=>
 if x11<(y5.AW.length:Int)then
  (idx y5.AW x11).bind fun y9=>
  (sY AA x10 y9 y2).bind fun y10=>
  (chk (x11+1)).bind fun z1=>
  pJ AA y2 y5 k y10 z1
 else
  some x10
def xQ (AA:Nat) (a0:AI) (y2:Int) (y3:List Int):Nat->(List Int)->Int->Option (List Int)
| 0,_,_=>none
| k+1,x4,x5=>
 if x5<(y3.length:Int)then
  ((idx y3 x5).bind fun y4=>
  (idx a0.AD y4).bind fun y5=>
  (if y5.Op=2 then
   if y5.N<y2 then
    (jL AA x4 y5.N).bind fun y6=>
    some y6
   else
    some x4
  else
   if y5.Op=6 then
    if y5.N<y2 then
     (jL AA x4 y5.N).bind fun y7=>
     some y7
    else
     some x4
   else
    if y5.Op=8 then
     if y5.N<y2 then
      (jL AA x4 y5.N).bind fun y8=>
      some y8
     else
      some x4
    else
     some x4).bind fun x7=>
  pJ AA y2 y5 AA x7 0).bind fun x6=>
  (chk (x5+1)).bind fun z2=>
  xQ AA a0 y2 y3 k x6 z2
 else
  some x4
def kW (AA:Nat) (a0:AI) (a1:Int):Option (List Int):=
 (aAT AA (⟨a0.AH,a0.AD,a0.AF,a0.AG⟩:AI)).bind fun y1=>
 (idx y1 a1).bind fun y2=>
 (aFr AA (⟨a0.AH,a0.AD,a0.AF,a0.AG⟩:AI) a1).bind fun y3=>
 (xQ AA a0 y2 y3 AA [] 0).bind fun x1=>
 some x1
def zC (AA:Nat) (a0:AI) (y6:AN):Nat->(List Int)->Int->Option (List Int)
| 0,_,_=>none
| k+1,x4,x5=>
 if x5<(y6.AP.length:Int)then
  (idx y6.AP x5).bind fun y7=>
  (kW AA (⟨a0.AH,a0.AD,a0.AF,a0.AG⟩:AI) y7.AU).bind fun y8=>
  (cQ (x4++y8)).bind fun z1=>
  (chk (x5+1)).bind fun z2=>
  zC AA a0 y6 k z1 z2
 else
  some x4
def zW (AA:Nat) (a0:AI) (y6:AN):Nat->(List Int)->Int->Option (List Int)
| 0,_,_=>none
| k+1,x9,x10=>
 if x10<(y6.AS.length:Int)then
  (idx y6.AS x10).bind fun y9=>
  (kW AA (⟨a0.AH,a0.AD,a0.AF,a0.AG⟩:AI) y9.AU).bind fun y10=>
  (cQ (x9++y10)).bind fun z3=>
  (chk (x10+1)).bind fun z4=>
  zW AA a0 y6 k z3 z4
 else
  some x9
def vF (y4:Int) (x6:List Int):Nat->(List Bool)->Int->Option (List Bool)
| 0,_,_=>none
| k+1,x14,x15=>
 if x15<(x6.length:Int)then
  ((idx x6 x15).bind fun y11=>
  if y11<y4 then
   (idx x6 x15).bind fun y12=>
   (idx x14 y12).bind fun y13=>
   some (x14.set y12.toNat true)
  else
   some x14).bind fun x16=>
  (chk (x15+1)).bind fun z5=>
  vF y4 x6 k x16 z5
 else
  some x14
def zP (y4:Int) (x11:List Bool):Nat->(List Int)->Int->Option (List Int)
| 0,_,_=>none
| k+1,x20,x21=>
 if x21<y4 then
  ((idx x11 x21).bind fun y14=>
  bif y14 then
   (cQ (x20++[x21])).bind fun z6=>
   some z6
  else
   some x20).bind fun x22=>
  (chk (x21+1)).bind fun z7=>
  zP y4 x11 k x22 z7
 else
  some x20
def nG (AA:Nat) (a0:AI) (a1:Int):Option (List Int):=
 (idx a0.AD a1).bind fun y1=>
 if y1.Op≠4 then
  (kW AA (⟨a0.AH,a0.AD,a0.AF,a0.AG⟩:AI) a1).bind fun y2=>
  some y2
 else
  (aAT AA (⟨a0.AH,a0.AD,a0.AF,a0.AG⟩:AI)).bind fun y3=>
  (idx y3 a1).bind fun y4=>
  (mk false y4).bind fun y5=>
  (idx a0.AF y1.N).bind fun y6=>
  (zC AA a0 y6 AA [] 0).bind fun x1=>
  (zW AA a0 y6 AA x1 0).bind fun x6=>
  (vF y4 x6 AA y5 0).bind fun x11=>
  (zP y4 x11 AA [] 0).bind fun x17=>
  some x17
def aAG (a0:AN) (a1:Ai):Nat->Int->Int->Option ((Int) ⊕ (Int))
| 0,_,_=>none
| k+1,x4,x5=>
 if x5<(a1.Ab.length:Int)then
  (idx a1.Ab x5).bind fun y1=>
  if y1<0 then
   (some (-1)).bind fun r=>some (Sum.inr r)
  else
   if (a0.AQ.length:Int)<=y1 then
    (some (-1)).bind fun r=>some (Sum.inr r)
   else
    (idx a0.AQ y1).bind fun y2=>
    if y2.Ap<0 then
     (some (-1)).bind fun r=>some (Sum.inr r)
    else
     (idx a0.AQ y1).bind fun y3=>
     if 3<y3.Ap then
      (some (-1)).bind fun r=>some (Sum.inr r)
     else
      (idx a0.AQ y1).bind fun y4=>
      (chk (x4+y4.Ap)).bind fun z1=>
      (chk (x5+1)).bind fun z2=>
      aAG a0 a1 k z1 z2
 else
  some (Sum.inl x4)
def aB3 (AA:Nat) (a0:AN) (a1:Ai):Option (Int):=
 if 3<(a1.Ab.length:Int)then
  some (-1)
 else
  (aAG a0 a1 AA 0 0).bind fun o=>match o with
  | Sum.inr r=>some r
  | Sum.inl x1=>
  some x1
open Go.SX Go.SW Go.Dt
theorem bsm {α γ:Type} {a:α} {f:α->Option γ}:(some a).bind f=f a:=by
 cases h:f a <;> simp [h]
theorem iP {α:Type} {xs:List α} {i:Nat} {y:α} (h:xs[i]? =some y):idx xs (i:Int)=some y:=by
 unfold idx;rw [a2d (by omega)];simpa using h
theorem aX {α:Type} (AB AC:List α) (y:α):idx (AB++y :: AC) (AB.length:Int)=some y:=iP (by simp)
theorem aM {i:Int} (h:-9000000000000000000<=i/\i<=9000000000000000000):chk i=some i:=by unfold chk;rw [a2d (by omega)]
theorem aV {α:Type} (AB AC:List α) (y:α):(AB.length:Int)<((AB++y :: AC).length:Int):=by simp;omega
theorem bA {α:Type} (AB AC:List α) (y:α):AB++y :: AC=(AB++[y])++AC:=by simp
theorem aU {α:Type} (AB:List α) (y:α):(AB.length:Int)+1=((AB++[y]).length:Int):=by simp
theorem jU (e:AT):(⟨e.Op,e.N,e.AO⟩:AT)=e:=by cases e;rfl
def flaw:Value:= .iface 245 (.agg ([(.int .i64 2)]:List Value).toArray)
theorem eB:bI true=some (.inl ()):=rfl
theorem cN:bI false=some (.inr flaw):=rfl
mutual
def nE:AT->Nat
 | ⟨_,_,ks⟩=>1+nL ks
def nL:List AT->Nat
 | []=>0
 | k :: ks=>nE k+nL ks
end
mutual
def dE:AT->Nat
 | ⟨_,_,ks⟩=>1+dL ks
def dL:List AT->Nat
 | []=>0
 | k :: ks=>max (dE k) (dL ks)
end
def loc (s op n:Int) (l:Nat):Bool:=
 if op=1 then decide (-1000000000<=n/\n<=1000000000/\l=0) else if op=2 then decide (0<=n/\n<s/\l=0) else decide (3<=op/\op<=7/\n=0/\l=2)
mutual
def fE (s:Int):AT->Bool
 | ⟨op,n,ks⟩=>loc s op n ks.length && fL s ks
def fL (s:Int):List AT->Bool
 | []=>true
 | k :: ks=>fE s k && fL s ks
end
theorem nE_pos (e:AT):1<=nE e:=by cases e;simp only [nE];omega
theorem qF:∀ l:List AT,l.length<=nL l
 | []=>by simp [nL]
 | k :: ks=>by have:=qF ks;have:=nE_pos k;simp only [nL,a0S];omega
theorem gV:∀ {l:List AT} {e:AT},e∈l->nE e<=nL l
 | k :: ks,e,h=>by
  simp only [nL];cases h with
  | head=>omega
  | tail _ h=>have:=gV h;omega
def okE (s:Int) (e:AT):Bool:=fE s e && decide (dE e<=12) && decide (nE e<=60)
def exR (s d w:Int) (e:AT):Int ⊕ Value:=if fE s e=true/\d+dE e<=13/\w+nE e<=60 then .inl (w+nE e) else .inr flaw
theorem aFN {rec:AT->Int->Int->Int->Option (Int ⊕ Value)} {op n d s:Int} (hd:0<=d/\d<=12):
 ∀ (AC AB:List AT) (k:Nat) (w:Int),AC.length<k->AB.length+AC.length<=1000000000->0<=w->w<=60->(∀ e∈AC,∀ w:Int,0<=w->w<=60->rec e (d+1) w s=some (exR s (d+1) w e)) ->
  nV rec ⟨op,n,AB++AC⟩ d s k AB.length w=some (if fL s AC=true/\d+1+dL AC<=13/\w+nL AC<=60 then .inl (w+nL AC) else .inr flaw)
 | [],AB,k+1,w,_,_,h0,h1,_=>by
  rw [nV,a2c (by simp),a2d ⟨rfl,by simp [dL];omega,by simpa [nL]⟩];simp [nL]
 | e :: AC,AB,k+1,w,hk,hB,h0,h1,hr=>by
  rw [nV,a2d (aV _ _ _),aX];have hr1:=hr e (.head _) w h0 h1;simp only [a0S]at hk hB;simp only [bsm,aM (i:=d+1) (by omega)];rw [jU,hr1];simp only [bsm,exR];have hn:=nE_pos e;by_cases hc:fE s e=true/\d+1+dE e<=13/\w+nE e<=60
  ·rw [a2d hc];simp only [aM (i:=(AB.length:Int)+1) (by omega),bsm];rw [bA,aU,aFN hd AC (AB++[e]) k _ (by omega) (by simp;omega) (by omega) hc.2.2 (fun x hx=>hr x (.tail _ hx))];congr 1
   by_cases hs:fL s AC=true/\d+1+dL AC<=13/\w+nE e+nL AC<=60
   ·rw [a2d hs,a2d ⟨by simp [fL,hc.1,hs.1],by simp only [dL];omega,by simp only [nL];omega⟩];simp only [nL,Int.natCast_add];congr 1;omega
   ·rw [a2c hs,a2c];rintro⟨g1,g2,g3⟩
    simp only [fL,a0k]at g1;simp only [dL]at g2;simp only [nL]at g3;exact hs ⟨g1.2,by omega,by omega⟩
  ·rw [a2c hc];dsimp only
   rw [a2c];rintro⟨g1,g2,g3⟩
   simp only [fL,a0k]at g1;simp only [dL]at g2;simp only [nL]at g3;exact hc ⟨g1.1,by omega,by omega⟩
theorem aEP:∀ (AA:Nat) (e:AT) (d w s:Int),nE e<AA->nE e<=1000000000->0<=d->d<=1000->0<=w->w<=60->lZ AA e d w s=some (exR s d w e)
 | AA+1,⟨op,n,ks⟩,d,w,s,hf,hB,hd,hd2,hw,hw2=>by
  rw [lZ];simp only [nE]at hf hB;have hlen:=qF ks;simp only [aM (i:=w+1) (by omega),bsm];have hdE:dE ⟨op,n,ks⟩=1+dL ks:=by simp only [dE]
  have hnE:nE ⟨op,n,ks⟩=1+nL ks:=by simp only [nE]
  have hfE:fE s ⟨op,n,ks⟩=(loc s op n ks.length && fL s ks):=by simp only [fE]
  by_cases h1:w+1<=60/\d<=12
  ·by_cases h2:loc s op n ks.length=true
   ·have hloop:=aFN (rec:=lZ AA) (op:=op) (n:=n) (s:=s) ⟨hd,h1.2⟩ ks [] AA (w+1) (by omega) (by simp;omega) (by omega) h1.1
     (fun e he w h0 h60=>aEP AA e (d+1) w s (by have:=gV he;omega) (by have:=gV he;omega) (by omega) (by omega) h0 h60)
    simp only [a1n,a0W,a0q]at hloop;have hres:(some (if fL s ks=true/\d+1+(dL ks:Int)<=13/\w+1+(nL ks:Int)<=60 then Sum.inl (w+1+(nL ks:Int)) else Sum.inr flaw):Option (Int ⊕ Value))=some (exR s d w ⟨op,n,ks⟩):=by
     unfold exR;rw [hdE,hnE,hfE,h2];congr 1
     by_cases hc:fL s ks=true/\d+1+(dL ks:Int)<=13/\w+1+(nL ks:Int)<=60
     ·rw [a2d hc,a2d ⟨by simp [hc.1],by omega,by omega⟩];congr 1;omega
     ·rw [a2c hc,a2c];rintro⟨g1,g2,g3⟩
      exact hc ⟨by simpa using g1,by omega,by omega⟩
    rw [<- hres,<- hloop];unfold loc at h2;rw [a2d h1.1,a2a h1.2,eB];simp only [bsm];by_cases o1:op=1
    ·rw [a2d o1]at h2 ⊢;obtain⟨a,b,c⟩:=of_decide_eq_true h2;rw [a2d a,a2d b,a2a (by omega),eB];rfl
    ·rw [a2c o1]at h2 ⊢;by_cases o2:op=2
     ·rw [a2d o2]at h2 ⊢;obtain⟨a,b,c⟩:=of_decide_eq_true h2;rw [a2d a,a2d b,a2a (by omega),eB];rfl
     ·rw [a2c o2]at h2 ⊢;obtain⟨a,b,c,e⟩:=of_decide_eq_true h2;have:((if op=3 then some (decide (op=3)) else if op=4 then some (decide (op=4)) else if op=5 then some (decide (op=5)) else if op=6 then some (decide (op=6)) else some (decide (op=7))):Option Bool)=some true:=by
       split;· simp_all
       split;· simp_all
       split;· simp_all
       split;· simp_all
       rw [a2a (by omega)]
      rw [this];simp only [bsm,a1Y];rw [a2d c,a2a (by omega),eB];rfl
   ·have hr:exR s d w ⟨op,n,ks⟩= .inr flaw:=by
     unfold exR;rw [a2c];rintro⟨g,_⟩;rw [hfE]at g;simp [h2]at g
    rw [hr,a2d h1.1,a2a h1.2,eB];simp only [bsm];unfold loc at h2;by_cases o1:op=1
    ·rw [a2d o1]at h2 ⊢;simp only [a2b]at h2;by_cases a:-1000000000<=n
     ·rw [a2d a];by_cases b:n<=1000000000
      ·rw [a2d b,a1Z (by omega),cN];rfl
      ·rw [a2c b,cN];rfl
     ·rw [a2c a,cN];rfl
    ·rw [a2c o1]at h2 ⊢;by_cases o2:op=2
     ·rw [a2d o2]at h2 ⊢;simp only [a2b]at h2;by_cases a:0<=n
      ·rw [a2d a];by_cases b:n<s
       ·rw [a2d b,a1Z (by omega),cN];rfl
       ·rw [a2c b,cN];rfl
      ·rw [a2c a,cN];rfl
     ·rw [a2c o2]at h2 ⊢;simp only [a2b]at h2;have:((if op=3 then some (decide (op=3)) else if op=4 then some (decide (op=4)) else if op=5 then some (decide (op=5)) else if op=6 then some (decide (op=6)) else some (decide (op=7))):Option Bool)=some (decide (3<=op/\op<=7)):=by
       split;· simp_all
       split;· simp_all
       split;· simp_all
       split;· simp_all
       congr 1;rw [decide_eq_decide];omega
      rw [this];simp only [bsm];by_cases o3:3<=op/\op<=7
      ·rw [a2a o3];simp only [a1Y];by_cases a:n=0
       ·rw [a2d a,a1Z (by omega),cN];rfl
       ·rw [a2c a,cN];rfl
      ·rw [a1Z o3,cN];rfl
  ·have hr:exR s d w ⟨op,n,ks⟩= .inr flaw:=by
    unfold exR;rw [a2c];rintro⟨_,g2,g3⟩;rw [hdE]at g2;rw [hnE]at g3;omega
   rw [hr];by_cases h2:w+1<=60
   ·rw [a2d h2,a1Z (by omega),cN];rfl
   ·rw [a2c h2,cN];rfl
theorem exp_eq {AA:Nat} {e:AT} {s:Int} (hf:nE e<AA) (hB:nE e<=1000000000):yE AA e s=some (if okE s e=true then .inl () else .inr flaw):=by
 rw [yE,jU,aEP AA e 1 0 s hf hB (by omega) (by omega) (by omega) (by omega)]
 simp only [bsm,exR]
 by_cases h:fE s e=true/\(1:Int)+dE e<=13/\(0:Int)+nE e<=60
 ·have h':okE s e=true:=by
   simp only [okE,a0k,a2b];exact⟨⟨h.1,by omega⟩,by omega⟩
  rw [a2d h,a2d h']
 ·have h':¬ okE s e=true:=by
   simp only [okE,a0k,a2b];intro g;exact h ⟨g.1.1,by omega,by omega⟩
  rw [a2c h,a2c h']
theorem aIe {rec:AT->Int->Option Int} {op n most:Int} (hm:-1000000000<=most/\most<=1000000000) (AC:List AT):
 ∀ (AB:List AT) (k:Nat) (w:Int),AC.length<k->AB.length+AC.length<=1000000000->0<=w->w+nL AC<=1000000000->(∀ e∈AC,∀ m:Int,-1000000000<=m->m<=1000000000->∃ v,rec e m=some v/\0<=v/\v<=nE e/\((nE e:Int)<=m->v=nE e)/\(m<nE e->m<v)) ->
  ∃ v,yX rec ⟨op,n,AB++AC⟩ most k w AB.length=some v/\0<=v/\v<=w+nL AC/\(w+(nL AC:Int)<=most->v=w+nL AC)/\(most<w+nL AC->most<v):=by
 induction AC with
 | nil=>
  intro AB k w hk _ h0 _ _;obtain _ | k:=k
  ·omega
  refine⟨w,?_,h0,by simp only [nL];omega,fun _=>by simp only [nL];omega,fun h=>by simp only [nL]at h;omega⟩
  rw [yX,a2c (by simp)]
 | cons e AC ih=>
  intro AB k w hk hB h0 hW hr;obtain _ | k:=k
  ·omega
  simp only [a0S]at hk hB;simp only [nL]at hW ⊢;rw [yX,a2d (aV _ _ _)];by_cases hw:w<=most
  ·rw [a2d hw];simp only [aX,bsm,aM (i:=most - w) (by omega)];obtain⟨v,h1,h2,h3,h4,h5⟩:=hr e (.head _) (most - w) (by omega) (by omega)
   simp only [h1,bsm,aM (i:=w+v) (by omega),aM (i:=(AB.length:Int)+1) (by omega)];rw [bA,aU];obtain⟨u,g1,g2,g3,g4,g5⟩:=ih (AB++[e]) k (w+v) (by omega) (by simp;omega) (by omega) (by omega) (fun x hx=>hr x (.tail _ hx))
   refine⟨u,g1,g2,by omega,fun h=>?_,fun h=>?_⟩
   ·have:=h4 (by omega);have:=g4 (by omega);omega
   ·by_cases hv:(nE e:Int)<=most - w
    ·have:=h4 hv;exact g5 (by omega)
    ·have:=h5 (by omega);exact g5 (by omega)
  ·rw [a2c hw];exact⟨w,rfl,h0,by omega,fun h=>by omega,fun _=>by omega⟩
theorem nodes_eq (AA:Nat):∀ (e:AT) (m:Int),nE e<AA->nE e<=1000000000-> -1000000000<=m->m<=1000000000->∃ v,wL AA e m=some v/\0<=v/\v<=nE e/\((nE e:Int)<=m->v=nE e)/\(m<nE e->m<v):=by
 induction AA with
 | zero=>intro e m h;omega
 | succ AA ih=>
  intro ⟨op,n,ks⟩ m hf hB h0 h1
  simp only [nE]at hf hB ⊢;have hlen:=qF ks;obtain⟨v,g1,g2,g3,g4,g5⟩:=aIe (rec:=wL AA) (op:=op) (n:=n) ⟨h0,h1⟩ ks [] AA 1 (by omega) (by simp;omega) (by omega) (by omega)
   (fun e he m h0 h1=>ih e m (by have:=gV he;omega) (by have:=gV he;omega) h0 h1)
  simp only [a1n,a0W,a0q]at g1;exact⟨v,by rw [wL,g1];rfl,g2,by omega,fun h=>by have:=g4 (by omega);omega,fun h=>g5 (by omega)⟩
theorem aIU {rec:AT->Option Int} {op n:Int} (AC:List AT):
 ∀ (AB:List AT) (k:Nat) (w:Int),AC.length<k->AB.length+AC.length<=1000000000->0<=w->(∀ e∈AC,rec e=some (dE e:Int)) ->
  vP rec ⟨op,n,AB++AC⟩ k w AB.length=some (max w (dL AC:Int)):=by
 induction AC with
 | nil=>
  intro AB k w hk _ h0 _;obtain _ | k:=k
  ·omega
  rw [vP,a2c (by simp)];simp only [dL];congr 1;omega
 | cons e AC ih=>
  intro AB k w hk hB h0 hr;obtain _ | k:=k
  ·omega
  simp only [a0S]at hk hB;rw [vP,a2d (aV _ _ _)];simp only [aX,bsm,hr e (.head _),aM (i:=(AB.length:Int)+1) (by omega)];rw [bA,aU,ih (AB++[e]) k _ (by omega) (by simp;omega) (by omega) (fun x hx=>hr x (.tail _ hx))];simp only [dL];congr 1;omega
theorem dE_le:(∀ e,dE e<=nE e)/\∀ l,dL l<=nL l:=by
 refine⟨fun e=>?_,fun l=>?_⟩
 ·exact go e
 ·exact goL l
where
 go:∀ e,dE e<=nE e
  | ⟨_,_,ks⟩=>by have:=goL ks;simp only [dE,nE];omega
 goL:∀ l,dL l<=nL l
  | []=>by simp [dL]
  | k :: ks=>by have:=go k;have:=goL ks;simp only [dL,nL];omega
theorem depth_eq (AA:Nat):∀ (e:AT),nE e<AA->nE e<=1000000000->wO AA e=some (dE e:Int):=by
 induction AA with
 | zero=>intro e h;omega
 | succ AA ih=>
  intro ⟨op,n,ks⟩ hf hB
  simp only [nE]at hf hB;have hlen:=qF ks;have h:=aIU (rec:=wO AA) (op:=op) (n:=n) ks [] AA 0 (by omega) (by simp;omega) (by omega) (fun e he=>ih e (by have:=gV he;omega) (by have:=gV he;omega))
  simp only [a1n,a0W,a0q]at h;have hd:=dE_le.2 ks;rw [wO,h,show max (0:Int) (dL ks:Int)=dL ks from by omega];simp only [bsm,aM (i:=(dL ks:Int)+1) (by omega),dE];congr 1;omega
theorem aJI (AA:Nat):∀ (e:AT) (s:Int),nE e<AA->zT AA e s=some (fE s e):=by
 induction AA with
 | zero=>intro e s h;omega
 | succ AA ih=>
  intro ⟨op,n,ks⟩ s hf
  simp only [nE]at hf;rw [zT];simp only [fE,loc];by_cases o1:op=1
  ·rw [a2d o1,a2d o1];by_cases c:(ks.length:Int)=0
   ·have hk:ks=[]:=a0z (by omega)
    subst hk;rw [a2d c];by_cases a:-1000000000<=n
    ·rw [a2d a];simp [a,fL]
    ·rw [a2c a];simp [a,fL]
   ·rw [a2c c];have:¬ ks.length=0:=by omega
    simp [this]
  ·rw [a2c o1,a2c o1];by_cases o2:op=2
   ·rw [a2d o2,a2d o2];by_cases c:(ks.length:Int)=0
    ·have hk:ks=[]:=a0z (by omega)
     subst hk;rw [a2d c];by_cases a:0<=n
     ·rw [a2d a];simp [a,fL]
     ·rw [a2c a];simp [a,fL]
    ·rw [a2c c];have:¬ ks.length=0:=by omega
     simp [this]
   ·rw [a2c o2,a2c o2];by_cases a:op<3
    ·rw [a2d a];simp;intro _;omega
    ·rw [a2c a];by_cases b:7<op
     ·rw [a2d b];simp;intro _;omega
     ·rw [a2c b];by_cases c:(ks.length:Int)≠2
      ·rw [a2d c];simp;intro _ _ _;omega
      ·rw [a2c c];by_cases e:n≠0
       ·rw [a2d e];simp [e]
       ·rw [a2c e];match ks,c,hf with
        | [x,y],_,hf=>
         simp only [nL]at hf;have h1:=ih x s (by omega)
         have h2:=ih y s (by omega)
         have i0:idx [x,y] 0=some x:=rfl;have i1:idx [x,y] 1=some y:=rfl;have:decide (3<=op/\op<=7/\n=0/\[x,y].length=2)=true:=a2a ⟨by omega,by omega,by omega,rfl⟩
         rw [this];simp only [i0,i1,h1,h2,bsm,fL,a0p,Bool.and_true];cases fE s x <;> simp
        | [],c,_=>simp at c
        | [_],c,_=>simp at c
        | _ :: _ :: _ :: _,c,_=>simp at c;omega
theorem aIo {AA:Nat} {e:AT} {s:Int} (hf:nE e<AA) (hB:nE e<=1000000000):aCN AA e s=some (okE s e):=by
 obtain⟨v,h1,h2,h3,h4,h5⟩:=nodes_eq AA e 60 hf hB (by omega) (by omega)
 rw [aCN,jU,h1,depth_eq AA e hf hB,aJI AA e s hf]
 simp only [bsm,okE]
 by_cases hn:(nE e:Int)<=60
 ·rw [h4 hn,a2d hn];by_cases hd:(dE e:Int)<=12
  ·rw [a2d hd];have h1:dE e<=12:=by omega
   have h2:nE e<=60:=by omega
   simp [h1,h2]
  ·rw [a2c hd];have:¬ dE e<=12:=by omega
   simp [this]
 ·have:=h5 (by omega)
  rw [a2c (by omega)];have:¬ nE e<=60:=by omega
  simp [this]
open Go.SX Go.SW Go.Dt
def fU (n:Nat) (c:An):Bool:=decide (0<=c.At/\c.At<=(n:Int)/\0<=c.Ap/\c.Ap<=3)
def kI:Nat->List Am->Bool
 | _,[]=>true
 | i,s :: l=>decide (0<=s.In/\s.In<=(i:Int)) && kI (i+1) l
def lW (chans:List An) (at_:Int):List Int->List Int->List Bool->Option (List Bool)
 | _,[],u=>some u
 | AB,c :: js,u=>match idx chans c with
  | some ch=>if ch.At=at_/\c ∉ AB then lW chans at_ (AB++[c]) js (u.set c.toNat true) else none
  | none=>none
def okR (n:Nat) (r:Ai):Prop:=0<=r.At/\r.At<=(n:Int)/\1<=r.Ab.length/\r.Ab.length<=3
instance {n:Nat} {r:Ai}:Decidable (okR n r):=by unfold okR;infer_instance
def iZ (chans:List An) (n:Nat):List Ai->List Bool->Option (List Bool)
 | [],u=>some u
 | r :: rs,u=>if okR n r then(lW chans r.At [] r.Ab u).bind (iZ chans n rs) else none
def okU (o:Option (List Bool)):Bool:=match o with
 | some u=>u.all id
 | none=>false
def okD (d:AN):Bool:=decide (d.AQ.length<=30/\d.AS.length<=30/\d.AP.length<=30) && d.AQ.all (fU d.AS.length) && kI 0 d.AS && okU (iZ d.AQ d.AS.length d.AP (List.replicate d.AQ.length false))
def smD (d:AN):Prop:=d.AQ.length<=2000000/\d.AS.length<=2000000/\d.AP.length<=2000000/\∀ r∈d.AP,r.Ab.length<=2000000
theorem eS {α:Type} {xs:List α} {i:Int} (h0:0<=i) (h1:i<xs.length):∃ y,idx xs i=some y:=by
 unfold idx;rw [a2d h0];exact⟨xs[i.toNat]'(by omega),by simp⟩
theorem aCb {α:Type} {xs:List α} {i:Int} (h:¬ (0<=i/\i<xs.length)):idx xs i=none:=by
 unfold idx;split
 ·simp;omega
 ·rfl
theorem aK8 {c:Int} (AC:List Int):∀ (AB:List Int) (k:Nat),AC.length<k->AB.length+AC.length<=3000000->c ∉ AB ->
 ∃ r,lX (AB++AC) c k AB.length=some r/\((c∈AC/\∃ i:Int,r= .inr i/\0<=i)\/(c ∉ AC/\r= .inl ())):=by
 induction AC with
 | nil=>
  intro AB k hk _ _;obtain _ | k:=k
  ·omega
  exact⟨_,by rw [lX,a2c (by simp)], .inr ⟨by simp,rfl⟩⟩
 | cons e AC ih=>
  intro AB k hk hB hn;obtain _ | k:=k
  ·omega
  simp only [a0S]at hk hB;by_cases he:c=e
  ·exact⟨_,by rw [lX,a2d (aV _ _ _),aX,bsm,a2d he];rfl, .inl ⟨by simp [he],_,rfl,by omega⟩⟩
  ·obtain⟨r,h1,h2⟩:=ih (AB++[e]) k (by omega) (by simp;omega) (by simp [hn,he])
   refine⟨r,?_,?_⟩
   ·rw [lX,a2d (aV _ _ _),aX,bsm,a2c he,aM (by omega),bsm,bA AB AC e,aU AB e];exact h1
   ·rcases h2 with⟨h2,h3⟩ | ⟨h2,h3⟩
    ·exact .inl ⟨by simp [h2],h3⟩
    ·exact .inr ⟨by simp [h2,he],h3⟩
theorem aKD {AA:Nat} {l:List Int} {c:Int} (hf:l.length<AA) (hB:l.length<=3000000):zM AA l c=some (decide (c∈l)):=by
 obtain⟨r,h1,h2⟩:=aK8 (c:=c) l [] AA hf (by simpa using hB) (by simp)
 simp only [a1n,a0W,a0q]at h1
 rw [zM,aAn,h1]
 rcases h2 with⟨h2,i,rfl,h3⟩ | ⟨h2,rfl⟩
 ·simp [h2,h3]
 ·simp [h2]
theorem aEA {a:Int} {d:AN}:tQ a d=some (if 0<=a/\a<=(d.AS.length:Int)then .inl () else .inr flaw):=by
 rw [tQ]
 by_cases h:0<=a
 ·rw [a2d h];by_cases h2:a<=(d.AS.length:Int)
  ·rw [a2a h2,eB,a2d ⟨h,h2⟩];rfl
  ·rw [a1Z h2,cN,a2c (fun g=>h2 g.2)];rfl
 ·rw [a2c h,cN,a2c (fun g=>h g.1)];rfl
theorem dl1 {sp:List Am} {ru:List Ai} (AC:List An):∀ (AB:List An) (k:Nat),AC.length<k->AB.length+AC.length<=3000000 ->
 oH ⟨AB++AC,sp,ru⟩ k AB.length=some (if AC.all (fU sp.length)=true then .inl () else .inr (.inr flaw)):=by
 induction AC with
 | nil=>
  intro AB k hk _;obtain _ | k:=k
  ·omega
  rw [oH,a2c (by simp),a2d (by rfl)]
 | cons e AC ih=>
  intro AB k hk hB;obtain _ | k:=k
  ·omega
  simp only [a0S]at hk hB;rw [oH,a2d (aV _ _ _)];dsimp only
  rw [aX,bsm,aEA,bsm];simp only [List.all_cons,a0k];by_cases h1:0<=e.At/\e.At<=(sp.length:Int)
  ·rw [a2d h1];dsimp only
   by_cases h2:0<=e.Ap
   ·rw [a2d h2];by_cases h3:e.Ap<=3
    ·rw [a2a h3,eB,bsm,bsm];dsimp only
     rw [aM (by omega),bsm,bA AB AC e,aU AB e,ih (AB++[e]) k (by omega) (by simp;omega)];have:fU sp.length e=true:=a2a ⟨h1.1,h1.2,h2,h3⟩;simp [this]
    ·have hn:¬ (fU sp.length e=true/\AC.all (fU sp.length)=true):=by
      rintro⟨g,_⟩;exact h3 (of_decide_eq_true g).2.2.2
     rw [a1Z h3,cN,a2c hn];rfl
   ·have hn:¬ (fU sp.length e=true/\AC.all (fU sp.length)=true):=by
     rintro⟨g,_⟩;exact h2 (of_decide_eq_true g).2.2.1
    rw [a2c h2,cN,a2c hn];rfl
  ·have hn:¬ (fU sp.length e=true/\AC.all (fU sp.length)=true):=by
    rintro⟨g,_⟩;exact h1 ⟨(of_decide_eq_true g).1,(of_decide_eq_true g).2.1⟩
   rw [a2c h1,a2c hn];rfl
theorem dl2 {ch:List An} {ru:List Ai} (AC:List Am):∀ (AB:List Am) (k:Nat),AC.length<k->AB.length+AC.length<=3000000 ->
 mZ ⟨ch,AB++AC,ru⟩ k AB.length=some (if kI AB.length AC=true then .inl () else .inr (.inr flaw)):=by
 induction AC with
 | nil=>
  intro AB k hk _;obtain _ | k:=k
  ·omega
  rw [mZ,a2c (by simp),a2d (by rfl)]
 | cons e AC ih=>
  intro AB k hk hB;obtain _ | k:=k
  ·omega
  simp only [a0S]at hk hB;rw [mZ,a2d (aV _ _ _)];dsimp only
  rw [aX,bsm];simp only [kI,a0k,a2b];by_cases h2:0<=e.In
  ·rw [a2d h2];by_cases h3:e.In<=(AB.length:Int)
   ·rw [a2a h3,eB,bsm,bsm];dsimp only
    rw [aM (by omega),bsm,bA AB AC e,aU AB e,ih (AB++[e]) k (by omega) (by simp;omega)];simp [h2,h3]
   ·rw [a1Z h3,cN,a2c (fun g=>h3 g.1.2)];rfl
  ·rw [a2c h2,cN,a2c (fun g=>h2 g.1.1)];rfl
def Like (g:aG Int Bool) (u:List Bool):Prop:=(∀ i:Nat,g.get i=if u[i]? =some true then some true else none)/\g.size=u.countP id
theorem like_upd {g:aG Int Bool} {u:List Bool} {c:Int} (h:Like g u) (h0:0<=c) (h1:c<u.length):Like (aG.upd g c true) (u.set c.toNat true):=by
 obtain⟨n,rfl⟩:∃ n:Nat,c=n:=⟨c.toNat,by omega⟩
 have hn:n<u.length:=by omega
 simp only [a0r]
 refine⟨fun i=>?_,?_⟩
 ·simp only [aG.upd];by_cases hi:(i:Int)=n
  ·have:i=n:=by omega
   subst this;rw [a2d rfl];simp [hn]
  ·rw [a2c hi,h.1 i];have:n≠i:=by omega
   simp [this]
 ·simp only [aG.upd];rw [h.1 n,List.countP_set (h:=hn),h.2];have hge:u[n]? =some u[n]:=by simp [hn]
  rw [hge];cases hu:u[n]with
  | false=>simp
  | true=>
   have hpos:0<u.countP id:=a0x.2 ⟨u[n],List.getElem_mem hn,by simpa using hu⟩
   simp;omega
theorem dl4 {ch:List An} {sp:List Am} {ru:List Ai} {a nd:Int} (AC:List Int) {AA:Nat}:∀ (AB:List Int) (k:Nat) (g:aG Int Bool) (u:List Bool),AC.length<k->AB.length+AC.length<AA->AB.length+AC.length<=3000000->u.length=ch.length->Like g u ->
 (∃ u' g',lW ch a AB AC u=some u'/\u'.length=ch.length/\Like g' u'/\jH AA ⟨ch,sp,ru⟩ ⟨a,AB++AC,nd⟩ k AB.length g=some (.inl g')) \/
 (lW ch a AB AC u=none/\jH AA ⟨ch,sp,ru⟩ ⟨a,AB++AC,nd⟩ k AB.length g=some (.inr (.inr (.inr flaw)))):=by
 induction AC with
 | nil=>
  intro AB k g u hk _ _ hl hg;obtain _ | k:=k
  ·omega
  exact .inl ⟨u,g,rfl,hl,hg,by rw [jH,a2c (by simp)]⟩
 | cons e AC ih=>
  intro AB k g u hk hf hB hl hg;obtain _ | k:=k
  ·omega
  simp only [a0S]at hk hB hf;rw [jH,a2d (aV _ _ _)];dsimp only
  rw [aX,bsm];simp only [lW];by_cases h1:0<=e/\e<(ch.length:Int)
  ·obtain⟨y,hy⟩:=eS h1.1 h1.2;rw [a2d h1.1,a2d h1.2,hy,bsm];dsimp only
   by_cases h2:y.At=a
   ·rw [a2d h2];have hs:slc (AB++e :: AC) 0 AB.length=some AB:=by
     unfold slc;rw [a2d ⟨by omega,by omega,by simp;omega⟩];simp
    rw [hs,bsm,aKD (by omega) (by omega),bsm];by_cases h3:e∈AB
    ·rw [a2a h3,a2c (fun q=>q.2 h3)];exact .inr ⟨rfl,by rw [show(!true)=false from rfl,cN];rfl⟩
    ·rw [a1Z h3,a2d ⟨h2,h3⟩,show(!false)=true from rfl,eB,bsm,bsm];dsimp only
     rw [aM (by omega),bsm,bA AB AC e,aU AB e];exact ih (AB++[e]) k _ _ (by omega) (by simp;omega) (by simp;omega) (by simpa using hl) (like_upd hg h1.1 (by omega))
   ·rw [a2c h2,cN,a2c (fun q=>h2 q.1)];exact .inr ⟨rfl,rfl⟩
  ·rw [aCb h1];refine .inr ⟨rfl,?_⟩;by_cases h0:0<=e
   ·rw [a2d h0,a2c (fun q=>h1 ⟨h0,q⟩),cN];rfl
   ·rw [a2c h0,cN];rfl
theorem dl3 {ch:List An} {sp:List Am} {AA:Nat} (AC:List Ai):∀ (AB:List Ai) (k:Nat) (g:aG Int Bool) (u:List Bool),AC.length<k->AB.length+AC.length<=3000000->2000000<AA->(∀ r∈AC,r.Ab.length<=2000000)->u.length=ch.length->Like g u ->
 (∃ u' g',iZ ch sp.length AC u=some u'/\u'.length=ch.length/\Like g' u'/\mD AA ⟨ch,sp,AB++AC⟩ k AB.length g=some (.inl g')) \/
 (iZ ch sp.length AC u=none/\mD AA ⟨ch,sp,AB++AC⟩ k AB.length g=some (.inr (.inr flaw))):=by
 induction AC with
 | nil=>
  intro AB k g u hk _ _ _ hl hg;obtain _ | k:=k
  ·omega
  exact .inl ⟨u,g,rfl,hl,hg,by rw [mD,a2c (by simp)]⟩
 | cons e AC ih=>
  intro AB k g u hk hB hf hJ hl hg;obtain _ | k:=k
  ·omega
  simp only [a0S]at hk hB;have hj:=hJ e (.head _);rw [mD,a2d (aV _ _ _)];dsimp only
  rw [aX,bsm,aEA,bsm];simp only [iZ];by_cases h1:0<=e.At/\e.At<=(sp.length:Int)
  ·rw [a2d h1];dsimp only
   by_cases h2:0<(e.Ab.length:Int)
   ·rw [a2d h2];by_cases h3:(e.Ab.length:Int)<=3
    ·rw [a2a h3,eB,bsm,a2d (show okR sp.length e from⟨h1.1,h1.2,by omega,by omega⟩)];have h4:=dl4 (ch:=ch) (sp:=sp) (ru:=AB++e :: AC) (a:=e.At) (nd:=e.AU) e.Ab (AA:=AA) [] AA g u (by omega) (by simp;omega) (by simp;omega) hl hg
     simp only [a1n,a0W,a0q]at h4;rcases h4 with⟨u',g',a1,a2,a3,a4⟩ | ⟨a1,a4⟩
     ·rw [a1,bsm];have:((jH AA ⟨ch,sp,AB++e :: AC⟩ e AA 0 g)=some (.inl g')):=a4;dsimp only
      rw [bsm];dsimp only
      rw [this,bsm];dsimp only
      rw [aM (by omega),bsm,bA AB AC e,aU AB e];exact ih (AB++[e]) k g' u' (by omega) (by simp;omega) hf (fun r hr=>hJ r (.tail _ hr)) a2 a3
     ·rw [a1];have:((jH AA ⟨ch,sp,AB++e :: AC⟩ e AA 0 g)=some (.inr (.inr (.inr flaw)))):=a4;refine .inr ⟨rfl,?_⟩;dsimp only
      rw [bsm];dsimp only
      rw [this];rfl
    ·rw [a1Z h3,cN,a2c (show ¬ okR sp.length e from fun q=>h3 (by have:=q.2.2.2;omega))];exact .inr ⟨rfl,rfl⟩
   ·rw [a2c h2,cN,a2c (show ¬ okR sp.length e from fun q=>h2 (by have:=q.2.2.1;omega))];exact .inr ⟨rfl,rfl⟩
  ·rw [a2c h1,a2c (show ¬ okR sp.length e from fun q=>h1 ⟨q.1,q.2.1⟩)];exact .inr ⟨rfl,rfl⟩
theorem def_eq {AA:Nat} {d:AN} (hf:3000000<=AA) (hs:smD d):tY AA d=some (if okD d=true then .inl () else .inr flaw):=by
 obtain⟨ch,sp,ru⟩:=d
 obtain⟨s1,s2,s3,s4⟩:=hs
 dsimp only at s1 s2 s3 s4
 rw [tY]
 dsimp only
 have e1:=dl1 (sp:=sp) (ru:=ru) ch [] AA (by omega) (by simp;omega)
 have e2:=dl2 (ch:=ch) (ru:=ru) sp [] AA (by omega) (by simp;omega)
 have e3:=dl3 (ch:=ch) (sp:=sp) (AA:=AA) ru [] AA aG.none (List.replicate ch.length false) (by omega) (by simp;omega) (by omega) s4 (by simp) ⟨fun i=>by simp [aG.none,List.getElem?_replicate],by simp [aG.none,List.countP_replicate]⟩
 simp only [a1n,a0W,a0q]at e1 e2 e3
 by_cases l1:ch.length<=30
 ·rw [a2d (by omega)];by_cases l2:sp.length<=30
  ·rw [a2d (by omega)];by_cases l3:ru.length<=30
   ·rw [a2a (by omega),eB,bsm,bsm];dsimp only
    rw [e1,bsm];have hok:okD ⟨ch,sp,ru⟩=(ch.all (fU sp.length) && kI 0 sp && okU (iZ ch sp.length ru (List.replicate ch.length false))):=by
     simp only [okD];rw [a2a ⟨l1,l2,l3⟩];simp
    rw [hok];cases h1:ch.all (fU sp.length)with
    | false=>simp
    | true=>
     simp only [if_true,a0p];rw [e2,bsm];cases h2:kI 0 sp with
     | false=>simp
     | true=>
      simp only [if_true,a0p];rcases e3 with⟨u,g,a1,a2,a3,a4⟩ | ⟨a1,a4⟩
      ·rw [a4,bsm];dsimp only
       rw [a1];have hc:((g.size:Int)=(ch.length:Int)) ↔ okU (some u)=true:=by
        show _ ↔ u.all id=true
        rw [a3.2,<- a2,a0t];constructor
        ·intro h;exact List.countP_eq_length.1 (by omega)
        ·intro h;have:=List.countP_eq_length.2 h;omega
       by_cases hh:(g.size:Int)=(ch.length:Int)
       ·rw [a2a hh,eB,a2d (hc.1 hh)];rfl
       ·rw [a1Z hh,cN,a2c (fun q=>hh (hc.2 q))];rfl
      ·rw [a4,bsm,a1];simp [okU]
   ·rw [a1Z (by omega),cN,a2c];rfl
    intro g;simp only [okD,a0k,a2b]at g;exact l3 g.1.1.1.2.2
  ·rw [a2c (by omega),cN,a2c];rfl
   intro g;simp only [okD,a0k,a2b]at g;exact l2 g.1.1.1.2.1
 ·rw [a2c (by omega),cN,a2c];rfl
  intro g;simp only [okD,a0k,a2b]at g;exact l1 g.1.1.1.1
theorem rl1 {sp:List Am} {ru:List Ai} (AC:List An):∀ (AB:List An) (k:Nat),AC.length<k->AB.length+AC.length<=3000000 ->
 vW ⟨AB++AC,sp,ru⟩ k AB.length=some (if AC.all (fU sp.length)=true then .inl () else .inr false):=by
 induction AC with
 | nil=>
  intro AB k hk _;obtain _ | k:=k
  ·omega
  rw [vW,a2c (by simp),a2d (by rfl)]
 | cons e AC ih=>
  intro AB k hk hB;obtain _ | k:=k
  ·omega
  simp only [a0S]at hk hB;have hall:(e :: AC).all (fU sp.length)=(fU sp.length e && AC.all (fU sp.length)):=rfl;rw [vW,a2d (aV _ _ _),hall];dsimp only
  rw [aX,bsm];by_cases hc:fU sp.length e=true
  ·obtain⟨c1,c2,c3,c4⟩:=of_decide_eq_true hc;rw [a2c (by omega),bsm,a2c (by omega),bsm,a2c (by omega),bsm,a2c (by omega),aM (by omega),bsm,bA AB AC e,aU AB e,ih (AB++[e]) k (by omega) (by simp;omega),hc,a0p]
  ·have hf:fU sp.length e=false:=by simpa using hc
   rw [hf,Bool.false_and,a2c (show ¬ (false=true)from a0m)];have hd:¬ (0<=e.At/\e.At<=(sp.length:Int)/\0<=e.Ap/\e.Ap<=3):=of_decide_eq_false hf;by_cases c1:e.At<0
   ·rw [a2d c1];rfl
   ·rw [a2c c1,bsm];by_cases c2:(sp.length:Int)<e.At
    ·rw [a2d c2];rfl
    ·rw [a2c c2,bsm];by_cases c3:e.Ap<0
     ·rw [a2d c3];rfl
     ·rw [a2c c3,bsm,a2d (by omega)];rfl
theorem rl2 {ch:List An} {ru:List Ai} (AC:List Am):∀ (AB:List Am) (k:Nat),AC.length<k->AB.length+AC.length<=3000000 ->
 xP ⟨ch,AB++AC,ru⟩ k AB.length=some (if kI AB.length AC=true then .inl () else .inr false):=by
 induction AC with
 | nil=>
  intro AB k hk _;obtain _ | k:=k
  ·omega
  rw [xP,a2c (by simp),a2d (by rfl)]
 | cons e AC ih=>
  intro AB k hk hB;obtain _ | k:=k
  ·omega
  simp only [a0S]at hk hB;have hall:kI AB.length (e :: AC)=(decide (0<=e.In/\e.In<=(AB.length:Int)) && kI (AB.length+1) AC):=rfl;rw [xP,a2d (aV _ _ _),hall];dsimp only
  rw [aX,bsm];by_cases hc:0<=e.In/\e.In<=(AB.length:Int)
  ·have hp:(AB++[e]).length=AB.length+1:=by simp
   rw [a2c (by omega),bsm,a2c (by omega),aM (by omega),bsm,bA AB AC e,aU AB e,ih (AB++[e]) k (by omega) (by simp;omega),a2a hc,a0p,hp]
  ·rw [a1Z hc,Bool.false_and,a2c (show ¬ (false=true)from a0m)];by_cases c1:e.In<0
   ·rw [a2d c1];rfl
   ·rw [a2c c1,bsm,a2d (by omega)];rfl
theorem rl5 {a nd c:Int} {js:List Int} (AC:List Int):∀ (AB:List Int) (k:Nat) (post:List Int),js=AB++AC++post->AC.length<k->AB.length+AC.length<=3000000 ->
 vS ⟨a,js,nd⟩ (AB.length+AC.length:Nat) c k AB.length=some (if c∈AC then .inr (.inr (.inr (.inr false))) else .inl ()):=by
 induction AC with
 | nil=>
  intro AB k post _ hk _;obtain _ | k:=k
  ·omega
  rw [vS,a2c (by simp),a2c (by simp)]
 | cons e AC ih=>
  intro AB k post hj hk hB;obtain _ | k:=k
  ·omega
  simp only [a0S]at hk hB;have hi:idx js (AB.length:Int)=some e:=by rw [hj];exact iP (by simp)
  rw [vS,a2d (by simp;omega)];dsimp only
  rw [hi,bsm];by_cases hc:e=c
  ·rw [a2d hc,a2d (by simp [hc])];rfl
  ·have h:=ih (AB++[e]) k post (by simp [hj]) (by omega) (by simp;omega)
   have hl:(AB++[e]).length+AC.length=AB.length+(e :: AC).length:=by simp;omega
   rw [hl]at h;have hm:(c∈e :: AC) ↔ c∈AC:=by simp [Ne.symm hc]
   rw [a2c hc,aM (by omega),bsm,aU AB e,h];by_cases hs:c∈AC
   ·rw [a2d hs,a2d (hm.2 hs)]
   ·rw [a2c hs,a2c (fun q=>hs (hm.1 q))]
theorem rl4 {ch:List An} {sp:List Am} {ru:List Ai} {a nd:Int} (AC:List Int) {AA:Nat}:∀ (AB:List Int) (k:Nat) (u:List Bool),AC.length<k->AB.length+AC.length<AA->AB.length+AC.length<=3000000->u.length=ch.length ->
 (∃ u',lW ch a AB AC u=some u'/\u'.length=ch.length/\qO AA ⟨ch,sp,ru⟩ ⟨a,AB++AC,nd⟩ k u AB.length=some (.inl u')) \/
 (lW ch a AB AC u=none/\qO AA ⟨ch,sp,ru⟩ ⟨a,AB++AC,nd⟩ k u AB.length=some (.inr (.inr false))):=by
 induction AC with
 | nil=>
  intro AB k u hk _ _ hl;obtain _ | k:=k
  ·omega
  exact .inl ⟨u,rfl,hl,by rw [qO,a2c (by simp)]⟩
 | cons e AC ih=>
  intro AB k u hk hf hB hl;obtain _ | k:=k
  ·omega
  simp only [a0S]at hk hB hf;rw [qO,a2d (aV _ _ _)];dsimp only
  rw [aX,bsm];simp only [lW];by_cases h1:0<=e/\e<(ch.length:Int)
  ·obtain⟨y,hy⟩:=eS h1.1 h1.2;obtain⟨b,hb⟩:=eS (xs:=u) h1.1 (by omega)
   rw [hy,a2c (show ¬ e<0 by omega),a2c (show ¬ (ch.length:Int)<=e by omega),bsm];dsimp only
   by_cases h2:y.At=a
   ·have h5:=rl5 (a:=a) (nd:=nd) (c:=e) (js:=AB++e :: AC) AB [] AA (e :: AC) (by simp) (by omega) (by simp;omega)
    simp only [a0W,a1O,a0q]at h5;rw [a2c (show ¬ (y.At≠a)from fun q=>q h2),h5,bsm];by_cases h3:e∈AB
    ·rw [a2d h3,a2c (show ¬ (y.At=a/\e ∉ AB)from fun q=>q.2 h3)];exact .inr ⟨rfl,rfl⟩
    ·rw [a2c h3,a2d (show y.At=a/\e ∉ AB from⟨h2,h3⟩)];dsimp only
     rw [hb,bsm,bsm];dsimp only
     rw [aM (by omega),bsm,bA AB AC e,aU AB e];exact ih (AB++[e]) k _ (by omega) (by simp;omega) (by simp;omega) (by simpa using hl)
   ·rw [a2d (show y.At≠a from h2),a2c (show ¬ (y.At=a/\e ∉ AB)from fun q=>h2 q.1)];exact .inr ⟨rfl,rfl⟩
  ·rw [aCb h1];refine .inr ⟨rfl,?_⟩;by_cases h0:e<0
   ·rw [a2d h0];rfl
   ·rw [a2c h0,a2d (by omega)];rfl
theorem rl3 {ch:List An} {sp:List Am} {AA:Nat} (AC:List Ai):∀ (AB:List Ai) (k:Nat) (u:List Bool),AC.length<k->AB.length+AC.length<=3000000->2000000<AA->(∀ r∈AC,r.Ab.length<=2000000)->u.length=ch.length ->
 (∃ u',iZ ch sp.length AC u=some u'/\u'.length=ch.length/\tD AA ⟨ch,sp,AB++AC⟩ k u AB.length=some (.inl u')) \/
 (iZ ch sp.length AC u=none/\tD AA ⟨ch,sp,AB++AC⟩ k u AB.length=some (.inr false)):=by
 induction AC with
 | nil=>
  intro AB k u hk _ _ _ hl;obtain _ | k:=k
  ·omega
  exact .inl ⟨u,rfl,hl,by rw [tD,a2c (by simp)]⟩
 | cons e AC ih=>
  intro AB k u hk hB hf hJ hl;obtain _ | k:=k
  ·omega
  simp only [a0S]at hk hB;have hj:=hJ e (.head _);rw [tD,a2d (aV _ _ _)];dsimp only
  rw [aX,bsm];simp only [iZ];by_cases h1:okR sp.length e
  ·obtain⟨c1,c2,c3,c4⟩:=h1;rw [a2d (show okR sp.length e from⟨c1,c2,c3,c4⟩),a2c (show ¬ e.At<0 by omega),a2c (show ¬ (sp.length:Int)<e.At by omega),a2c (show ¬ (e.Ab.length:Int)<1 by omega),a2c (show ¬ 3<(e.Ab.length:Int) by omega)];have h4:=rl4 (ch:=ch) (sp:=sp) (ru:=AB++e :: AC) (a:=e.At) (nd:=e.AU) e.Ab (AA:=AA) [] AA u (by omega) (by simp;omega) (by simp;omega) hl
   simp only [a1n,a0W,a0q]at h4;rcases h4 with⟨u',a1,a2,a4⟩ | ⟨a1,a4⟩
   ·have:((qO AA ⟨ch,sp,AB++e :: AC⟩ e AA u 0)=some (.inl u')):=a4;rw [a1,bsm,this,bsm];dsimp only
    rw [aM (by omega),bsm,bA AB AC e,aU AB e];exact ih (AB++[e]) k u' (by omega) (by simp;omega) hf (fun r hr=>hJ r (.tail _ hr)) a2
   ·have:((qO AA ⟨ch,sp,AB++e :: AC⟩ e AA u 0)=some (.inr (.inr false))):=a4;rw [a1,this];exact .inr ⟨rfl,rfl⟩
  ·rw [a2c h1];refine .inr ⟨rfl,?_⟩;unfold okR at h1;by_cases c1:e.At<0
   ·rw [a2d c1];rfl
   ·rw [a2c c1];by_cases c2:(sp.length:Int)<e.At
    ·rw [a2d c2];rfl
    ·rw [a2c c2];by_cases c3:(e.Ab.length:Int)<1
     ·rw [a2d c3];rfl
     ·rw [a2c c3,a2d (by omega)];rfl
theorem rl6 (AC:List Bool):∀ (AB:List Bool) (k:Nat),AC.length<k->AB.length+AC.length<=3000000->yA (AB++AC) k AB.length=some (if AC.all id=true then .inl () else .inr false):=by
 induction AC with
 | nil=>
  intro AB k hk _;obtain _ | k:=k
  ·omega
  rw [yA,a2c (by simp),a2d (by rfl)]
 | cons e AC ih=>
  intro AB k hk hB;obtain _ | k:=k
  ·omega
  simp only [a0S]at hk hB;rw [yA,a2d (aV _ _ _),aX,bsm];cases e with
  | false=>
   rw [a1X,show(false :: AC).all id=false from rfl,a2c a0m];rfl
  | true=>
   rw [a1Y,aM (by omega),bsm,bA AB AC true,aU AB true,ih (AB++[true]) k (by omega) (by simp;omega),show(true :: AC).all id=AC.all id from by simp]
theorem rdef_eq {AA:Nat} {d:AN} (hf:3000000<=AA) (hs:smD d):aDc AA d=some (okD d):=by
 obtain⟨ch,sp,ru⟩:=d
 obtain⟨s1,s2,s3,s4⟩:=hs
 dsimp only at s1 s2 s3 s4
 rw [aDc]
 dsimp only
 have e1:=rl1 (sp:=sp) (ru:=ru) ch [] AA (by omega) (by simp;omega)
 have e2:=rl2 (ch:=ch) (ru:=ru) sp [] AA (by omega) (by simp;omega)
 have e3:=rl3 (ch:=ch) (sp:=sp) (AA:=AA) ru [] AA (List.replicate ch.length false) (by omega) (by simp;omega) (by omega) s4 (by simp)
 simp only [a1n,a0W,a0q]at e1 e2 e3
 have hmk:mk false (ch.length:Int)=some (List.replicate ch.length false):=by unfold mk;rw [a2d (by omega)];simp
 have hok:okD ⟨ch,sp,ru⟩=(decide (ch.length<=30/\sp.length<=30/\ru.length<=30) && ch.all (fU sp.length) && kI 0 sp && okU (iZ ch sp.length ru (List.replicate ch.length false))):=rfl
 by_cases l1:30<ch.length
 ·rw [a2d (by omega),hok,a1Z (by omega)];simp
 ·rw [a2c (by omega)];by_cases l2:30<sp.length
  ·rw [a2d (by omega),hok,a1Z (by omega)];simp
  ·rw [a2c (by omega)];by_cases l3:30<ru.length
   ·rw [a2d (by omega),hok,a1Z (by omega)];simp
   ·rw [a2c (by omega),e1,bsm,hok,a2a (by omega)];cases h1:ch.all (fU sp.length)with
    | false=>simp
    | true=>
     simp only [if_true,a0p];rw [e2,bsm];cases h2:kI 0 sp with
     | false=>simp
     | true=>
      simp only [if_true,a0p];rw [hmk,bsm];rcases e3 with⟨u,a1,a2,a4⟩ | ⟨a1,a4⟩
      ·have h6:=rl6 u [] AA (by omega) (by simp;omega)
       simp only [a1n,a0W,a0q]at h6;rw [a4,bsm,a1];dsimp only
       rw [h6,bsm];have:okU (some u)=u.all id:=rfl;rw [this];cases u.all id <;> simp
      ·rw [a4,bsm,a1];simp [okU]
open Go.SX Go.SW Go.Dt
structure VS where
 sz:List Int
 AR:List Bool
 AY:List Bool
def shp (op:Int):Option (Nat × Nat):=
 if op=1\/op=7 then some (0,0) else if op=3 then some (2,0) else if op=2 then some (0,1) else if op=5 then some (2,2) else if op=6\/op=8 then some (1,3) else if op=4 then some (1,4) else none
def okM (p:AI) (s:VS) (x:AV) (size:Int):Nat->Prop
 | 0=>x.N=0/\x.AW.length=0
 | 1=>(0<=x.N/\x.N<size)/\x.AW.length<=3
 | 2=>x.N=0/\x.AW.length=1
 | 3=>(0<=x.N/\x.N<size)/\x.AW.length=0
 | _=>(0<=x.N/\x.N<(p.AF.length:Int)/\idx s.AY x.N=some false)/\x.AW.length=0
def okN (p:AI) (s:VS) (x:AV) (size:Int):Prop:=(∃ k c,shp x.Op=some (k,c)/\x.AO.length=k/\okM p s x size c)/\x.AW.all (okE size)=true
def own (d:AN):Int:=(d.AQ.length:Int)+(d.AS.length:Int)
def brs (ch:List An):List Int->Int
 | []=>0
 | c :: js=>(match idx ch c with | some y=>y.Ap | none=>0)+brs ch js
def bY (g:VS->Int->Int->Option VS):VS->List (Int × Int)->Option VS
 | s,[]=>some s
 | s,x :: l=>(g s x.1 x.2).bind fun s=>bY g s l
open Classical in
noncomputable def vis (p:AI):Nat->VS->Int->Int->Option VS
 | 0,_,_,_=>none
 | f+1,s,n,size=>
  if 0<=n/\n<(p.AD.length:Int)/\idx s.AR n=some false then
   (idx p.AD n).bind fun x=>
   if okN p s x size then
    if x.Op=4 then
     (idx p.AF x.N).bind fun d=>
     if okD d=true then
      (bY (vis p f) ⟨s.sz.set n.toNat size,s.AR.set n.toNat true,s.AY.set x.N.toNat true⟩ (d.AP.map fun r=>(r.AU,size+own d+brs d.AQ r.Ab))).bind fun s1=>
      (bY (vis p f) s1 (d.AS.map fun y=>(y.AU,size+own d))).bind fun s2=>
      bY (vis p f) s2 (x.AO.map fun k=>(k,size+own d))
     else none
    else bY (vis p f) ⟨s.sz.set n.toNat size,s.AR.set n.toNat true,s.AY⟩ (x.AO.map fun k=>(k,size))
   else none
  else none
def unm (s:VS):Nat:=s.AR.countP (fun b=>!b)
structure WS (p:AI) (s:VS):Prop where
 sz:s.sz.length=p.AD.length
 AR:s.AR.length=p.AD.length
 AY:s.AY.length=p.AF.length
structure SmP (p:AI):Prop where
 nodes:p.AD.length<=2000000
 Ad:p.AF.length<=2000000
 free:p.AH.length<=2000000
 names:∀ x∈p.AH,x.size<=2000000
 args:∀ x∈p.AD,x.AW.length<=2000000/\x.AO.length<=2000000/\∀ e∈x.AW,nE e<=2000000
 AY:∀ d∈p.AF,smD d
theorem eC {α:Type} {xs:List α} {i:Int} {y:α} (h:idx xs i=some y):y∈xs:=a1k (gD h)
theorem aHy {ch:List An} {a:Int}:∀ (js AB:List Int) (u u':List Bool),lW ch a AB js u=some u'->∀ c∈js,∃ y,idx ch c=some y
 | [],_,_,_,_,c,h=>by cases h
 | e :: js,AB,u,u',h,c,hc=>by
  simp only [lW]at h;cases he:idx ch e with
  | none=>rw [he]at h;cases h
  | some y=>
   rw [he]at h;dsimp only at h
   split at h
   ·cases hc with
    | head=>exact⟨y,he⟩
    | tail _ hc=>exact aHy js _ _ _ h c hc
   ·cases h
theorem aFu {ch:List An} {n:Nat}:∀ (rs:List Ai) (u u':List Bool),iZ ch n rs u=some u'->∀ r∈rs,okR n r/\∀ c∈r.Ab,∃ y,idx ch c=some y
 | [],_,_,_,r,h=>by cases h
 | e :: rs,u,u',h,r,hr=>by
  simp only [iZ]at h;split at h
  ·rename_i h1;obtain⟨u1,h2,h3⟩:=bind_some h;cases hr with
   | head=>exact⟨h1,aHy _ _ _ _ h2⟩
   | tail _ hr=>exact aFu rs _ _ h3 r hr
  ·cases h
theorem eX {d:AN} (h:okD d=true):d.AQ.length<=30/\d.AS.length<=30/\d.AP.length<=30/\(∀ c∈d.AQ,0<=c.Ap/\c.Ap<=3)/\∀ r∈d.AP,r.Ab.length<=3/\∀ c∈r.Ab,∃ y,idx d.AQ c=some y/\0<=y.Ap/\y.Ap<=3:=by
 simp only [okD,a0k,a2b]at h
 obtain⟨⟨⟨h1,h2⟩,h3⟩,h4⟩:=h
 have hm:∀ c∈d.AQ,0<=c.Ap/\c.Ap<=3:=fun c hc=>by
  have:=of_decide_eq_true (a0t.1 h2 c hc);exact⟨this.2.2.1,this.2.2.2⟩
 refine⟨h1.1,h1.2.1,h1.2.2,hm,fun r hr=>?_⟩
 cases hu:iZ d.AQ d.AS.length d.AP (List.replicate d.AQ.length false)with
 | none=>rw [hu]at h4;cases h4
 | some u=>
  obtain⟨g1,g2⟩:=aFu _ _ _ hu r hr;exact⟨g1.2.2.2,fun c hc=>let ⟨y,hy⟩:=g2 c hc;⟨y,hy,hm y (eC hy)⟩⟩
theorem oN {ch:List An}:∀ {js:List Int},(∀ c∈js,∃ y,idx ch c=some y/\0<=y.Ap/\y.Ap<=3)->0<=brs ch js/\brs ch js<=3*js.length
 | [],_=>by simp [brs]
 | c :: js,h=>by
  obtain⟨y,h1,h2,h3⟩:=h c (.head _);have:=oN (js:=js) fun c hc=>h c (.tail _ hc)
  simp only [brs,h1,a0S];omega
theorem aJ0 {ch:List An} {sp:List Am} {ru:List Ai} {a nd:Int} (AC:List Int):∀ (AB:List Int) (k:Nat) (w:Int),AC.length<k->AB.length+AC.length<=1000->0<=w->w<=100000->(∀ c∈AC,∃ y,idx ch c=some y/\0<=y.Ap/\y.Ap<=3)->w+3*AC.length<=100000 ->
 oD ⟨ch,sp,ru⟩ ⟨a,AB++AC,nd⟩ k w AB.length=some (w+brs ch AC):=by
 induction AC with
 | nil=>
  intro AB k w hk _ _ _ _ _;obtain _ | k:=k
  ·omega
  rw [oD,a2c (by simp)];simp [brs]
 | cons e AC ih=>
  intro AB k w hk hB h0 h1 hm hw;obtain _ | k:=k
  ·omega
  simp only [a0S]at hk hB hw;obtain⟨y,g1,g2,g3⟩:=hm e (.head _);rw [oD,a2d (aV _ _ _)];dsimp only
  rw [aX,bsm,g1,bsm,aM (by omega),bsm,aM (by omega),bsm,bA AB AC e,aU AB e,ih (AB++[e]) k _ (by omega) (by simp;omega) (by omega) (by omega) (fun c hc=>hm c (.tail _ hc)) (by omega)];simp only [brs,g1];congr 1;omega
theorem aJg {AA:Nat} {d:AN} {r:Ai} (hf:3000<=AA) (h:okD d=true) (hr:r∈d.AP):yB AA d r=some (brs d.AQ r.Ab):=by
 obtain⟨_,_,_,_,h5⟩:=eX h
 obtain⟨g1,g2⟩:=h5 r hr
 have:=aJ0 (ch:=d.AQ) (sp:=d.AS) (ru:=d.AP) (a:=r.At) (nd:=r.AU) r.Ab [] AA 0 (by omega) (by simp;omega) (by omega) (by omega) g2 (by omega)
 simp only [a1n,a0W,a0q]at this
 rw [yB,this,bsm];congr 1;omega
def iW (p:AI) (o:Option VS):Ae ⊕ Value:=match o with
 | some s=> .inl ⟨p,s.sz,s.AR,s.AY⟩
 | none=> .inr flaw
structure Vis (p:AI) (f:Nat) (rec:Ae->Int->Int->Option (Ae ⊕ Value)):Prop where
 run:∀ (s:VS) (n z:Int),WS p s->unm s<=f->0<=z->z+80*f<=100000->rec ⟨p,s.sz,s.AR,s.AY⟩ n z=some (iW p (vis p f s n z))
structure VisO (p:AI) (f:Nat):Prop where
 out:∀ (s:VS) (n z:Int) (s':VS),WS p s->unm s<=f->vis p f s n z=some s'->WS p s'/\unm s'+1<=unm s
theorem lK {p:AI} {f:Nat} (h:VisO p f):∀ (l:List (Int × Int)) (s s':VS),WS p s->unm s<=f->bY (vis p f) s l=some s'->WS p s'/\unm s'<=unm s
 | [],s,s',hs,_,e=>by cases e;exact⟨hs,a1G _⟩
 | x :: l,s,s',hs,hu,e=>by
  obtain⟨s1,e1,e2⟩:=bind_some e;obtain⟨h1,h2⟩:=h.out _ _ _ _ hs hu e1;obtain⟨h3,h4⟩:=lK h l s1 s' h1 (by omega) e2
  exact⟨h3,by omega⟩
section
variable {p:AI} {f:Nat} {rec:Ae->Int->Int->Option (Ae ⊕ Value)}
theorem ln4 (hv:Vis p f rec) (ho:VisO p f) {op nn:Int} {ar:List AT} {z:Int} (hz:0<=z/\z+80*f<=100000) (AC:List Int):∀ (AB:List Int) (k:Nat) (s:VS),AC.length<k->AB.length+AC.length<=3000000->WS p s->unm s<=f ->
 mA rec ⟨op,nn,ar,AB++AC⟩ z k AB.length p.AH p.AD p.AF p.AG s.sz s.AR s.AY=some (iW p (bY (vis p f) s (AC.map fun k=>(k,z)))):=by
 induction AC with
 | nil=>
  intro AB k s hk _ hs hu;obtain _ | k:=k
  ·omega
  rw [mA,a2c (by simp)];rfl
 | cons e AC ih=>
  intro AB k s hk hB hs hu;obtain _ | k:=k
  ·omega
  simp only [a0S]at hk hB;rw [mA,a2d (aV _ _ _)];dsimp only
  rw [aX,bsm];have h1:=hv.run s e z hs hu hz.1 hz.2;rw [show(⟨⟨p.AH,p.AD,p.AF,p.AG⟩,s.sz,s.AR,s.AY⟩:Ae)=⟨p,s.sz,s.AR,s.AY⟩from rfl,h1,bsm];simp only [a1a,bY];cases hc:vis p f s e z with
  | none=>rfl
  | some s1=>
   obtain⟨h2,h3⟩:=ho.out _ _ _ _ hs hu hc;simp only [iW];rw [aM (by omega),bsm,bA AB AC e,aU AB e,bsm];exact ih (AB++[e]) k s1 (by omega) (by simp;omega) h2 (by omega)
theorem ln3 (hv:Vis p f rec) (ho:VisO p f) {ch:List An} {ru:List Ai} {z:Int} (hz:0<=z/\z+80*f<=100000) (AC:List Am):∀ (AB:List Am) (k:Nat) (s:VS),AC.length<k->AB.length+AC.length<=3000000->WS p s->unm s<=f ->
 lQ rec ⟨ch,AB++AC,ru⟩ z k AB.length p.AH p.AD p.AF p.AG s.sz s.AR s.AY=some (match bY (vis p f) s (AC.map fun y=>(y.AU,z))with
  | some s'=> .inl (z,p.AH,p.AD,p.AF,p.AG,s'.sz,s'.AR,s'.AY)
  | none=> .inr (.inr flaw)):=by
 induction AC with
 | nil=>
  intro AB k s hk _ hs hu;obtain _ | k:=k
  ·omega
  rw [lQ,a2c (by simp)];rfl
 | cons e AC ih=>
  intro AB k s hk hB hs hu;obtain _ | k:=k
  ·omega
  simp only [a0S]at hk hB;rw [lQ,a2d (aV _ _ _)];dsimp only
  rw [aX,bsm];have h1:=hv.run s e.AU z hs hu hz.1 hz.2;rw [show(⟨⟨p.AH,p.AD,p.AF,p.AG⟩,s.sz,s.AR,s.AY⟩:Ae)=⟨p,s.sz,s.AR,s.AY⟩from rfl,h1,bsm];simp only [a1a,bY];cases hc:vis p f s e.AU z with
  | none=>rfl
  | some s1=>
   obtain⟨h2,h3⟩:=ho.out _ _ _ _ hs hu hc;simp only [iW];rw [aM (by omega),bsm,bA AB AC e,aU AB e,bsm];exact ih (AB++[e]) k s1 (by omega) (by simp;omega) h2 (by omega)
theorem ln2 (hv:Vis p f rec) (ho:VisO p f) {AA:Nat} {d:AN} (hd:okD d=true) (hf:3000<=AA) {z:Int} (hz:0<=z/\z+9+80*f<=100000) (AC:List Ai):∀ (AB:List Ai) (k:Nat) (s:VS),d.AP=AB++AC->AC.length<k->AB.length+AC.length<=3000000->WS p s->unm s<=f ->
 lP AA rec d z k AB.length p.AH p.AD p.AF p.AG s.sz s.AR s.AY=some (match bY (vis p f) s (AC.map fun r=>(r.AU,z+brs d.AQ r.Ab))with
  | some s'=> .inl (p.AH,p.AD,p.AF,p.AG,s'.sz,s'.AR,s'.AY)
  | none=> .inr (.inr (.inr flaw))):=by
 induction AC with
 | nil=>
  intro AB k s he hk _ hs hu;obtain _ | k:=k
  ·omega
  rw [lP,he,a2c (by simp)];rfl
 | cons e AC ih=>
  intro AB k s he hk hB hs hu;obtain _ | k:=k
  ·omega
  simp only [a0S]at hk hB;have hmem:e∈d.AP:=by rw [he];simp
  obtain⟨_,_,_,_,h5⟩:=eX hd;obtain⟨g1,g2⟩:=h5 e hmem;have hb:=oN g2;rw [lP,he,a2d (aV _ _ _),<- he,show idx d.AP (AB.length:Int)=some e from by rw [he];exact aX _ _ _,bsm,
   show(⟨e.At,e.Ab,e.AU⟩:Ai)=e from rfl,show(⟨d.AQ,d.AS,d.AP⟩:AN)=d from rfl,aJg hf hd hmem,bsm,aM (by omega),bsm]
  have h1:=hv.run s e.AU (z+brs d.AQ e.Ab) hs hu (by omega) (by omega)
  rw [show(⟨⟨p.AH,p.AD,p.AF,p.AG⟩,s.sz,s.AR,s.AY⟩:Ae)=⟨p,s.sz,s.AR,s.AY⟩from rfl,h1,bsm];simp only [a1a,bY];cases hc:vis p f s e.AU (z+brs d.AQ e.Ab)with
  | none=>rfl
  | some s1=>
   obtain⟨h2,h3⟩:=ho.out _ _ _ _ hs hu hc;simp only [iW];rw [aM (by omega),bsm,aU AB e,bsm];exact ih (AB++[e]) k s1 (by rw [he];simp) (by omega) (by simp;omega) h2 (by omega)
end
theorem ln1 {AA:Nat} (hf:3000000<=AA) {op nn:Int} {ks:List Int} {z:Int} (AC:List AT):∀ (AB:List AT) (k:Nat),AC.length<k->AB.length+AC.length<=3000000->(∀ e∈AC,nE e<=2000000) ->
 lI AA z ⟨op,nn,AB++AC,ks⟩ k AB.length=some (if AC.all (okE z)=true then .inl () else .inr (.inr flaw)):=by
 induction AC with
 | nil=>
  intro AB k hk _ _;obtain _ | k:=k
  ·omega
  rw [lI,a2c (by simp),a2d (by rfl)]
 | cons e AC ih=>
  intro AB k hk hB he;obtain _ | k:=k
  ·omega
  simp only [a0S]at hk hB;have hn:=he e (.head _);rw [lI,a2d (aV _ _ _),show(e :: AC).all (okE z)=(okE z e && AC.all (okE z))from rfl];dsimp only
  rw [aX,bsm,jU,exp_eq (by omega) (by omega),bsm];cases h1:okE z e with
  | false=>rfl
  | true=>
   rw [a0p,a2d rfl];dsimp only
   rw [aM (by omega),bsm,bA AB AC e,aU AB e];exact ih (AB++[e]) k (by omega) (by simp;omega) (fun x hx=>he x (.tail _ hx))
open Go.SX Go.SW Go.Dt
theorem aCG {s:VS} {p:AI} {n:Int} {z:Int} {AY:List Bool} (h0:0<=n) (hm:idx s.AR n=some false):unm ⟨s.sz.set n.toNat z,s.AR.set n.toNat true,AY⟩+1=unm s:=by
 obtain⟨j,rfl,hj,hlt⟩:=oB hm
 simp only [unm,a0r]
 rw [List.countP_set (h:=hlt)]
 have hv:s.AR[j]=false:=by
  have:=a0I hlt;rw [hj]at this;exact(a1T this).symm
 have hpos:0<s.AR.countP (fun b=>!b):=a0x.2 ⟨s.AR[j],List.getElem_mem hlt,by rw [hv];rfl⟩
 rw [hv];simp;omega
theorem rU {p:AI} {s:VS} (h:WS p s) {i j:Nat} {z:Int}:WS p ⟨s.sz.set i z,s.AR.set i true,s.AY⟩/\WS p ⟨s.sz.set i z,s.AR.set i true,s.AY.set j true⟩:=
 ⟨⟨by simp [h.sz],by simp [h.AR],h.AY⟩,⟨by simp [h.sz],by simp [h.AR],by simp [h.AY]⟩⟩
theorem visO (p:AI) (f:Nat):VisO p f:=by
 induction f with
 | zero=>exact⟨fun s n z s' _ _ h=>by simp [vis]at h⟩
 | succ f ih=>
  refine⟨fun s n z s' hs hu h=>?_⟩
  simp only [vis]at h;split at h
  ·rename_i hc;obtain⟨x,_,h⟩:=bind_some h;have hun:=fun AY=>aCG (p:=p) (z:=z) (AY:=AY) hc.1 hc.2.2
   split at h
   ·split at h
    ·obtain⟨d,_,h⟩:=bind_some h;split at h
     ·obtain⟨s1,e1,h⟩:=bind_some h;obtain⟨s2,e2,e3⟩:=bind_some h;have:=hun (s.AY.set x.N.toNat true);obtain⟨a1,a2⟩:=lK ih _ _ _ (rU hs).2 (by omega) e1
      obtain⟨b1,b2⟩:=lK ih _ _ _ a1 (by omega) e2
      obtain⟨c1,c2⟩:=lK ih _ _ _ b1 (by omega) e3
      exact⟨c1,by omega⟩
     ·cases h
    ·have:=hun s.AY;obtain⟨a1,a2⟩:=lK ih _ _ _ (rU hs (j:=0)).1 (by omega) h
     exact⟨a1,by omega⟩
   ·cases h
  ·cases h
def kR (AA:Nat) (a0:Ae) (a1 a2:Int) (y7:AV) (x2:Int):Option (Ae ⊕ Value):=
 (bI (decide ((y7.AW.length:Int)=x2))).bind fun y26=>
 match y26 with
 | Sum.inr pv15=>some (Sum.inr pv15)
 | Sum.inl _=>
 (lI AA a2 y7 AA 0).bind fun o=>match o with
 | Sum.inr r=>some r
 | Sum.inl _=>
 (if y7.Op=4 then
  (idx a0.Ad y7.N).bind fun _=>
  (idx a0.p.AF y7.N).bind fun y30=>
  (tY AA (⟨y30.AQ,y30.AS,y30.AP⟩:AN)).bind fun y31=>
  match y31 with
  | Sum.inr pv17=>(some (Sum.inr pv17)).bind fun r=>some (Sum.inr r)
  | Sum.inl _=>
  (vC (⟨y30.AQ,y30.AS,y30.AP⟩:AN)).bind fun y32=>
  (chk (a2+y32)).bind fun z2=>
  (lP AA (eP AA) y30 z2 AA 0 a0.p.AH a0.p.AD a0.p.AF a0.p.AG (a0.Ak.set a1.toNat a2) (a0.AR.set a1.toNat true) (a0.Ad.set y7.N.toNat true)).bind fun o=>match o with
  | Sum.inr r=>some r
  | Sum.inl (x17,x18,x19,x20,x21,x22,x23)=>
  lQ (eP AA) y30 z2 AA 0 x17 x18 x19 x20 x21 x22 x23
 else
  some (Sum.inl (a2,a0.p.AH,a0.p.AD,a0.p.AF,a0.p.AG,a0.Ak.set a1.toNat a2,a0.AR.set a1.toNat true,a0.Ad))).bind fun o=>match o with
 | Sum.inr r=>some r
 | Sum.inl (x9,x10,x11,x12,x13,x14,x15,x16)=>
 mA (eP AA) y7 x9 AA 0 x10 x11 x12 x13 x14 x15 x16
theorem own_eq {d:AN} (h:d.AQ.length<=2000000) (h2:d.AS.length<=2000000):vC d=some (own d):=by
 rw [vC,aM (by omega),bsm];rfl
section
variable {p:AI} {f m:Nat}
noncomputable def rest (p:AI) (f:Nat) (s:VS) (n z:Int) (x:AV):Option VS:=
 if x.Op=4 then
  (idx p.AF x.N).bind fun d=>
  if okD d=true then
   (bY (vis p f) ⟨s.sz.set n.toNat z,s.AR.set n.toNat true,s.AY.set x.N.toNat true⟩ (d.AP.map fun r=>(r.AU,z+own d+brs d.AQ r.Ab))).bind fun s1=>
   (bY (vis p f) s1 (d.AS.map fun y=>(y.AU,z+own d))).bind fun s2=>
   bY (vis p f) s2 (x.AO.map fun k=>(k,z+own d))
  else none
 else bY (vis p f) ⟨s.sz.set n.toNat z,s.AR.set n.toNat true,s.AY⟩ (x.AO.map fun k=>(k,z))
theorem tail_bad {a0:Ae} {n z:Int} {x:AV} {x2:Int} (h:¬ (x.AW.length:Int)=x2):kR m a0 n z x x2=some (.inr flaw):=by
 rw [kR,a1Z h,cN];rfl
theorem tail_eq (hp:SmP p) (hm:3000000<=m) (hv:Vis p f (eP m)) {s:VS} (hs:WS p s) {n z:Int} {x:AV} (hx:x∈p.AD) (hun:∀ AY,unm ⟨s.sz.set n.toNat z,s.AR.set n.toNat true,AY⟩<=f) (hz:0<=z/\z+69+80*f<=100000)
 (hN:x.Op=4->0<=x.N/\x.N<(p.AF.length:Int)) {x2:Int} (h2:(x.AW.length:Int)=x2):
 kR m ⟨p,s.sz,s.AR,s.AY⟩ n z x x2=some (iW p (if x.AW.all (okE z)=true then rest p f s n z x else none)):=by
 obtain⟨op,nn,ar,ks⟩:=x
 obtain⟨g1,g2,g3⟩:=hp.args _ hx
 dsimp only at g1 g2 g3 h2 hN
 have ho:=visO p f
 rw [kR,a2a h2,eB,bsm]
 dsimp only
 have e1:=ln1 (AA:=m) hm (op:=op) (nn:=nn) (ks:=ks) (z:=z) ar [] m (by omega) (by simp;omega) g3
 simp only [a1n,a0W,a0q]at e1
 rw [e1,bsm]
 cases hall:ar.all (okE z)with
 | false=>rfl
 | true=>
  rw [a2d rfl,a2d rfl];dsimp only
  by_cases h4:op=4
  ·subst h4;obtain⟨n0,n1⟩:=hN rfl;obtain⟨d,hd⟩:=eS n0 n1;obtain⟨b,hb⟩:=eS (xs:=s.AY) n0 (by rw [hs.AY];exact n1)
   have hsm:=hp.AY d (eC hd);have hres:rest p f s n z ⟨4,nn,ar,ks⟩=if okD d=true then
    (bY (vis p f) ⟨s.sz.set n.toNat z,s.AR.set n.toNat true,s.AY.set nn.toNat true⟩ (d.AP.map fun r=>(r.AU,z+own d+brs d.AQ r.Ab))).bind fun s1=>
    (bY (vis p f) s1 (d.AS.map fun y=>(y.AU,z+own d))).bind fun s2=>bY (vis p f) s2 (ks.map fun k=>(k,z+own d))
    else none:=by
    rw [rest,a2d rfl];dsimp only;rw [hd,bsm]
   rw [hres,a2d rfl,hb,bsm,hd,bsm,show(⟨d.AQ,d.AS,d.AP⟩:AN)=d from rfl,def_eq hm hsm,bsm];cases hok:okD d with
   | false=>rfl
   | true=>
    rw [a2d rfl,a2d rfl];dsimp only
    obtain⟨k1,k2,k3,_,_⟩:=eX hok;have hown:0<=own d/\own d<=60:=by unfold own;omega
    rw [own_eq (by omega) (by omega),bsm,aM (by omega),bsm];have e2:=ln2 hv ho (AA:=m) hok (by omega) (z:=z+own d) ⟨by omega,by omega⟩ d.AP [] m ⟨s.sz.set n.toNat z,s.AR.set n.toNat true,s.AY.set nn.toNat true⟩ rfl (by omega) (by simp;omega) (rU hs).2 (hun _)
    simp only [a0W,a0q]at e2;rw [e2,bsm];cases c2:bY (vis p f) ⟨s.sz.set n.toNat z,s.AR.set n.toNat true,s.AY.set nn.toNat true⟩ (d.AP.map fun r=>(r.AU,z+own d+brs d.AQ r.Ab))with
    | none=>rfl
    | some s1=>
     obtain⟨w1,u1⟩:=lK ho _ _ _ (rU hs).2 (hun _) c2;have hu1:=hun (s.AY.set nn.toNat true);dsimp only
     rw [bsm];have e3:=ln3 hv ho (ch:=d.AQ) (ru:=d.AP) (z:=z+own d) ⟨by omega,by omega⟩ d.AS [] m s1 (by omega) (by simp;omega) w1 (by omega)
     simp only [a1n,a0W,a0q]at e3;rw [show(⟨d.AQ,d.AS,d.AP⟩:AN)=d from rfl]at e3;rw [e3,bsm];cases c3:bY (vis p f) s1 (d.AS.map fun y=>(y.AU,z+own d))with
     | none=>rfl
     | some s2=>
      obtain⟨w2,u2⟩:=lK ho _ _ _ w1 (by omega) c3
      dsimp only
      rw [bsm];have e4:=ln4 hv ho (op:=4) (nn:=nn) (ar:=ar) (z:=z+own d) ⟨by omega,by omega⟩ ks [] m s2 (by omega) (by simp;omega) w2 (by omega)
      simp only [a1n,a0W,a0q]at e4;exact e4
  ·rw [a2c h4,bsm];dsimp only
   have hres:rest p f s n z ⟨op,nn,ar,ks⟩=bY (vis p f) ⟨s.sz.set n.toNat z,s.AR.set n.toNat true,s.AY⟩ (ks.map fun k=>(k,z)):=by
    rw [rest,a2c h4]
   rw [hres];have e4:=ln4 hv ho (op:=op) (nn:=nn) (ar:=ar) (z:=z) ⟨by omega,by omega⟩ ks [] m ⟨s.sz.set n.toNat z,s.AR.set n.toNat true,s.AY⟩ (by omega) (by simp;omega) (rU hs (j:=0)).1 (hun _)
   simp only [a1n,a0W,a0q]at e4;exact e4
theorem aGw {s:VS} (hs:WS p s) {n z:Int} (h:¬ (0<=n/\n<(p.AD.length:Int)/\idx s.AR n=some false)):eP (m+1) ⟨p,s.sz,s.AR,s.AY⟩ n z=some (.inr flaw):=by
 rw [eP]
 by_cases h0:0<=n
 ·rw [a2d h0];by_cases h1:n<(p.AD.length:Int)
  ·obtain⟨b,hb⟩:=eS (xs:=s.AR) h0 (by rw [hs.AR];exact h1)
   dsimp only
   rw [a2d h1,hb,bsm];cases b with
   | false=>exact absurd ⟨h0,h1,hb⟩ h
   | true=>rfl
  ·dsimp only
   rw [a2c h1,cN];rfl
 ·rw [a2c h0,cN];rfl
end
open Go.SX Go.SW Go.Dt
theorem aII {op:Int} (h:op=1\/op=7):hP op=some (.iface 235 (.int .i64 0)):=by
 rcases h with rfl | rfl <;> rfl
theorem aJU:hP 3=some (.iface 235 (.int .i64 2)):=rfl
theorem aJY:hP 2=some (.iface 207 (.agg ⟨[]⟩)):=rfl
theorem aIW:hP 5=some (.iface 236 (.agg ⟨[]⟩)):=rfl
theorem aJK {op:Int} (h:op=6\/op=8):hP op=some (.iface 208 (.agg ⟨[]⟩)):=by
 rcases h with rfl | rfl <;> rfl
theorem aKg:hP 4=some (.iface 237 (.agg ⟨[]⟩)):=rfl
theorem aGk {op:Int} (h:shp op=none):hP op=some .nilIface:=by
 unfold shp at h
 rw [hP]
 split at h;· cases h
 split at h;· cases h
 split at h;· cases h
 split at h;· cases h
 split at h;· cases h
 split at h;· cases h
 rename_i h1 h2 h3 h4 h5 h6
 rw [a2c (by omega),bsm,a1Z (by omega),a1X,a2c h2,a2c h3,a2c h4,a2c (by omega),bsm,a1Z (by omega),a1X,a2c h6]
def iI (m:Nat) (a0:Ae) (a1 a2:Int) (y7:AV) (y8:Value):Option (Ae ⊕ Value):=
 ((iL y8).bind fun x1=>
 bif !x1 then
  (kY y8).bind fun y9=>
  (bI (decide ((y7.AO.length:Int)=y9))).bind fun y10=>
  match y10 with
  | Sum.inr pv4=>(some (Sum.inr pv4)).bind fun r=>some (Sum.inr r)
  | Sum.inl _=>
  some (Sum.inl ())
 else
  (bI false).bind fun y11=>
  match y11 with
  | Sum.inr pv5=>(some (Sum.inr pv5)).bind fun r=>some (Sum.inr r)
  | Sum.inl _=>
  some (Sum.inl ())).bind fun o=>match o with
 | Sum.inr r=>some r
 | Sum.inl _=>
 ((dO 207 (.agg #[]) y8).bind fun y12=>
 match y12 with
 | (_,x3)=>
 bif x3 then
  if 0<=y7.N then
   (bI (decide (y7.N<a2))).bind fun y13=>
   match y13 with
   | Sum.inr pv6=>(some (Sum.inr pv6)).bind fun r=>some (Sum.inr r)
   | Sum.inl _=>
   some (Sum.inl (min (y7.AW.length:Int) 3))
  else
   (bI false).bind fun y14=>
   match y14 with
   | Sum.inr pv7=>(some (Sum.inr pv7)).bind fun r=>some (Sum.inr r)
   | Sum.inl _=>
   some (Sum.inl (min (y7.AW.length:Int) 3))
 else
  (dO 208 (.agg #[]) y8).bind fun y15=>
  match y15 with
  | (_,x4)=>
  bif x4 then
   if 0<=y7.N then
    (bI (decide (y7.N<a2))).bind fun y16=>
    match y16 with
    | Sum.inr pv8=>(some (Sum.inr pv8)).bind fun r=>some (Sum.inr r)
    | Sum.inl _=>
    some (Sum.inl 0)
   else
    (bI false).bind fun y17=>
    match y17 with
    | Sum.inr pv9=>(some (Sum.inr pv9)).bind fun r=>some (Sum.inr r)
    | Sum.inl _=>
    some (Sum.inl 0)
  else
   (dO 237 (.agg #[]) y8).bind fun y18=>
   match y18 with
   | (_,x5)=>
   bif x5 then
    if 0<=y7.N then
     if y7.N<(a0.p.AF.length:Int)then
      (idx a0.Ad y7.N).bind fun y19=>
      (bI (!y19)).bind fun y20=>
      match y20 with
      | Sum.inr pv10=>(some (Sum.inr pv10)).bind fun r=>some (Sum.inr r)
      | Sum.inl _=>
      some (Sum.inl 0)
     else
      (bI false).bind fun y21=>
      match y21 with
      | Sum.inr pv11=>(some (Sum.inr pv11)).bind fun r=>some (Sum.inr r)
      | Sum.inl _=>
      some (Sum.inl 0)
    else
     (bI false).bind fun y22=>
     match y22 with
     | Sum.inr pv12=>(some (Sum.inr pv12)).bind fun r=>some (Sum.inr r)
     | Sum.inl _=>
     some (Sum.inl 0)
   else
    (dO 236 (.agg #[]) y8).bind fun y23=>
    match y23 with
    | (_,x6)=>
    bif x6 then
     (bI (decide (y7.N=0))).bind fun y24=>
     match y24 with
     | Sum.inr pv13=>(some (Sum.inr pv13)).bind fun r=>some (Sum.inr r)
     | Sum.inl _=>
     some (Sum.inl 1)
    else
     (bI (decide (y7.N=0))).bind fun y25=>
     match y25 with
     | Sum.inr pv14=>(some (Sum.inr pv14)).bind fun r=>some (Sum.inr r)
     | Sum.inl _=>
     some (Sum.inl 0)).bind fun o=>match o with
 | Sum.inr r=>some r
 | Sum.inl x2=>kR m a0 a1 a2 y7 x2
section
variable {p:AI} {f m:Nat}
theorem rR {s:VS} (hs:WS p s) {n z:Int} {x:AV} (h:0<=n/\n<(p.AD.length:Int)/\idx s.AR n=some false) (hx:idx p.AD n=some x) {v:Value} (hv:hP x.Op=some v):
 eP (m+1) ⟨p,s.sz,s.AR,s.AY⟩ n z=iI m ⟨p,s.sz,s.AR,s.AY⟩ n z x v:=by
 obtain⟨h0,h1,h2⟩:=h
 obtain⟨b,hb⟩:=eS (xs:=s.sz) h0 (by rw [hs.sz];exact h1)
 rw [eP,a2d h0]
 dsimp only
 rw [a2d h1,h2,bsm,show(!false)=true from rfl,eB,bsm,bsm]
 dsimp only
 rw [bsm,hb,bsm,hx,bsm,hv,bsm]
 rfl
theorem mid_nil {a0:Ae} {n z:Int} {x:AV}:iI m a0 n z x .nilIface=some (.inr flaw):=rfl
theorem vN {a0:Ae} {n z:Int} {x:AV} {v:Value} {k:Int} (hn:iL v=some false) (hk:kY v=some k) (h:¬ (x.AO.length:Int)=k):iI m a0 n z x v=some (.inr flaw):=by
 rw [iI,hn,bsm,show(!false)=true from rfl,a1Y,hk,bsm,a1Z h,cN];rfl
theorem aGT {a0:Ae} {n z:Int} {x:AV} {k:Int} (h:(x.AO.length:Int)=k):iI m a0 n z x (.iface 235 (.int .i64 k))=if x.N=0 then kR m a0 n z x 0 else some (.inr flaw):=by
 rw [iI,show iL (.iface 235 (.int .i64 k))=some false from rfl,bsm,show(!false)=true from rfl,a1Y,show kY (.iface 235 (.int .i64 k))=some k from rfl,bsm,a2a h,eB,bsm,bsm]
 dsimp only
 rw [show dO 207 (.agg #[]) (.iface 235 (.int .i64 k))=some (.agg #[],false)from rfl,bsm]
 dsimp only
 rw [a1X,show dO 208 (.agg #[]) (.iface 235 (.int .i64 k))=some (.agg #[],false)from rfl,bsm]
 dsimp only
 rw [a1X,show dO 237 (.agg #[]) (.iface 235 (.int .i64 k))=some (.agg #[],false)from rfl,bsm]
 dsimp only
 rw [a1X,show dO 236 (.agg #[]) (.iface 235 (.int .i64 k))=some (.agg #[],false)from rfl,bsm]
 dsimp only
 rw [a1X]
 by_cases h0:x.N=0
 ·rw [a2a h0,eB,a2d h0];rfl
 ·rw [a1Z h0,cN,a2c h0];rfl
theorem aIX {a0:Ae} {n z:Int} {x:AV} (h:(x.AO.length:Int)=0):iI m a0 n z x (.iface 207 (.agg ⟨[]⟩))=if 0<=x.N/\x.N<z then kR m a0 n z x (min (x.AW.length:Int) 3) else some (.inr flaw):=by
 rw [iI,show iL (.iface 207 (.agg ⟨[]⟩))=some false from rfl,bsm,show(!false)=true from rfl,a1Y,show kY (.iface 207 (.agg ⟨[]⟩))=some 0 from rfl,bsm,a2a h,eB,bsm,bsm]
 dsimp only
 rw [show dO 207 (.agg #[]) (.iface 207 (.agg ⟨[]⟩))=some (.agg #[],true)from rfl,bsm]
 dsimp only
 rw [a1Y]
 by_cases h0:0<=x.N
 ·rw [a2d h0];by_cases h1:x.N<z
  ·rw [a2a h1,eB,a2d ⟨h0,h1⟩];rfl
  ·rw [a1Z h1,cN,a2c (fun q=>h1 q.2)];rfl
 ·rw [a2c h0,cN,a2c (fun q=>h0 q.1)];rfl
theorem aKy {a0:Ae} {n z:Int} {x:AV} (h:(x.AO.length:Int)=1):iI m a0 n z x (.iface 208 (.agg ⟨[]⟩))=if 0<=x.N/\x.N<z then kR m a0 n z x 0 else some (.inr flaw):=by
 rw [iI,show iL (.iface 208 (.agg ⟨[]⟩))=some false from rfl,bsm,show(!false)=true from rfl,a1Y,show kY (.iface 208 (.agg ⟨[]⟩))=some 1 from rfl,bsm,a2a h,eB,bsm,bsm]
 dsimp only
 rw [show dO 207 (.agg #[]) (.iface 208 (.agg ⟨[]⟩))=some (.agg #[],false)from rfl,bsm]
 dsimp only
 rw [a1X,show dO 208 (.agg #[]) (.iface 208 (.agg ⟨[]⟩))=some (.agg #[],true)from rfl,bsm]
 dsimp only
 rw [a1Y]
 by_cases h0:0<=x.N
 ·rw [a2d h0];by_cases h1:x.N<z
  ·rw [a2a h1,eB,a2d ⟨h0,h1⟩];rfl
  ·rw [a1Z h1,cN,a2c (fun q=>h1 q.2)];rfl
 ·rw [a2c h0,cN,a2c (fun q=>h0 q.1)];rfl
theorem aJj {a0:Ae} {n z:Int} {x:AV} (h:(x.AO.length:Int)=2):iI m a0 n z x (.iface 236 (.agg ⟨[]⟩))=if x.N=0 then kR m a0 n z x 1 else some (.inr flaw):=by
 rw [iI,show iL (.iface 236 (.agg ⟨[]⟩))=some false from rfl,bsm,show(!false)=true from rfl,a1Y,show kY (.iface 236 (.agg ⟨[]⟩))=some 2 from rfl,bsm,a2a h,eB,bsm,bsm]
 dsimp only
 rw [show dO 207 (.agg #[]) (.iface 236 (.agg ⟨[]⟩))=some (.agg #[],false)from rfl,bsm]
 dsimp only
 rw [a1X,show dO 208 (.agg #[]) (.iface 236 (.agg ⟨[]⟩))=some (.agg #[],false)from rfl,bsm]
 dsimp only
 rw [a1X,show dO 237 (.agg #[]) (.iface 236 (.agg ⟨[]⟩))=some (.agg #[],false)from rfl,bsm]
 dsimp only
 rw [a1X,show dO 236 (.agg #[]) (.iface 236 (.agg ⟨[]⟩))=some (.agg #[],true)from rfl,bsm]
 dsimp only
 rw [a1Y]
 by_cases h0:x.N=0
 ·rw [a2a h0,eB,a2d h0];rfl
 ·rw [a1Z h0,cN,a2c h0];rfl
theorem aI2 {s:VS} (hs:WS p s) {n z:Int} {x:AV} (h:(x.AO.length:Int)=1):iI m ⟨p,s.sz,s.AR,s.AY⟩ n z x (.iface 237 (.agg ⟨[]⟩))=if 0<=x.N/\x.N<(p.AF.length:Int)/\idx s.AY x.N=some false then kR m ⟨p,s.sz,s.AR,s.AY⟩ n z x 0 else some (.inr flaw):=by
 rw [iI,show iL (.iface 237 (.agg ⟨[]⟩))=some false from rfl,bsm,show(!false)=true from rfl,a1Y,show kY (.iface 237 (.agg ⟨[]⟩))=some 1 from rfl,bsm,a2a h,eB,bsm,bsm]
 dsimp only
 rw [show dO 207 (.agg #[]) (.iface 237 (.agg ⟨[]⟩))=some (.agg #[],false)from rfl,bsm]
 dsimp only
 rw [a1X,show dO 208 (.agg #[]) (.iface 237 (.agg ⟨[]⟩))=some (.agg #[],false)from rfl,bsm]
 dsimp only
 rw [a1X,show dO 237 (.agg #[]) (.iface 237 (.agg ⟨[]⟩))=some (.agg #[],true)from rfl,bsm]
 dsimp only
 rw [a1Y]
 by_cases h0:0<=x.N
 ·rw [a2d h0];by_cases h1:x.N<(p.AF.length:Int)
  ·obtain⟨b,hb⟩:=eS (xs:=s.AY) h0 (by rw [hs.AY];exact h1)
   rw [a2d h1,hb,bsm];cases b with
   | false=>rw [a2d ⟨h0,h1,rfl⟩];rfl
   | true=>rw [a2c (fun q=>by cases q.2.2)];rfl
  ·rw [a2c h1,cN,a2c (fun q=>h1 q.2.1)];rfl
 ·rw [a2c h0,cN,a2c (fun q=>h0 q.1)];rfl
theorem vis_go {s:VS} {n z:Int} {x:AV} (h:0<=n/\n<(p.AD.length:Int)/\idx s.AR n=some false) (hx:idx p.AD n=some x):(okN p s x z->vis p (f+1) s n z=rest p f s n z x)/\(¬ okN p s x z->vis p (f+1) s n z=none):=by
 constructor
 ·intro ho;simp only [vis];rw [a2d h,hx,bsm,a2d ho];rfl
 ·intro ho;simp only [vis];rw [a2d h,hx,bsm,a2c ho]
theorem node_go (hp:SmP p) (hm:3000000<=m) (hv:Vis p f (eP m)) {s:VS} (hs:WS p s) {n z:Int} (hu:unm s<=f+1) (hz:0<=z/\z+69+80*f<=100000) (h:0<=n/\n<(p.AD.length:Int)/\idx s.AR n=some false):
 eP (m+1) ⟨p,s.sz,s.AR,s.AY⟩ n z=some (iW p (vis p (f+1) s n z)):=by
 obtain⟨x,hx⟩:=eS h.1 h.2.1
 obtain⟨v1,v2⟩:=vis_go (f:=f) (z:=z) h hx
 have hun:∀ AY,unm ⟨s.sz.set n.toNat z,s.AR.set n.toNat true,AY⟩<=f:=fun AY=>by
  have:=aCG (p:=p) (z:=z) (AY:=AY) h.1 h.2.2;omega
 have hN:∀ {c k:Nat},shp x.Op=some (k,c)->okM p s x z c->x.Op=4->0<=x.N/\x.N<(p.AF.length:Int):=fun {c k} h1 h2 h4=>by
  rw [h4]at h1;have:(1,4)=(k,c):=a1T h1;cases this;exact⟨h2.1.1,h2.1.2.1⟩
 have fin:∀ {k c:Nat} (x2:Int),shp x.Op=some (k,c)->(x.AO.length:Int)=k->((x.AW.length:Int)=x2->okM p s x z c)->(okM p s x z c->(x.AW.length:Int)=x2)->kR m ⟨p,s.sz,s.AR,s.AY⟩ n z x x2=some (iW p (vis p (f+1) s n z)):=fun {k c} x2 h1 h2 h3 h4=>by
  by_cases ha:(x.AW.length:Int)=x2
  ·rw [tail_eq hp hm hv hs (eC hx) hun hz (hN h1 (h3 ha)) ha];congr 2
   by_cases hall:x.AW.all (okE z)=true
   ·rw [a2d hall,v1 ⟨⟨k,c,h1,by omega,h3 ha⟩,hall⟩]
   ·rw [a2c hall,v2 (fun q=>hall q.2)]
  ·rw [tail_bad ha,v2];rfl
   rintro⟨⟨k',c',g1,_,g3⟩,_⟩
   rw [h1]at g1;cases g1
   exact ha (h4 g3)
 have bad:∀ {k c:Nat},shp x.Op=some (k,c)->¬ ((x.AO.length:Int)=k/\okM p s x z c)->some (iW p (vis p (f+1) s n z))=some (.inr flaw):=fun {k c} h1 h2=>by
  rw [v2];rfl
  rintro⟨⟨k',c',g1,g2,g3⟩,_⟩
  rw [h1]at g1;cases g1
  exact h2 ⟨by omega,g3⟩
 by_cases o1:x.Op=1\/x.Op=7
 ·have hsh:shp x.Op=some (0,0):=by unfold shp;rw [a2d o1]
  rw [rR hs h hx (aII o1)];by_cases hk:(x.AO.length:Int)=0
  ·rw [aGT hk];by_cases hn:x.N=0
   ·rw [a2d hn];exact fin 0 hsh hk (fun q=>⟨hn,by omega⟩) (fun q=>by have:=q.2;omega)
   ·rw [a2c hn,bad hsh (fun q=>hn q.2.1)]
  ·rw [vN rfl rfl hk,bad hsh (fun q=>hk q.1)]
 ·by_cases o3:x.Op=3
  ·have hsh:shp x.Op=some (2,0):=by unfold shp;rw [a2c o1,a2d o3]
   rw [rR hs h hx (by rw [o3];exact aJU)];by_cases hk:(x.AO.length:Int)=2
   ·rw [aGT hk];by_cases hn:x.N=0
    ·rw [a2d hn];exact fin 0 hsh hk (fun q=>⟨hn,by omega⟩) (fun q=>by have:=q.2;omega)
    ·rw [a2c hn,bad hsh (fun q=>hn q.2.1)]
   ·rw [vN rfl rfl hk,bad hsh (fun q=>hk q.1)]
  ·by_cases o2:x.Op=2
   ·have hsh:shp x.Op=some (0,1):=by unfold shp;rw [a2c o1,a2c o3,a2d o2]
    rw [rR hs h hx (by rw [o2];exact aJY)];by_cases hk:(x.AO.length:Int)=0
    ·rw [aIX hk];by_cases hn:0<=x.N/\x.N<z
     ·rw [a2d hn];exact fin _ hsh hk (fun q=>⟨hn,by omega⟩) (fun q=>by have:=q.2;omega)
     ·rw [a2c hn,bad hsh (fun q=>hn q.2.1)]
    ·rw [vN rfl rfl hk,bad hsh (fun q=>hk q.1)]
   ·by_cases o5:x.Op=5
    ·have hsh:shp x.Op=some (2,2):=by unfold shp;rw [a2c o1,a2c o3,a2c o2,a2d o5]
     rw [rR hs h hx (by rw [o5];exact aIW)];by_cases hk:(x.AO.length:Int)=2
     ·rw [aJj hk];by_cases hn:x.N=0
      ·rw [a2d hn];exact fin 1 hsh hk (fun q=>⟨hn,by omega⟩) (fun q=>by have:=q.2;omega)
      ·rw [a2c hn,bad hsh (fun q=>hn q.2.1)]
     ·rw [vN rfl rfl hk,bad hsh (fun q=>hk q.1)]
    ·by_cases o6:x.Op=6\/x.Op=8
     ·have hsh:shp x.Op=some (1,3):=by unfold shp;rw [a2c o1,a2c o3,a2c o2,a2c o5,a2d o6]
      rw [rR hs h hx (aJK o6)];by_cases hk:(x.AO.length:Int)=1
      ·rw [aKy hk];by_cases hn:0<=x.N/\x.N<z
       ·rw [a2d hn];exact fin 0 hsh hk (fun q=>⟨hn,by omega⟩) (fun q=>by have:=q.2;omega)
       ·rw [a2c hn,bad hsh (fun q=>hn q.2.1)]
      ·rw [vN rfl rfl hk,bad hsh (fun q=>hk q.1)]
     ·by_cases o4:x.Op=4
      ·have hsh:shp x.Op=some (1,4):=by unfold shp;rw [a2c o1,a2c o3,a2c o2,a2c o5,a2c o6,a2d o4]
       rw [rR hs h hx (by rw [o4];exact aKg)];by_cases hk:(x.AO.length:Int)=1
       ·rw [aI2 hs hk];by_cases hn:0<=x.N/\x.N<(p.AF.length:Int)/\idx s.AY x.N=some false
        ·rw [a2d hn];exact fin 0 hsh hk (fun q=>⟨hn,by omega⟩) (fun q=>by have:=q.2;omega)
        ·rw [a2c hn,bad hsh (fun q=>hn q.2.1)]
       ·rw [vN rfl rfl hk,bad hsh (fun q=>hk q.1)]
      ·have hsh:shp x.Op=none:=by unfold shp;rw [a2c o1,a2c o3,a2c o2,a2c o5,a2c o6,a2c o4]
       rw [rR hs h hx (aGk hsh),mid_nil,v2];rfl
       rintro⟨⟨k',c',g1,_⟩,_⟩
       rw [hsh]at g1;cases g1
end
theorem aAy {p:AI} {f:Nat} {s:VS} {n z:Int} (h:¬ (0<=n/\n<(p.AD.length:Int)/\idx s.AR n=some false)):vis p f s n z=none:=by
 cases f with
 | zero=>rfl
 | succ f=>simp only [vis];rw [a2c h]
theorem aGZ {s:VS} {n:Int} (h:idx s.AR n=some false):0<unm s:=a0x.2 ⟨false,eC h,rfl⟩
theorem pvis {p:AI} (hp:SmP p) {b:Nat} (hb:3000000<=b) (f:Nat):Vis p f (eP (b+f+1)):=by
 induction f with
 | zero=>
  refine⟨fun s n z hs hu h0 h1=>?_⟩
  have h:¬ (0<=n/\n<(p.AD.length:Int)/\idx s.AR n=some false):=fun q=>by have:=aGZ q.2.2;omega
  rw [aGw hs h,aAy h];rfl
 | succ f ih=>
  refine⟨fun s n z hs hu h0 h1=>?_⟩
  by_cases h:0<=n/\n<(p.AD.length:Int)/\idx s.AR n=some false
  ·exact node_go hp (m:=b+f+1) (by omega) ih hs hu ⟨h0,by omega⟩ h
  ·rw [aGw hs h,aAy h];rfl
open Go.SX Go.SW Go.Dt
def ob (l:List Bool):List Int:=l.map fun b=>if b=true then 1 else 0
theorem iS {l:List Bool}:(ob l).length=l.length:=by simp [ob]
theorem aDn {l:List Bool} {i:Int} {b:Bool} (h:idx l i=some b):idx (ob l) i=some (if b=true then 1 else 0):=by
 obtain⟨j,rfl,hj,_⟩:=oB h
 exact iP (by simp [ob,hj])
theorem ob_set {l:List Bool} {i:Nat}:ob (l.set i true)=(ob l).set i 1:=by simp [ob,List.map_set]
theorem ob_rep {n:Nat}:ob (List.replicate n false)=List.replicate n 0:=by simp [ob]
def ROut (p:AI) (o:Option VS) (L:Aj):Prop:=match o with
 | some s=>L=⟨p,s.sz,ob s.AR,ob s.AY,false⟩
 | none=>L.bad=true/\L.Aq.length=p.AD.length/\L.Ao.length=p.AF.length
structure RVis (p:AI) (f:Nat) (rec:Aj->Int->Int->Option Aj):Prop where
 run:∀ (s:VS) (n z:Int),WS p s->unm s<=f->0<=z->z+80*f<=100000->∃ L,rec ⟨p,s.sz,ob s.AR,ob s.AY,false⟩ n z=some L/\ROut p (vis p f s n z) L
theorem aJy {ch:List An} {sp:List Am} {ru:List Ai} {a nd:Int} (AC:List Int):∀ (AB:List Int) (k:Nat) (w:Int),AC.length<k->AB.length+AC.length<=1000->0<=w->w<=100000->(∀ c∈AC,∃ y,idx ch c=some y/\0<=y.Ap/\y.Ap<=3)->w+3*AC.length<=100000 ->
 zK ⟨ch,sp,ru⟩ ⟨a,AB++AC,nd⟩ k w AB.length=some (w+brs ch AC):=by
 induction AC with
 | nil=>
  intro AB k w hk _ _ _ _ _;obtain _ | k:=k
  ·omega
  rw [zK,a2c (by simp)];simp [brs]
 | cons e AC ih=>
  intro AB k w hk hB h0 h1 hm hw;obtain _ | k:=k
  ·omega
  simp only [a0S]at hk hB hw;obtain⟨y,g1,g2,g3⟩:=hm e (.head _);rw [zK,a2d (aV _ _ _)];dsimp only
  rw [aX,bsm,g1,bsm,aM (by omega),bsm,aM (by omega),bsm,bA AB AC e,aU AB e,ih (AB++[e]) k _ (by omega) (by simp;omega) (by omega) (by omega) (fun c hc=>hm c (.tail _ hc)) (by omega)];simp only [brs,g1];congr 1;omega
theorem more_eq {AA:Nat} {d:AN} {r:Ai} (hf:3000<=AA) (h:okD d=true) (hr:r∈d.AP):aCC AA d r=some (brs d.AQ r.Ab):=by
 obtain⟨_,_,_,_,h5⟩:=eX h
 obtain⟨g1,g2⟩:=h5 r hr
 have:=aJy (ch:=d.AQ) (sp:=d.AS) (ru:=d.AP) (a:=r.At) (nd:=r.AU) r.Ab [] AA 0 (by omega) (by simp;omega) (by omega) (by omega) g2 (by omega)
 simp only [a1n,a0W,a0q]at this
 rw [aCC,this,bsm];congr 1;omega
theorem qB {rec:Aj->Int->Int->Option Aj} {y:AV} {z i:Int} {k:Nat} {a:List ByteArray} {b:List AV} {c:List AN} {d:Int} {sz ow us:List Int}:
 nT rec y z (k+1) i a b c d sz ow us true=some ⟨⟨a,b,c,d⟩,sz,ow,us,true⟩:=by
 rw [nT];split
 ·rw [a1Y]
 ·rfl
theorem d1_bad {AA:Nat} {rec:Aj->Int->Int->Option Aj} {y:AN} {z i:Int} {k:Nat} {a:List ByteArray} {b:List AV} {c:List AN} {d:Int} {sz ow us:List Int}:
 rH AA rec y z (k+1) i a b c d sz ow us true=some (a,b,c,d,sz,ow,us,true):=by
 rw [rH];split
 ·rw [a1Y]
 ·rfl
theorem aDT {rec:Aj->Int->Int->Option Aj} {y:AN} {z i:Int} {k:Nat} {a:List ByteArray} {b:List AV} {c:List AN} {d:Int} {sz ow us:List Int}:
 rB rec y z (k+1) i a b c d sz ow us true=some ⟨⟨a,b,c,d⟩,sz,ow,us,true⟩:=by
 rw [rB];split
 ·rw [a1Y]
 ·rfl
section
variable {p:AI} {f:Nat} {rec:Aj->Int->Int->Option Aj}
theorem rk2 (hv:RVis p f rec) {op nn:Int} {ar:List AT} {z:Int} (hz:0<=z/\z+80*f<=100000) (AC:List Int):∀ (AB:List Int) (k:Nat) (s:VS),AC.length<k->AB.length+AC.length<=3000000->WS p s->unm s<=f ->
 ∃ L,nT rec ⟨op,nn,ar,AB++AC⟩ z k AB.length p.AH p.AD p.AF p.AG s.sz (ob s.AR) (ob s.AY) false=some L/\ROut p (bY (vis p f) s (AC.map fun k=>(k,z))) L:=by
 induction AC with
 | nil=>
  intro AB k s hk _ hs hu;obtain _ | k:=k
  ·omega
  exact⟨_,by rw [nT,a2c (by simp)],rfl⟩
 | cons e AC ih=>
  intro AB k s hk hB hs hu;obtain _ | k:=k
  ·omega
  simp only [a0S]at hk hB;obtain⟨L,h1,h2⟩:=hv.run s e z hs hu hz.1 hz.2;rw [nT,a2d (aV _ _ _),a1X];dsimp only
  rw [aX,bsm,show(⟨⟨p.AH,p.AD,p.AF,p.AG⟩,s.sz,ob s.AR,ob s.AY,false⟩:Aj)=⟨p,s.sz,ob s.AR,ob s.AY,false⟩from rfl,h1,bsm,aM (by omega),bsm,bA AB AC e,aU AB e];simp only [a1a,bY];cases hc:vis p f s e z with
  | none=>
   rw [hc]at h2;obtain⟨g1,g2,g3⟩:=h2;obtain _ | k:=k
   ·omega
   rw [g1,qB];exact⟨_,rfl,rfl,g2,g3⟩
  | some s1=>
   rw [hc]at h2;have h2:L=_:=h2;subst h2;obtain⟨w1,u1⟩:=(visO p f).out _ _ _ _ hs hu hc;rw [bsm];exact ih (AB++[e]) k s1 (by omega) (by simp;omega) w1 (by omega)
theorem rd2 (hv:RVis p f rec) {ch:List An} {ru:List Ai} {z:Int} (hz:0<=z/\z+80*f<=100000) (AC:List Am):∀ (AB:List Am) (k:Nat) (s:VS),AC.length<k->AB.length+AC.length<=3000000->WS p s->unm s<=f ->
 ∃ L,rB rec ⟨ch,AB++AC,ru⟩ z k AB.length p.AH p.AD p.AF p.AG s.sz (ob s.AR) (ob s.AY) false=some L/\ROut p (bY (vis p f) s (AC.map fun y=>(y.AU,z))) L:=by
 induction AC with
 | nil=>
  intro AB k s hk _ hs hu;obtain _ | k:=k
  ·omega
  exact⟨_,by rw [rB,a2c (by simp)],rfl⟩
 | cons e AC ih=>
  intro AB k s hk hB hs hu;obtain _ | k:=k
  ·omega
  simp only [a0S]at hk hB;obtain⟨L,h1,h2⟩:=hv.run s e.AU z hs hu hz.1 hz.2;rw [rB,a2d (aV _ _ _),a1X];dsimp only
  rw [aX,bsm,show(⟨⟨p.AH,p.AD,p.AF,p.AG⟩,s.sz,ob s.AR,ob s.AY,false⟩:Aj)=⟨p,s.sz,ob s.AR,ob s.AY,false⟩from rfl,h1,bsm,aM (by omega),bsm,bA AB AC e,aU AB e];simp only [a1a,bY];cases hc:vis p f s e.AU z with
  | none=>
   rw [hc]at h2;obtain⟨g1,g2,g3⟩:=h2;obtain _ | k:=k
   ·omega
   rw [g1,aDT];exact⟨_,rfl,rfl,g2,g3⟩
  | some s1=>
   rw [hc]at h2;have h2:L=_:=h2;subst h2;obtain⟨w1,u1⟩:=(visO p f).out _ _ _ _ hs hu hc;rw [bsm];exact ih (AB++[e]) k s1 (by omega) (by simp;omega) w1 (by omega)
abbrev T8:=List ByteArray × List AV × List AN × Int × List Int × List Int × List Int × Bool
def ROut8 (p:AI) (o:Option VS) (t:T8):Prop:=match o with
 | some s=>t=(p.AH,p.AD,p.AF,p.AG,s.sz,ob s.AR,ob s.AY,false)
 | none=>t.2.2.2.2.2.2.2=true/\t.2.2.2.2.2.1.length=p.AD.length/\t.2.2.2.2.2.2.1.length=p.AF.length
theorem rd1 (hv:RVis p f rec) {AA:Nat} {d:AN} (hd:okD d=true) (hf:3000<=AA) {z:Int} (hz:0<=z/\z+9+80*f<=100000) (AC:List Ai):∀ (AB:List Ai) (k:Nat) (s:VS),d.AP=AB++AC->AC.length<k->AB.length+AC.length<=3000000->WS p s->unm s<=f ->
 ∃ t,rH AA rec d z k AB.length p.AH p.AD p.AF p.AG s.sz (ob s.AR) (ob s.AY) false=some t/\ROut8 p (bY (vis p f) s (AC.map fun r=>(r.AU,z+brs d.AQ r.Ab))) t:=by
 induction AC with
 | nil=>
  intro AB k s he hk _ hs hu;obtain _ | k:=k
  ·omega
  exact⟨_,by rw [rH,he,a2c (by simp)],rfl⟩
 | cons e AC ih=>
  intro AB k s he hk hB hs hu;obtain _ | k:=k
  ·omega
  simp only [a0S]at hk hB;have hmem:e∈d.AP:=by rw [he];simp
  obtain⟨_,_,_,_,h5⟩:=eX hd;obtain⟨g1,g2⟩:=h5 e hmem;have hb:=oN g2;obtain⟨L,h1,h2⟩:=hv.run s e.AU (z+brs d.AQ e.Ab) hs hu (by omega) (by omega)
  rw [rH,he,a2d (aV _ _ _),<- he,a1X,show idx d.AP (AB.length:Int)=some e from by rw [he];exact aX _ _ _,bsm,bsm,
   show(⟨d.AQ,d.AS,d.AP⟩:AN)=d from rfl,more_eq hf hd hmem,bsm,aM (by omega),bsm,
   show(⟨⟨p.AH,p.AD,p.AF,p.AG⟩,s.sz,ob s.AR,ob s.AY,false⟩:Aj)=⟨p,s.sz,ob s.AR,ob s.AY,false⟩from rfl,h1,bsm,aM (by omega),bsm,aU AB e]
  simp only [a1a,bY];cases hc:vis p f s e.AU (z+brs d.AQ e.Ab)with
  | none=>
   rw [hc]at h2;obtain⟨g1,g2,g3⟩:=h2;obtain _ | k:=k
   ·omega
   rw [g1,d1_bad];exact⟨_,rfl,rfl,g2,g3⟩
  | some s1=>
   rw [hc]at h2;have h2:L=_:=h2;subst h2;obtain⟨w1,u1⟩:=(visO p f).out _ _ _ _ hs hu hc;rw [bsm];exact ih (AB++[e]) k s1 (by rw [he];simp) (by omega) (by simp;omega) w1 (by omega)
theorem rdef {m:Nat} (hv:RVis p f (gN m)) {d:AN} (hd:okD d=true) (hsm:smD d) (hm:3000000<=m) {z:Int} (hz:0<=z/\z+9+80*f<=100000) {s:VS} (hs:WS p s) (hu:unm s<=f):
 ∃ L,sV (m+1) ⟨p,s.sz,ob s.AR,ob s.AY,false⟩ d z=some L/\ROut p ((bY (vis p f) s (d.AP.map fun r=>(r.AU,z+brs d.AQ r.Ab))).bind fun s1=>bY (vis p f) s1 (d.AS.map fun y=>(y.AU,z))) L:=by
 obtain⟨c1,c2,c3,_⟩:=hsm
 obtain⟨t,h1,h2⟩:=rd1 hv hd (AA:=m) (by omega) hz d.AP [] m s rfl (by omega) (by simp;omega) hs hu
 simp only [a0W,a0q]at h1
 rw [sV,h1,bsm]
 cases hc:bY (vis p f) s (d.AP.map fun r=>(r.AU,z+brs d.AQ r.Ab))with
 | none=>
  rw [hc]at h2;obtain⟨a,b,c,e,sz,ow,us,bd⟩:=t;obtain⟨g1,g2,g3⟩:=h2;dsimp only at g1 g2 g3
  subst g1;obtain⟨m,rfl⟩:∃ k,m=k+1:=⟨m - 1,by omega⟩
  dsimp only
  rw [aDT];exact⟨_,rfl,rfl,g2,g3⟩
 | some s1=>
  rw [hc]at h2;have h2:t=_:=h2;subst h2;obtain⟨w1,u1⟩:=lK (visO p f) _ _ _ hs hu hc;obtain⟨L,h3,h4⟩:=rd2 hv (ch:=d.AQ) (ru:=d.AP) (z:=z) ⟨by omega,by omega⟩ d.AS [] m s1 (by omega) (by simp;omega) w1 (by omega)
  simp only [a1n,a0W,a0q]at h3;exact⟨L,h3,h4⟩
theorem rdef_bad {m:Nat} (hm:0<m) {L:Aj} (hb:L.bad=true) {d:AN} {z:Int}:sV (m+1) L d z=some L:=by
 obtain⟨k,rfl⟩:∃ k,m=k+1:=⟨m - 1,by omega⟩
 obtain⟨q,sz,ow,us,bd⟩:=L
 dsimp only at hb
 subst hb
 rw [sV]
 dsimp only
 rw [d1_bad,bsm]
 dsimp only
 rw [aDT]
end
theorem rn1_bad {AA:Nat} {op nn:Int} {ks:List Int} {z:Int} (AC:List AT):∀ (AB:List AT) (k:Nat),AC.length<k->AB.length+AC.length<=3000000 ->
 nY AA z ⟨op,nn,AB++AC,ks⟩ k AB.length true=some true:=by
 induction AC with
 | nil=>
  intro AB k hk _;obtain _ | k:=k
  ·omega
  rw [nY,a2c (by simp)]
 | cons e AC ih=>
  intro AB k hk hB;obtain _ | k:=k
  ·omega
  simp only [a0S]at hk hB;rw [nY,a2d (aV _ _ _),a1Y,bsm,aM (by omega),bsm,bA AB AC e,aU AB e];exact ih (AB++[e]) k (by omega) (by simp;omega)
theorem rn1 {AA:Nat} (hf:3000000<=AA) {op nn:Int} {ks:List Int} {z:Int} (AC:List AT):∀ (AB:List AT) (k:Nat),AC.length<k->AB.length+AC.length<=3000000->(∀ e∈AC,nE e<=2000000) ->
 nY AA z ⟨op,nn,AB++AC,ks⟩ k AB.length false=some (!AC.all (okE z)):=by
 induction AC with
 | nil=>
  intro AB k hk _ _;obtain _ | k:=k
  ·omega
  rw [nY,a2c (by simp)];rfl
 | cons e AC ih=>
  intro AB k hk hB he;obtain _ | k:=k
  ·omega
  simp only [a0S]at hk hB;have hn:=he e (.head _);rw [nY,a2d (aV _ _ _),a1X,show(e :: AC).all (okE z)=(okE z e && AC.all (okE z))from rfl];dsimp only
  rw [aX,bsm,aIo (by omega) (by omega),bsm,bsm,aM (by omega),bsm,bA AB AC e,aU AB e];cases h1:okE z e with
  | false=>exact rn1_bad AC (AB++[e]) k (by omega) (by simp;omega)
  | true=>
   rw [a0p];exact ih (AB++[e]) k (by omega) (by simp;omega) (fun x hx=>he x (.tail _ hx))
open Go.SX Go.SW Go.Dt
def tailR (AA:Nat) (a0:Aj) (a1 a2 z1:Int) (y5:AV):Option Aj:=
 (nY AA a2 y5 AA 0 a0.bad).bind fun x1=>
 ((if y5.Op=2 then
   some (decide (y5.Op=2))
 else
  if y5.Op=6 then
   some (decide (y5.Op=6))
  else
   some (decide (y5.Op=8))).bind fun x16=>
 bif x16 then
  bif x1 then
   some (Sum.inl (a2,a0.p.AH,a0.p.AD,a0.p.AF,a0.p.AG,a0.Ak.set a1.toNat a2,a0.Aq.set a1.toNat z1,a0.Ao,true))
  else
   if y5.N<0 then
    some (Sum.inl (a2,a0.p.AH,a0.p.AD,a0.p.AF,a0.p.AG,a0.Ak.set a1.toNat a2,a0.Aq.set a1.toNat z1,a0.Ao,true))
   else
    some (Sum.inl (a2,a0.p.AH,a0.p.AD,a0.p.AF,a0.p.AG,a0.Ak.set a1.toNat a2,a0.Aq.set a1.toNat z1,a0.Ao,decide (a2<=y5.N)))
 else
  if y5.Op=4 then
   if y5.N<0 then
    (some (⟨(⟨a0.p.AH,a0.p.AD,a0.p.AF,a0.p.AG⟩:AI),a0.Ak.set a1.toNat a2,a0.Aq.set a1.toNat z1,a0.Ao,true⟩:Aj)).bind fun r=>some (Sum.inr r)
   else
    if (a0.p.AF.length:Int)<=y5.N then
     (some (⟨(⟨a0.p.AH,a0.p.AD,a0.p.AF,a0.p.AG⟩:AI),a0.Ak.set a1.toNat a2,a0.Aq.set a1.toNat z1,a0.Ao,true⟩:Aj)).bind fun r=>some (Sum.inr r)
    else
     (idx a0.Ao y5.N).bind fun y9=>
     if 0<y9 then
      (some (⟨(⟨a0.p.AH,a0.p.AD,a0.p.AF,a0.p.AG⟩:AI),a0.Ak.set a1.toNat a2,a0.Aq.set a1.toNat z1,a0.Ao,true⟩:Aj)).bind fun r=>some (Sum.inr r)
     else
      (idx a0.Ao y5.N).bind fun y10=>
      (chk (y10+1)).bind fun z3=>
      (idx a0.Ao y5.N).bind fun _=>
      (idx a0.p.AF y5.N).bind fun y12=>
      (aBg y12).bind fun y13=>
      (chk (a2+y13)).bind fun z4=>
      (idx a0.p.AF y5.N).bind fun y14=>
      ((sV AA) (⟨(⟨a0.p.AH,a0.p.AD,a0.p.AF,a0.p.AG⟩:AI),a0.Ak.set a1.toNat a2,a0.Aq.set a1.toNat z1,a0.Ao.set y5.N.toNat z3,x1⟩:Aj) y14 z4).bind fun y15=>
      some (Sum.inl (z4,y15.p.AH,y15.p.AD,y15.p.AF,y15.p.AG,y15.Ak,y15.Aq,y15.Ao,y15.bad))
  else
   bif x1 then
    some (Sum.inl (a2,a0.p.AH,a0.p.AD,a0.p.AF,a0.p.AG,a0.Ak.set a1.toNat a2,a0.Aq.set a1.toNat z1,a0.Ao,true))
   else
    some (Sum.inl (a2,a0.p.AH,a0.p.AD,a0.p.AF,a0.p.AG,a0.Ak.set a1.toNat a2,a0.Aq.set a1.toNat z1,a0.Ao,decide (y5.N≠0)))).bind fun o=>match o with
 | Sum.inr r=>some r
 | Sum.inl (x7,x8,x9,x10,x11,x12,x13,x14,x15)=>
 nT (gN AA) y5 x7 AA 0 x8 x9 x10 x11 x12 x13 x14 x15
theorem rown_eq {d:AN} (h:d.AQ.length<=2000000) (h2:d.AS.length<=2000000):aBg d=some (own d):=by
 rw [aBg,aM (by omega),bsm];rfl
def jR (p:AI) (s:VS) (x:AV) (z:Int):Prop:=
 if x.Op=2\/x.Op=6\/x.Op=8 then 0<=x.N/\x.N<z else if x.Op=4 then 0<=x.N/\x.N<(p.AF.length:Int)/\idx s.AY x.N=some false else x.N=0
section
variable {p:AI} {f m:Nat}
theorem iU {q:AI} {sz ow us:List Int} (h1:ow.length=p.AD.length) (h2:us.length=p.AF.length):ROut p none ⟨q,sz,ow,us,true⟩:=⟨rfl,h1,h2⟩
open Classical in
theorem tailR_eq (hp:SmP p) (hall:∀ d∈p.AF,okD d=true) (hm:3000001<=m) (hv:RVis p f (gN m)) (hv':RVis p f (gN (m - 1))) {s:VS} (hs:WS p s) {n z:Int} {x:AV} (hx:x∈p.AD)
 (hun:∀ AY,unm ⟨s.sz.set n.toNat z,s.AR.set n.toNat true,AY⟩<=f) (hz:0<=z/\z+69+80*f<=100000):
 ∃ L,tailR m ⟨p,s.sz,ob s.AR,ob s.AY,false⟩ n z 1 x=some L/\ROut p (if x.AW.all (okE z)=true/\jR p s x z then rest p f s n z x else none) L:=by
 obtain⟨op,nn,ar,ks⟩:=x
 obtain⟨g1,g2,g3⟩:=hp.args _ hx
 dsimp only at g1 g2 g3
 obtain⟨m',rfl⟩:∃ k,m=k+1:=⟨m - 1,by omega⟩
 simp only [Nat.add_sub_cancel]at hv'
 have e1:=rn1 (AA:=m'+1) (by omega) (op:=op) (nn:=nn) (ks:=ks) (z:=z) ar [] (m'+1) (by omega) (by simp;omega) g3
 simp only [a1n,a0W,a0q]at e1
 have hsets:(ob s.AR).set n.toNat 1=ob (s.AR.set n.toNat true):=ob_set.symm
 have hl1:((ob s.AR).set n.toNat 1).length=p.AD.length:=by simp [iS,hs.AR]
 have hl2:(ob s.AY).length=p.AF.length:=by rw [iS,hs.AY]
 rw [tailR]
 dsimp only
 rw [e1,bsm]
 have good:∀ (zz:Int) (s1:VS),0<=zz->zz+80*f<=100000->WS p s1->unm s1<=f->∃ L,nT (gN (m'+1)) ⟨op,nn,ar,ks⟩ zz (m'+1) 0 p.AH p.AD p.AF p.AG s1.sz (ob s1.AR) (ob s1.AY) false=some L/\ROut p (bY (vis p f) s1 (ks.map fun k=>(k,zz))) L:=fun zz s1 a b c d=>by
  have:=rk2 hv (op:=op) (nn:=nn) (ar:=ar) (z:=zz) ⟨a,b⟩ ks [] (m'+1) s1 (by omega) (by simp;omega) c d
  simpa only [a1n,a0W,a0q] using this
 have w1:=(rU hs (p:=p) (i:=n.toNat) (j:=0) (z:=z)).1
 have hne4:op≠4->rest p f s n z ⟨op,nn,ar,ks⟩=bY (vis p f) ⟨s.sz.set n.toNat z,s.AR.set n.toNat true,s.AY⟩ (ks.map fun k=>(k,z)):=fun h=>by rw [rest,a2c h]
 by_cases o2:op=2\/op=6\/op=8
 ·have hb:((if op=2 then some (decide (op=2)) else if op=6 then some (decide (op=6)) else some (decide (op=8))):Option Bool)=some true:=by
   rcases o2 with rfl | rfl | rfl <;> rfl
  have hk:jR p s ⟨op,nn,ar,ks⟩ z ↔ (0<=nn/\nn<z):=by unfold jR;rw [a2d o2]
  rw [hb,bsm,a1Y];cases hall2:ar.all (okE z)with
  | false=>
   rw [a0n,a1Y,bsm];dsimp only
   rw [qB,a2c (fun q=>by cases q.1)]
   exact⟨_,rfl,iU hl1 hl2⟩
  | true=>
   rw [a0o,a1X];by_cases n0:nn<0
   ·rw [a2d n0,bsm];dsimp only
    rw [qB,a2c (fun q=>by have:=hk.1 q.2;omega)]
    exact⟨_,rfl,iU hl1 hl2⟩
   ·rw [a2c n0,bsm];dsimp only
    by_cases n1:z<=nn
    ·rw [a2a n1,qB,a2c (fun q=>by have:=hk.1 q.2;omega)]
     exact⟨_,rfl,iU hl1 hl2⟩
    ·rw [a1Z n1,a2d ⟨rfl,hk.2 ⟨by omega,by omega⟩⟩,hne4 (by omega),hsets];exact good z ⟨s.sz.set n.toNat z,s.AR.set n.toNat true,s.AY⟩ hz.1 (by omega) w1 (hun _)
 ·have hb:((if op=2 then some (decide (op=2)) else if op=6 then some (decide (op=6)) else some (decide (op=8))):Option Bool)=some false:=by
   rw [a2c (by omega),a2c (by omega),a1Z (by omega)]
  rw [hb,bsm,a1X];by_cases o4:op=4
  ·subst o4;have hk:jR p s ⟨4,nn,ar,ks⟩ z ↔ (0<=nn/\nn<(p.AF.length:Int)/\idx s.AY nn=some false):=by unfold jR;rw [a2c o2,a2d rfl]
   rw [a2d rfl];by_cases n0:nn<0
   ·rw [a2d n0,bsm,bsm];dsimp only
    rw [a2c (fun q=>by have:=hk.1 q.2;omega)]
    exact⟨_,rfl,iU hl1 hl2⟩
   ·rw [a2c n0];by_cases n1:(p.AF.length:Int)<=nn
    ·rw [a2d n1,bsm,bsm];dsimp only
     rw [a2c (fun q=>by have:=hk.1 q.2;omega)]
     exact⟨_,rfl,iU hl1 hl2⟩
    ·rw [a2c n1];obtain⟨b,hbb⟩:=eS (xs:=s.AY) (show 0<=nn by omega) (by rw [hs.AY];omega)
     obtain⟨d,hd⟩:=eS (xs:=p.AF) (show 0<=nn by omega) (by omega)
     have hok:=hall d (eC hd);have hsm:=hp.AY d (eC hd);obtain⟨k1,k2,k3,_,_⟩:=eX hok;have hown:0<=own d/\own d<=60:=by unfold own;omega
     rw [aDn hbb,bsm];cases b with
     | true=>
      rw [a2d rfl,a2d (by omega),bsm,bsm];dsimp only
      rw [a2c (fun q=>by have:=(hk.1 q.2).2.2;rw [hbb]at this;cases this)]
      exact⟨_,rfl,iU hl1 hl2⟩
     | false=>
      have hkk:jR p s ⟨4,nn,ar,ks⟩ z:=hk.2 ⟨by omega,by omega,hbb⟩
      rw [a2c a0m,a2c (by omega),bsm,aM (by omega),bsm,bsm,hd,bsm,rown_eq (by omega) (by omega),bsm,aM (by omega),bsm,bsm];have hsetd:(ob s.AY).set nn.toNat (0+1)=ob (s.AY.set nn.toNat true):=ob_set.symm;have w2:=(rU hs (p:=p) (i:=n.toNat) (j:=nn.toNat) (z:=z)).2;rw [hsets,hsetd];cases hall2:ar.all (okE z)with
      | false=>
       rw [a0n,rdef_bad (by omega) rfl,bsm,bsm];dsimp only
       rw [qB,a2c (fun q=>by cases q.1)]
       exact⟨_,rfl,iU (by rw [<- hsets];exact hl1) (by rw [iS];simp [hs.AY])⟩
      | true=>
       rw [a0o,a2d ⟨rfl,hkk⟩];obtain⟨L,h1,h2⟩:=rdef hv' hok hsm (by omega) (z:=z+own d) ⟨by omega,by omega⟩ w2 (hun (s.AY.set nn.toNat true))
       rw [show(⟨⟨p.AH,p.AD,p.AF,p.AG⟩,s.sz.set n.toNat z,ob (s.AR.set n.toNat true),ob (s.AY.set nn.toNat true),false⟩:Aj)=⟨p,s.sz.set n.toNat z,ob (s.AR.set n.toNat true),ob (s.AY.set nn.toNat true),false⟩from rfl,h1,bsm,bsm];dsimp only
       have hres:rest p f s n z ⟨4,nn,ar,ks⟩=((bY (vis p f) ⟨s.sz.set n.toNat z,s.AR.set n.toNat true,s.AY.set nn.toNat true⟩ (d.AP.map fun r=>(r.AU,z+own d+brs d.AQ r.Ab))).bind fun s1=>bY (vis p f) s1 (d.AS.map fun y=>(y.AU,z+own d))).bind fun s2=>bY (vis p f) s2 (ks.map fun k=>(k,z+own d)):=by
        rw [rest,a2d rfl];dsimp only;rw [hd,bsm,a2d hok,Option.bind_assoc]
       rw [hres];cases hc:(bY (vis p f) ⟨s.sz.set n.toNat z,s.AR.set n.toNat true,s.AY.set nn.toNat true⟩ (d.AP.map fun r=>(r.AU,z+own d+brs d.AQ r.Ab))).bind fun s1=>bY (vis p f) s1 (d.AS.map fun y=>(y.AU,z+own d))with
       | none=>
        rw [hc]at h2;obtain⟨q1,q2,q3⟩:=h2;rw [q1,qB];exact⟨_,rfl,rfl,q2,q3⟩
       | some s2=>
        rw [hc]at h2;have h2:L=_:=h2;subst h2;obtain⟨s1,a1,a2⟩:=bind_some hc;obtain⟨b1,b2⟩:=lK (visO p f) _ _ _ w2 (hun _) a1;have:=hun (s.AY.set nn.toNat true);obtain⟨c1,c2⟩:=lK (visO p f) _ _ _ b1 (by omega) a2
        rw [bsm];exact good (z+own d) s2 (by omega) (by omega) c1 (by omega)
  ·have hk:jR p s ⟨op,nn,ar,ks⟩ z ↔ nn=0:=by unfold jR;rw [a2c o2,a2c o4]
   rw [a2c o4];cases hall2:ar.all (okE z)with
   | false=>
    rw [a0n,a1Y,bsm];dsimp only
    rw [qB,a2c (fun q=>by cases q.1)]
    exact⟨_,rfl,iU hl1 hl2⟩
   | true=>
    rw [a0o,a1X,bsm];dsimp only
    by_cases n1:nn≠0
    ·rw [a2a n1,qB,a2c (fun q=>n1 (hk.1 q.2))];exact⟨_,rfl,iU hl1 hl2⟩
    ·rw [a1Z n1,a2d ⟨rfl,hk.2 (by omega)⟩,hne4 o4,hsets];exact good z ⟨s.sz.set n.toNat z,s.AR.set n.toNat true,s.AY⟩ hz.1 (by omega) w1 (hun _)
theorem aKC {op:Int} {k c:Nat} (h:shp op=some (k,c)):aBa op=some (if c=1 then -1 else if c=2 then 1 else 0,(k:Int),true):=by
 unfold shp at h
 split at h
 ·rename_i h1;cases h;rcases h1 with rfl | rfl <;> rfl
 split at h
 ·rename_i h1;cases h;subst h1;rfl
 split at h
 ·rename_i h1;cases h;subst h1;rfl
 split at h
 ·rename_i h1;cases h;subst h1;rfl
 split at h
 ·rename_i h1;cases h;rcases h1 with rfl | rfl <;> rfl
 split at h
 ·rename_i h1;cases h;subst h1;rfl
 ·cases h
theorem aJQ {op:Int} (h:shp op=none):aBa op=some (0,0,false):=by
 unfold shp at h
 rw [aBa]
 split at h;· cases h
 split at h;· cases h
 split at h;· cases h
 split at h;· cases h
 split at h;· cases h
 split at h;· cases h
 rename_i h1 h2 h3 h4 h5 h6
 rw [a2c (by omega),bsm,a1Z (by omega),a1X,a2c h3,a2c h2,a2c h4,a2c h6,a2c (by omega),bsm,a1Z (by omega),a1X]
def qX (c:Nat) (l:Nat):Prop:=if c=1 then l<=3 else if c=2 then l=1 else l=0
theorem aB7 {s:VS} {x:AV} {z:Int} {k c:Nat} (h:shp x.Op=some (k,c)):okM p s x z c ↔ jR p s x z/\qX c x.AW.length:=by
 have h0:=h
 unfold shp at h
 unfold jR qX
 split at h
 ·rename_i h1;cases h;rw [a2c (by omega),a2c (by omega)];simp [okM]
 split at h
 ·rename_i h1;cases h;rw [a2c (by omega),a2c (by omega)];simp [okM]
 split at h
 ·rename_i h1;cases h;rw [a2d (.inl h1)];simp [okM]
 split at h
 ·rename_i h1;cases h;rw [a2c (by omega),a2c (by omega)];simp [okM]
 split at h
 ·rename_i h1;cases h;rw [a2d (.inr h1)];simp [okM]
 split at h
 ·rename_i h1;cases h;rw [a2c (by omega),a2d h1];simp [okM]
 ·cases h
open Classical in
theorem rnode_go (hp:SmP p) (hall:∀ d∈p.AF,okD d=true) (hm:3000001<=m) (hv:RVis p f (gN m)) (hv':RVis p f (gN (m - 1))) {s:VS} (hs:WS p s) {n z:Int} (hu:unm s<=f+1) (hz:0<=z/\z+69+80*f<=100000) (h:0<=n/\n<(p.AD.length:Int)/\idx s.AR n=some false):
 ∃ L,gN (m+1) ⟨p,s.sz,ob s.AR,ob s.AY,false⟩ n z=some L/\ROut p (vis p (f+1) s n z) L:=by
 obtain⟨x,hx⟩:=eS h.1 h.2.1
 obtain⟨v1,v2⟩:=vis_go (f:=f) (z:=z) h hx
 have hun:∀ AY,unm ⟨s.sz.set n.toNat z,s.AR.set n.toNat true,AY⟩<=f:=fun AY=>by
  have:=aCG (p:=p) (z:=z) (AY:=AY) h.1 h.2.2;omega
 obtain⟨b,hb⟩:=eS (xs:=s.sz) h.1 (by rw [hs.sz];exact h.2.1)
 have hl1:((ob s.AR).set n.toNat 1).length=p.AD.length:=by simp [iS,hs.AR]
 have hl2:(ob s.AY).length=p.AF.length:=by rw [iS,hs.AY]
 have hgo:=tailR_eq hp hall hm hv hv' hs (n:=n) (z:=z) (eC hx) hun hz
 rw [gN]
 dsimp only
 rw [a2c (by omega),a2c (by omega),aDn h.2.2,bsm,a2c a0m,a2c (by omega),bsm,aM (by omega),bsm,bsm,hb,bsm,hx,bsm]
 cases hsh:shp x.Op with
 | none=>
  rw [aJQ hsh,bsm];dsimp only
  rw [a0n,a1Y,bsm,bsm,v2 (by rintro⟨⟨k,c,g,_⟩,_⟩;rw [hsh]at g;cases g)];exact⟨_,rfl,iU hl1 hl2⟩
 | some kc=>
  obtain⟨k,c⟩:=kc;rw [aKC hsh,bsm];dsimp only
  rw [a0o,a1X];by_cases hk:(x.AO.length:Int)≠(k:Int)
  ·rw [a2d hk,bsm,bsm,v2 (by rintro⟨⟨k',c',g,g2,_⟩,_⟩;rw [hsh]at g;cases g;omega)];exact⟨_,rfl,iU hl1 hl2⟩
  ·rw [a2c hk];have hfin:(if x.AW.all (okE z)=true/\jR p s x z then rest p f s n z x else none)=vis p (f+1) s n z\/¬ qX c x.AW.length:=by
    by_cases ha:qX c x.AW.length
    ·left
     by_cases hq:x.AW.all (okE z)=true/\jR p s x z
     ·rw [a2d hq,v1 ⟨⟨k,c,hsh,by omega,(aB7 hsh).2 ⟨hq.2,ha⟩⟩,hq.1⟩]
     ·rw [a2c hq,v2];rintro⟨⟨k',c',g,_,g3⟩,g4⟩
      rw [hsh]at g;cases g
      exact hq ⟨g4,((aB7 hsh).1 g3).1⟩
    ·exact .inr ha
   have hbad:¬ qX c x.AW.length->vis p (f+1) s n z=none:=fun ha=>v2 (by
    rintro⟨⟨k',c',g,_,g3⟩,_⟩
    rw [hsh]at g;cases g
    exact ha ((aB7 hsh).1 g3).2)
   obtain⟨L,e1,e2⟩:=hgo;by_cases ha:qX c x.AW.length
   ·rw [hfin.resolve_right (fun q=>q ha)]at e2;refine⟨L,?_,e2⟩;rw [<- e1];unfold qX at ha;by_cases c1:c=1
    ·rw [a2d c1]at ha ⊢;rw [a2d (by omega),a2c (by omega),a2c (by omega),bsm];rfl
    ·rw [a2c c1]at ha ⊢;by_cases c2:c=2
     ·rw [a2d c2]at ha ⊢;rw [a2c (by omega),a2d (by omega),a2c (by omega),bsm];rfl
     ·rw [a2c c2]at ha ⊢;rw [a2c (by omega),a2d (by omega),a2c (by omega),bsm];rfl
   ·rw [hbad ha];refine⟨⟨p,s.sz.set n.toNat z,(ob s.AR).set n.toNat 1,ob s.AY,true⟩,?_,iU hl1 hl2⟩;unfold qX at ha;by_cases c1:c=1
    ·rw [a2d c1]at ha ⊢;rw [a2d (by omega),a2d (by omega),bsm,bsm];rfl
    ·rw [a2c c1]at ha ⊢;by_cases c2:c=2
     ·rw [a2d c2]at ha ⊢;rw [a2c (by omega),a2d (by omega),a2d (by omega),bsm,bsm];rfl
     ·rw [a2c c2]at ha ⊢;rw [a2c (by omega),a2d (by omega),a2d (by omega),bsm,bsm];rfl
theorem aHj {s:VS} (hs:WS p s) {n z:Int} (h:¬ (0<=n/\n<(p.AD.length:Int)/\idx s.AR n=some false)):∃ L,gN (m+1) ⟨p,s.sz,ob s.AR,ob s.AY,false⟩ n z=some L/\ROut p none L:=by
 have hl1:(ob s.AR).length=p.AD.length:=by rw [iS,hs.AR]
 have hl2:(ob s.AY).length=p.AF.length:=by rw [iS,hs.AY]
 refine⟨⟨p,s.sz,ob s.AR,ob s.AY,true⟩,?_,iU hl1 hl2⟩
 rw [gN]
 dsimp only
 by_cases h0:n<0
 ·rw [a2d h0]
 ·rw [a2c h0];by_cases h1:(p.AD.length:Int)<=n
  ·rw [a2d h1]
  ·rw [a2c h1];obtain⟨b,hb⟩:=eS (xs:=s.AR) (show 0<=n by omega) (by rw [hs.AR];omega)
   cases b with
   | false=>exact absurd ⟨by omega,by omega,hb⟩ h
   | true=>rw [aDn hb,bsm,a2d rfl,a2d (by omega)]
end
theorem rvis {p:AI} (hp:SmP p) (hall:∀ d∈p.AF,okD d=true) (f:Nat):∀ g,3000003+2*f<=g->RVis p f (gN g):=by
 induction f with
 | zero=>
  intro g hg;obtain⟨g,rfl⟩:∃ k,g=k+1:=⟨g - 1,by omega⟩
  refine⟨fun s n z hs hu h0 h1=>?_⟩
  have h:¬ (0<=n/\n<(p.AD.length:Int)/\idx s.AR n=some false):=fun q=>by have:=aGZ q.2.2;omega
  rw [aAy h];exact aHj hs h
 | succ f ih=>
  intro g hg;obtain⟨g,rfl⟩:∃ k,g=k+1:=⟨g - 1,by omega⟩
  refine⟨fun s n z hs hu h0 h1=>?_⟩
  by_cases h:0<=n/\n<(p.AD.length:Int)/\idx s.AR n=some false
  ·exact rnode_go hp hall (m:=g) (by omega) (ih g (by omega)) (ih (g - 1) (by omega)) hs hu ⟨h0,by omega⟩ h
  ·rw [aAy h];exact aHj hs h
open Go.SX Go.SW Go.Dt
abbrev F:Nat:=1000000000
theorem aGn:∀ x y:List UInt8,Op.bytesLess x y=(!(Op.bytesLess y x || decide (y=x)))
 | [],[]=>rfl
 | [],b :: y=>by simp [Op.bytesLess]
 | a :: x,[]=>by simp [Op.bytesLess]
 | a :: x,b :: y=>by
  have ih:=aGn x y;simp only [Op.bytesLess,ih];by_cases h1:a<b
  ·have h2:¬ b<a:=fun h=>by have:=UInt8.lt_trans h1 h;exact absurd this (by simp)
   have h3:b≠a:=fun h=>by subst h;exact absurd h1 (by simp)
   simp [h1,h2,h3]
  ·by_cases h2:b<a
   ·have h3:a≠b:=fun h=>by subst h;exact absurd h2 (by simp)
    simp [h1,h2,h3]
   ·have h3:a=b:=by
     have a1:=UInt8.not_lt.1 h1;have a2:=UInt8.not_lt.1 h2
     exact UInt8.le_antisymm a2 a1
    subst h3;simp
theorem slt_sle (a b:ByteArray):slt a b=!sle b a:=by
 have he:decide (b=a)=decide (b.toList=a.toList):=by
  rw [decide_eq_decide];exact⟨fun h=>by rw [h],fun h=>(by have:=(str_eq (i:=b) (j:=a));rw [beq_iff_eq.2 h]at this;exact of_decide_eq_true this.symm)⟩
 unfold sle slt
 rw [he];exact aGn _ _
theorem aFA (s:ByteArray):∀ (k:Nat) (i:Int),aAz s k i=gW s k i
 | 0,_=>rfl
 | k+1,i=>by
  rw [aAz,gW];simp only [aFA s k]
theorem aGa {s:ByteArray} (hs:s.size<=2000000):∀ (k i:Nat),s.size<k+i->i<=s.size->gW s k (i:Int)=some (.inr false)\/gW s k (i:Int)=some (.inl ())
 | 0,i,h,h2=>by omega
 | k+1,i,h,h2=>by
  rw [gW];by_cases hi:i<s.size
  ·have hx:sidx s (i:Int)=some ((s[i]'hi).toNat:Int):=by
    unfold sidx;rw [a2d (by omega)];simp [hi]
   rw [a2d (by omega),hx,bsm];by_cases c1:((s[i]'hi).toNat:Int)<97
   ·rw [a2d c1];exact .inl rfl
   ·rw [a2c c1,bsm];by_cases c2:122<((s[i]'hi).toNat:Int)
    ·rw [a2d c2];exact .inl rfl
    ·rw [a2c c2,aM (by omega),bsm];exact aGa hs k (i+1) (by omega) (by omega)
  ·rw [a2c (by omega)];exact .inr rfl
theorem aFx {s:ByteArray} (hs:s.size<=2000000):∀ (k k' i:Nat),s.size<k+i->s.size<k'+i->i<=s.size->gW s k (i:Int)=gW s k' (i:Int)
 | 0,_,i,h,_,h2=>by omega
 | _,0,i,_,h,h2=>by omega
 | k+1,k'+1,i,h,h',h2=>by
  rw [gW,gW];by_cases hi:i<s.size
  ·have e:=aFx hs k k' (i+1) (by omega) (by omega) (by omega)
   have e2:((i+1:Nat):Int)=(i:Int)+1:=by omega
   rw [e2]at e;simp only [aM (i:=(i:Int)+1) (by omega),bsm,e]
  ·rw [a2c (by omega),a2c (by omega)]
open Classical in
theorem has_loop {a:ByteArray} (AC:List ByteArray):∀ (AB:List ByteArray) (k:Nat),AC.length<k->AB.length+AC.length<=3000000->yZ (AB++AC) a k AB.length=some (if a∈AC then .inr true else .inl ()):=by
 induction AC with
 | nil=>
  intro AB k hk _;obtain _ | k:=k
  ·omega
  rw [yZ,a2c (by simp),a2c (by simp)]
 | cons e AC ih=>
  intro AB k hk hB;obtain _ | k:=k
  ·omega
  simp only [a0S]at hk hB;rw [yZ,a2d (aV _ _ _),aX,bsm];by_cases he:e=a
  ·rw [a2d he,a2d (by simp [he])];rfl
  ·have hm:(a∈e :: AC) ↔ a∈AC:=by simp [Ne.symm he]
   rw [a2c he,aM (by omega),bsm,bA AB AC e,aU AB e,ih (AB++[e]) k (by omega) (by simp;omega)];by_cases hs:a∈AC
   ·rw [a2d hs,a2d (hm.2 hs)]
   ·rw [a2c hs,a2c (fun q=>hs (hm.1 q))]
open Classical in
theorem pR {f:Nat} {l:List ByteArray} {a:ByteArray} (hf:3900000<=f) (h:l.length<=3000000):aCO f l a=some (decide (a∈l)):=by
 have:=has_loop (a:=a) l [] f (by omega) (by simp;omega)
 simp only [a1n,a0W,a0q]at this
 rw [aCO,this,bsm]
 by_cases hs:a∈l
 ·rw [a2d hs];simp [hs]
 ·rw [a2c hs];simp [hs]
theorem upd_get {g:aG ByteArray Bool} {k s:ByteArray}:(aG.upd g k true).get s=if s=k then some true else g.get s:=rfl
theorem aEN {f:Nat} (hf:3900000<=f) {s:ByteArray} (hs:s.size<=2000000):∃ b,rK F s=some b/\aAv f s=some b:=by
 have hl:=aGa hs F 0 (by show s.size<1000000000+0;omega) (by omega)
 have hle:=aFx hs f F 0 (by omega) (by show s.size<1000000000+0;omega) (by omega)
 simp only [a0q]at hl hle
 rw [rK,aAv,aFA,hle]
 by_cases c1:(s.size:Int)<1
 ·rw [a2d c1];refine⟨false,?_,rfl⟩;rcases hl with h | h <;> rw [h,bsm]
  dsimp only
  rw [a2c (by omega)];rfl
 ·rw [a2c c1];by_cases c2:8<(s.size:Int)
  ·rw [a2d c2];refine⟨false,?_,rfl⟩;rcases hl with h | h <;> rw [h,bsm]
   dsimp only
   rw [a2d (by omega),a2c (by omega)];rfl
  ·rw [a2c c2];rcases hl with h | h
   ·rw [h];exact⟨false,rfl,rfl⟩
   ·rw [h,bsm,bsm];dsimp only
    rw [a2d (by omega),a2d (by omega),pR hf (by simp),bsm];refine⟨_,?_,rfl⟩;rw [aAP,bsm,bsm];congr 2
    simp only [upd_get,aG.none,a1f,List.not_mem_nil,or_false]
    repeat' split
    all_goals simp_all
def nm (s:ByteArray):Bool:=(rK F s).getD false
theorem nm_p {s:ByteArray} (hs:s.size<=2000000):rK F s=some (nm s):=by
 obtain⟨b,h,_⟩:=aEN (f:=F) (by decide) hs;unfold nm;rw [h];rfl
theorem nm_r {f:Nat} {s:ByteArray} (hs:s.size<=2000000) (hf:3900000<=f:=by decide):aAv f s=some (nm s):=by
 obtain⟨b,h,h2⟩:=aEN hf hs;unfold nm;rw [h,h2];rfl
def okF:Option ByteArray->List ByteArray->Bool
 | _,[]=>true
 | q,s :: l=>nm s && (match q with | none=>true | some q=>slt q s) && okF (some s) l
theorem aGl {α:Type} {AB AC:List α} {y:α} (h:0<AB.length):∃ q,AB.getLast? =some q/\idx (AB++y :: AC) ((AB.length:Int) - 1)=some q:=by
 have hne:AB≠[]:=fun e=>by rw [e]at h;simp at h
 have hd:=List.dropLast_concat_getLast hne
 generalize AB.dropLast=d,AB.getLast hne=q at hd
 subst hd
 refine⟨q,by simp,?_⟩
 rw [show(((d++[q]).length:Int) - 1)=(d.length:Int)from by simp]
 exact iP (by simp)
theorem fl1 {nodes:List AV} {Ad:List AN} {mn:Int} (AC:List ByteArray):∀ (AB:List ByteArray) (k:Nat),AC.length<k->AB.length+AC.length<=3000000->(∀ x∈AC,x.size<=2000000) ->
 lS F ⟨AB++AC,nodes,Ad,mn⟩ k AB.length=some (if okF AB.getLast? AC=true then .inl () else .inr (.inr flaw)):=by
 induction AC with
 | nil=>
  intro AB k hk _ _;obtain _ | k:=k
  ·omega
  rw [lS,a2c (by simp),a2d (by rfl)]
 | cons e AC ih=>
  intro AB k hk hB hx;obtain _ | k:=k
  ·omega
  simp only [a0S]at hk hB;have hgl:(AB++[e]).getLast? =some e:=by simp
  rw [lS,a2d (aV _ _ _)];dsimp only
  rw [aX,bsm,nm_p (hx e (.head _)),bsm];have hst:okF AB.getLast? (e :: AC)=(nm e && (match AB.getLast? with | none=>true | some q=>slt q e) && okF (some e) AC):=by
   cases AB.getLast? <;> rfl
  cases hn:nm e with
  | false=>rw [hst,hn,Bool.false_and,Bool.false_and];rfl
  | true=>
   rw [a1Y];rw [hn,a0p]at hst;have hnext:=ih (AB++[e]) k (by omega) (by simp;omega) (fun x h=>hx x (.tail _ h))
   rw [hgl]at hnext;by_cases h0:(AB.length:Int)=0
   ·have:AB=[]:=a0z (by omega)
    subst this;have hst:okF ([]:List ByteArray).getLast? (e :: AC)=okF (some e) AC:=by rw [hst];rfl
    rw [a2d h0,eB,bsm,hst];dsimp only
    rw [bsm];dsimp only
    rw [aM (by simp),bsm,bA [] AC e,aU [] e,hnext]
   ·obtain⟨q,h1,h2⟩:=aGl (AB:=AB) (AC:=AC) (y:=e) (by omega)
    have hst:okF AB.getLast? (e :: AC)=(slt q e && okF (some e) AC):=by rw [hst,h1]
    rw [a2c h0,aM (by omega),bsm,h2,bsm,hst];cases hl:slt q e with
    | false=>rfl
    | true=>
     rw [eB,bsm,a0p];dsimp only
     rw [bsm];dsimp only
     rw [aM (by omega),bsm,bA AB AC e,aU AB e,hnext]
theorem fr_bad {f:Nat} {p:AI} (AC:List ByteArray):∀ (AB:List ByteArray) (k:Nat),p.AH=AB++AC->AC.length<k->AB.length+AC.length<=3000000->mO f p k AB.length true=some true:=by
 induction AC with
 | nil=>
  intro AB k he hk _;obtain _ | k:=k
  ·omega
  rw [mO,he,a2c (by simp)]
 | cons e AC ih=>
  intro AB k he hk hB;obtain _ | k:=k
  ·omega
  simp only [a0S]at hk hB;rw [mO,he,a2d (aV _ _ _),a1Y,bsm,aM (by omega),bsm,aU AB e];exact ih (AB++[e]) k (by rw [he];simp) (by omega) (by simp;omega)
theorem fr1 {f:Nat} (hf:3900000<=f) {p:AI} (AC:List ByteArray):∀ (AB:List ByteArray) (k:Nat),p.AH=AB++AC->AC.length<k->AB.length+AC.length<=3000000->(∀ x∈AC,x.size<=2000000) ->
 mO f p k AB.length false=some (!okF AB.getLast? AC):=by
 induction AC with
 | nil=>
  intro AB k he hk _ _;obtain _ | k:=k
  ·omega
  rw [mO,he,a2c (by simp)];rfl
 | cons e AC ih=>
  intro AB k he hk hB hx;obtain _ | k:=k
  ·omega
  simp only [a0S]at hk hB;have hgl:(AB++[e]).getLast? =some e:=by simp
  have hst:okF AB.getLast? (e :: AC)=(nm e && (match AB.getLast? with | none=>true | some q=>slt q e) && okF (some e) AC):=by
   cases AB.getLast? <;> rfl
  have hnext:=ih (AB++[e]) k (by rw [he];simp) (by omega) (by simp;omega) (fun x h=>hx x (.tail _ h))
  have hbadn:=fr_bad (f:=f) (p:=p) AC (AB++[e]) k (by rw [he];simp) (by omega) (by simp;omega)
  rw [hgl]at hnext;rw [mO,he,a2d (aV _ _ _),a1X,aX,bsm,nm_r (hx e (.head _)) hf,bsm,hst];cases hn:nm e with
  | false=>
   rw [a0n,a1Y,bsm,aM (by omega),bsm,aU AB e,hbadn];rfl
  | true=>
   rw [a0o,a1X,a0p];by_cases h0:0<(AB.length:Int)
   ·obtain⟨q,h1,h2⟩:=aGl (AB:=AB) (AC:=AC) (y:=e) (by omega)
    have hst2:(match AB.getLast? with | none=>true | some q=>slt q e)=!sle e q:=by rw [h1];exact slt_sle q e
    rw [hst2,a2d h0,bsm,aM (by omega),bsm,h2,bsm,bsm,aM (by omega),bsm,aU AB e];cases hl:sle e q with
    | true=>rw [hbadn];rfl
    | false=>rw [hnext];rfl
   ·have:AB=[]:=a0z (by omega)
    subst this;rw [a2c h0,bsm,aM (by simp),bsm,aU [] e,hnext];simp
end Go.Proofs.YtgidgoahhepmlaaGreat
