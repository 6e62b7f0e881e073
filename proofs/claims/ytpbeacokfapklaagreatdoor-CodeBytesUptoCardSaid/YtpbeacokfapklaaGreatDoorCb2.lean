/- Parts of the proof: lemmas, and the steps through the program. -/
import Derived.Test.YtpbeacokfapklaaGreatDoorCb1
import Derived.Laws.MakeOwn
import Derived.Great.BuildSlice
import Derived.Laws.Append
import Derived.Lib.Builder
import Derived.Lib.UnsafeStr
import Derived.Laws.Externs
import Derived.RangeFuncLeaves
import Derived.RangeFuncRecord
import Derived.RecoverIn
import Derived.RangeFuncNested
import Derived.LoopNIn
import Derived.OrdersIn
import Derived.Test.YtpbeacokfapklaaGreatDoorProg
import Derived.KernelRfl
set_option linter.unusedVariables false
set_option linter.unusedSimpArgs false
set_option maxRecDepth 100000
set_option maxHeartbeats 2000000
namespace Go.BX
open RowKit (Below)
noncomputable section
section
variable {P:Program}
theorem pS {t:Nat} {i:TypeInfo} (h:info P t=some i):P.info? t=some i:=by
 have e:at_ (sO P.types.toList 0 .leaf fun t=>t) t=some i:=h
 rw [aBg]at e
 split at e
 ·rename_i hlt;have:t<P.types.size:=by simpa using hlt.2
  unfold Tables.info?
  rw [a1H this];simpa using e
 ·rw [xE]at e;cases e
theorem dD {t:Nat} {d:TypeDesc} (h:und P t=some d):P.underlying t=some d:=by
 unfold und at h
 unfold Program.underlying
 cases hi:info P t with
 | none=>rw [hi]at h;cases h
 | some i=>
  rw [hi]at h;rw [pS hi];simp only [und1]at h ⊢;obtain⟨desc,a1,a2,a3,a4,a5,a6,a7,a8,a9⟩:=i;cases desc <;> first
   | exact h
   | (rename_i nm u
      simp only at h ⊢
      cases hu:info P u with
      | none=>rw [hu]at h;cases h
      | some j=>rw [hu]at h;rw [pS hu];exact h)
theorem lT {t n:Nat} (h:szT P t=some n):∃ i,P.info? t=some i/\i.size=n:=by
 unfold szT at h
 cases hi:info P t with
 | none=>rw [hi]at h;cases h
 | some i=>rw [hi]at h;cases h;exact⟨i,pS hi,rfl⟩
theorem zer_tv {t:Nat} {z:V} (ρ:Rho) (h:zer P t=some z):∃ i zv,P.info? t=some i/\i.zero=some zv/\tv ρ z=some zv:=by
 unfold zer at h
 cases hi:info P t with
 | none=>rw [hi]at h;cases h
 | some i=>
  rw [hi]at h;simp only at h
  cases hz:i.zero with
  | none=>rw [hz]at h;cases h
  | some zv=>rw [hz]at h;exact⟨i,zv,pS hi,hz,uI ρ zv h⟩
theorem lA {t:Nat} {z:V} {ρ:Rho} (h:zer P t=some z) (w:World):∃ zv,(zeroValue t).run P w= .ok zv w/\tv ρ z=some zv:=by
 obtain⟨i,zv,h1,h2,h3⟩:=zer_tv ρ h
 exact⟨zv,by simp [zeroValue,a1B,SX.run_typeInfo h1,h2,Sem.run,pure],h3⟩
theorem yP {t n:Nat} (h:szT P t=some n) (w:World):(sizeOf t).run P w= .ok n w:=by
 obtain⟨i,h1,rfl⟩:=lT h
 exact SX.run_sizeOf h1 w
theorem aEC {t:Nat} {s:Option Nat} (h:shp P t=some s) (w:World):(isAgg t).run P w= .ok s.isSome w/\∀ n,s=some n->(sizeOf t).run P w= .ok n w:=by
 unfold shp at h
 cases hu:und P t with
 | none=>rw [hu]at h;cases h
 | some d=>
  rw [hu]at h;have hU:=SX.run_underlying (dD hu) w;cases d <;> simp only at h <;> first
   | (cases h;exact⟨by simp [isAgg,a1B,hU,Sem.run,pure],fun n e=>by cases e⟩)
   | (cases hs:szT P t with
      | none=>rw [hs]at h;cases h
      | some m=>rw [hs]at h;cases h;exact⟨by simp [isAgg,a1B,hU,Sem.run,pure],fun n e=>by cases e;exact yP hs w⟩)
end
def OkV (P:Program) (o:Oper) (a:Act) (w:World) (g:G) (ρ:Rho) (r:O × S) (kv:KV):Prop:=
 ∃ v x ρ' h' nx' lg' w',((execOp a.eval o).run P w= .ok (.value x) w'\/((execOp a.eval o).run P w= .ok .skip w'/\x=undef))/\ρ.le ρ'/\Rel g ρ' h' nx' w'/\tv ρ' v=some x/\run (kv v) h' nx' lg'=some r
section
variable {P:Program} {o:Oper} {a:Act} {w:World} {g:G} {ρ:Rho} {r:O × S} {kv:KV} {kp:List PE->AI} {kd:Df->AI} {e:Tr V} {n:Nat} {h:Tr Blk} {nx:Nat} {lg:List Fp} {ex:Ex}
theorem OkV.pure {v:V} {x:Value} (R:Rel g ρ h nx w) (hx:(execOp a.eval o).run P w= .ok (.value x) w) (ht:tv ρ v=some x) (q:run (kv v) h nx lg=some r):OkV P o a w g ρ r kv:=
 ⟨v,x,ρ,h,nx,lg,w, .inl hx,Rho.le_refl ρ,R,ht,q⟩
theorem qL {k:IntKind} {n:Int} {x:Value} (h:tv ρ (.int k n)=some x):x= .int k n:=by cases h;rfl
theorem aDZ {b:Bool} {x:Value} (h:tv ρ (.bool b)=some x):x= .bool b:=by cases h;rfl
theorem jH {b off:Nat} {x:Value} (h:tv ρ (.ptr b off)=some x):∃ y,ρ b=some y/\x= .pointer (some ⟨y.1,off,none⟩):=by
 simp only [tv,a1v]at h
 obtain⟨y,h1,rfl⟩:=h;exact⟨y,h1,rfl⟩
theorem tv_tup {l:List V} {x:Value} (h:tv ρ (.tup l)=some x):∃ r,tvs ρ l=some r/\x= .tuple ⟨r⟩:=by
 simp only [tv]at h
 cases ha:tvs ρ l with
 | none=>rw [ha]at h;cases h
 | some r=>rw [ha]at h;cases h;exact⟨r,rfl,rfl⟩
theorem s_move {x:Operand} (ho:o.op= .move x\/o.op= .assign x) (he:bN ρ e n a.tmps) (R:Rel g ρ h nx w) (q:run (mF x P ex e kv kp kd) h nx lg=some r):OkV P o a w g ρ r kv:=by
 obtain⟨v,h1,q1⟩:=fH q
 exact .pure R (by rcases ho with ho | ho <;> simp [execOp,ho,Sem.run,Pure.pure]) (cJ he h1) q1
theorem s_pick {c x y:Operand} (ho:o.op= .pick c x y) (he:bN ρ e n a.tmps) (R:Rel g ρ h nx w) (q:run (xM c x y P ex e kv kp kd) h nx lg=some r):OkV P o a w g ρ r kv:=by
 obtain⟨v,u,t,h1,h2,h3,q1⟩:=aC2 q
 obtain⟨b,rfl,q2⟩:=aFN q1
 have hb:=aDZ (cJ he h1)
 cases b with
 | true=>exact .pure R (by simp [execOp,ho,hb,Go.asBool,a1B,Sem.run,Pure.pure]) (cJ he h2) q2
 | false=>exact .pure R (by simp [execOp,ho,hb,Go.asBool,a1B,Sem.run,Pure.pure]) (cJ he h3) q2
theorem aDI {t:Nat} {s:Option Nat} {b off:Nat} {y:Nat × Nat} {k:V->AI} (R:Rel g ρ h nx w) (hs:shp P t=some s) (hb:ρ b=some y) (q:run (loadS s b off k) h nx lg=some r):
 ∃ v x lg',(loadVar t ⟨y.1,off,none⟩).run P w= .ok x w/\tv ρ v=some x/\run (k v) h nx lg'=some r:=by
 obtain⟨hA,hsz⟩:=aEC hs w
 rcases iU q with⟨rfl,q1⟩ | ⟨m,rfl,q1⟩
 ·rw [aEn]at q1;obtain⟨v,h1,n1,l,e1,q2⟩:=cZ q1;obtain⟨x,u,h2,h3,h4,_,rfl,rfl⟩:=aGx R e1;rw [hb]at h2;cases h2
  exact⟨v,u,_,by simp [loadVar,a1B,hA,Go.load,Sem.run,h3],h4,q2⟩
 ·have hm:=hsz m rfl;rcases gT q1 with⟨h0,q3⟩ | ⟨_,q3⟩
  ·have:=a1j h0;subst this;exact⟨.agg [], .agg #[],lg,by simp [loadVar,a1B,hA,hm,loadCells,loadCellsFrom,Sem.run,Pure.pure],rfl,q3⟩
  ·rw [zO]at q3;obtain⟨v,h1,n1,l,e1,q4⟩:=cZ q3;obtain⟨x,rr,h2,h3,h4,_,rfl,rfl⟩:=aCt (P:=P) R e1;rw [hb]at h2;cases h2
   exact⟨.agg v, .agg ⟨rr⟩,_,by simp [loadVar,a1B,hA,hm,h3,Sem.run,Pure.pure],zY h4,q4⟩
theorem s_load {t:Nat} {x:Operand} (ho:o.op= .load t x) (he:bN ρ e n a.tmps) (R:Rel g ρ h nx w) (q:run (yM t x P ex e kv kp kd) h nx lg=some r):OkV P o a w g ρ r kv:=by
 obtain⟨v,h1,q1⟩:=fH q
 obtain⟨s,hs,q2⟩:=bI q1
 obtain⟨b,off,rfl,q3⟩:=sC q2
 obtain⟨y,hb,hx⟩:=jH (cJ he h1)
 obtain⟨u,z,lg',h2,h3,q4⟩:=aDI R hs hb q3
 exact .pure R (by simp [execOp,ho,hx,Instr.loadAt,Instr.sureAddr,a1B,h2,Sem.run,Pure.pure]) h3 q4
theorem s_store {t:Nat} {x y:Operand} (ho:o.op= .store t x y) (he:bN ρ e n a.tmps) (R:Rel g ρ h nx w) (q:run (wA t x y P ex e kv kp kd) h nx lg=some r):OkV P o a w g ρ r kv:=by
 obtain⟨p,v,h1,h2,q1⟩:=rJ q
 obtain⟨sz,hs,q2⟩:=bI q1
 obtain⟨b,off,rfl,q3⟩:=sC q2
 obtain⟨c,hc,q4⟩:=bI q3
 obtain⟨hlen,q5⟩:=cC q4
 rw [ln0]at hlen
 have hlen:=a1j hlen
 obtain⟨y',hb,hx⟩:=jH (cJ he h1)
 have hcc:=uK hc (cJ he h2)
 have hl:=hcc.len
 have hsz:=yP hs w
 rcases gT q5 with⟨h0,q6⟩ | ⟨_,q6⟩
 ·have:=a1j h0;subst this;have h0':(a.eval y).cells.toList=[]:=a0u (by omega)
  have h0s:(a.eval y).cells.size=0:=by rw [<- a0e,h0'];rfl
  refine⟨dY,undef,ρ,h,nx,lg,w, .inr ⟨?_,rfl⟩,Rho.le_refl ρ,R,rfl,q6⟩;simp [execOp,ho,hx,Instr.storeAt,Instr.sureAddr,storeVar,a1B,hsz,h0s,h0',storeCells,Sem.run,Pure.pure]
 ·rw [yL]at q6;obtain⟨_,h1',n1,l,e1,q7⟩:=cZ q6;obtain⟨y2,w',g1,g2,g3⟩:=zI (P:=P) R e1 hcc;rw [hb]at g1;cases g1
  have h0s:(a.eval y).cells.size=sz:=by rw [<- a0e];omega
  refine⟨dY,undef,ρ,h1',n1,_,w', .inr ⟨?_,rfl⟩,Rho.le_refl ρ,g3,rfl,q7⟩;simp [execOp,ho,hx,Instr.storeAt,Instr.sureAddr,storeVar,a1B,hsz,h0s,g2,Sem.run,Pure.pure]
theorem aAf {c:List V} {l:List Value} {t:Nat} {k:Nat->AI} (R:Rel g ρ h nx w) (hc:cells ρ c l) (hi:r.2.nx<=g.hi) (q:run (.new c t 0 k) h nx lg=some r):
 ∃ b ρ' h' nx' lg',(Go.newRow t ⟨l⟩).run P w= .ok ⟨w.heap.size,0,none⟩ (w.alloc (.cells ⟨l⟩ t))/\ρ.le ρ'/\Rel g ρ' h' nx' (w.alloc (.cells ⟨l⟩ t))/\(∃ κ,ρ' b=some (w.heap.size,κ))/\run (k b) h' nx' lg'=some r:=by
 rw [aAs]at q
 obtain⟨b,h1,n1,m,e1,q1⟩:=cZ q
 have hn1:=a1m (pH q1) hi
 have hn:ρ nx=none:=by
  unfold iS at e1;split at e1
  ·cases e1;exact R.fresh nx (a1l _) hn1
  ·cases e1
 have hle:=Rho.le_ins (x:=(w.heap.size,0)) hn
 obtain⟨rfl,h2,h3⟩:=yG R e1 hn1 0 (.cells ⟨l⟩ t) ⟨rfl,rfl,l,[],hc.mono hle,by simp,fun _=>rfl,fun h=>absurd h (Nat.lt_irrefl 0)⟩
 exact⟨b,_,h1,n1,_,by simp [newRow,newObj,a1B,Sem.run,Pure.pure],h2,h3,⟨0,Rho.ins_self⟩,q1⟩
theorem wJ {b off:Nat} {x κ:Nat} (h:ρ b=some (x,κ)):tv ρ (.ptr b off)=some (.pointer (some ⟨x,off,none⟩)):=by simp [tv,h]
theorem s_alloc {t:Nat} (ho:o.op= .alloc t) (hi:r.2.nx<=g.hi) (R:Rel g ρ h nx w) (q:run (yX t P ex e kv kp kd) h nx lg=some r):OkV P o a w g ρ r kv:=by
 obtain⟨z,hz,q1⟩:=bI q
 obtain⟨c,hc,q2⟩:=bI q1
 obtain⟨zv,h1,h2⟩:=lA (ρ:=ρ) hz w
 obtain⟨b,ρ',h',nx',lg',g1,g2,g3,⟨κ,g4⟩,q3⟩:=aAf (P:=P) R (uK hc h2) hi q2
 refine⟨.ptr b 0,_,ρ',h',nx',lg',_, .inl ?_,g2,g3,wJ g4,q3⟩
 simp [execOp,ho,Instr.alloc,a1B,h1,newVar,g1,Sem.run,Pure.pure]
theorem s_box {t:Nat} {x:Operand} (ho:o.op= .box t x) (he:bN ρ e n a.tmps) (hi:r.2.nx<=g.hi) (R:Rel g ρ h nx w) (q:run (hBox t x P ex e kv kp kd) h nx lg=some r):OkV P o a w g ρ r kv:=by
 obtain⟨v,h1,q1⟩:=fH q
 obtain⟨c,hc,q2⟩:=bI q1
 obtain⟨b,ρ',h',nx',lg',g1,g2,g3,⟨κ,g4⟩,q3⟩:=aAf (P:=P) R (uK hc (cJ he h1)) hi q2
 refine⟨.ptr b 0,_,ρ',h',nx',lg',_, .inl ?_,g2,g3,wJ g4,q3⟩
 simp [execOp,ho,Instr.box,a1B,newVar,g1,Sem.run,Pure.pure]
theorem s_nil {x:Operand} (ho:o.op= .nilCheck x) (he:bN ρ e n a.tmps) (R:Rel g ρ h nx w) (q:run (hNil x P ex e kv kp kd) h nx lg=some r):OkV P o a w g ρ r kv:=by
 obtain⟨v,h1,q1⟩:=fH q
 have ht:=cJ he h1
 have key:run (kv v) h nx lg=some r/\(execOp a.eval o).run P w= .ok (.value (a.eval x)) w:=by
  cases v <;> first
   | (cases q1;done)
   | skip
  ·obtain⟨y,_,hx⟩:=jH ht;exact⟨q1,by simp [execOp,ho,hx,Sem.run,Pure.pure]⟩
  ·simp only [tv]at ht;rename_i f a1 c1;cases ha:tvs ρ a1 with
   | none=>rw [ha]at ht;cases ht
   | some y=>
    rw [ha]at ht;simp only at ht
    cases hc:tvs ρ c1 with
    | none=>rw [hc]at ht;cases ht
    | some z=>rw [hc]at ht;simp only [a1z]at ht;exact⟨q1,by simp [execOp,ho,<- ht,Sem.run,Pure.pure]⟩
  ·simp only [tv,a1v]at ht;obtain⟨y,_,hx⟩:=ht;exact⟨q1,by simp [execOp,ho,<- hx,Sem.run,Pure.pure]⟩
 exact .pure R key.2 ht key.1
theorem s_ext {x:Operand} {i:Nat} (ho:o.op= .extract x i) (he:bN ρ e n a.tmps) (R:Rel g ρ h nx w) (q:run (hExt x i P ex e kv kp kd) h nx lg=some r):OkV P o a w g ρ r kv:=by
 obtain⟨v,h1,q1⟩:=fH q
 obtain⟨l,rfl,q2⟩:=aGw q1
 obtain⟨u,h2,q3⟩:=bI q2
 obtain⟨rr,h3,hx⟩:=tv_tup (cJ he h1)
 rw [mC]at h2
 obtain⟨y,h4,h5⟩:=aAH h3 h2
 exact .pure R (by simp [execOp,ho,hx,Instr.extract,h4,a1B,Sem.run,Pure.pure]) h5 q3
theorem aEc {t:Nat} (hh:noIf P t=true):∃ d,P.underlying t=some d/\∀ ms,d≠ .interface ms:=by
 unfold noIf at hh
 cases hu:und P t with
 | none=>rw [hu]at hh;cases hh
 | some d=>
  refine⟨d,dD hu,fun ms e=>?_⟩
  subst e;rw [hu]at hh;cases hh
theorem s_mkI {t:Nat} {x:Operand} (ho:o.op= .makeInterface t x) (he:bN ρ e n a.tmps) (R:Rel g ρ h nx w) (q:run (hMkI t x P ex e kv kp kd) h nx lg=some r):OkV P o a w g ρ r kv:=by
 obtain⟨v,h1,q1⟩:=fH q
 obtain⟨hn,q2⟩:=cC q1
 obtain⟨d,hd,hni⟩:=aEc hn
 have hU:=SX.run_underlying hd w
 refine .pure (x:= .iface t (a.eval x)) R ?_ (by simp only [tv,cJ he h1]) q2
 cases d <;> first
  | exact absurd rfl (hni _)
  | simp [execOp,ho,Instr.makeInterface,a1B,hU,Sem.run,Pure.pure]
theorem s_mkF {fn:Fn} {f c:Array Operand} (ho:o.op= .makeFunc fn f c) (he:bN ρ e n a.tmps) (R:Rel g ρ h nx w) (q:run (hMkF fn f c P ex e kv kp kd) h nx lg=some r):OkV P o a w g ρ r kv:=by
 obtain⟨gf,h1,q1⟩:=bI q
 obtain⟨fs,h2,q2⟩:=iO q1
 obtain⟨cs,h3,q3⟩:=iO q2
 have:fn= .func gf:=by cases fn <;> first | (cases h1;rfl) | cases h1
 subst this
 have hf:=iC he h2
 have hc:=iC he h3
 refine .pure (x:= .func (.func gf) (f.map a.eval) (c.map a.eval)) R (by simp [execOp,ho,Instr.makeFunc,a1B,Sem.run,Pure.pure]) ?_ q3
 simp only [tv,hf,hc]
 rw [<- Array.toList_map,<- Array.toList_map]
theorem s_mapN {t:Nat} {rr:Option Operand} (ho:o.op= .makeMap t rr) (hi:r.2.nx<=g.hi) (R:Rel g ρ h nx w) (q:run (hMapN t rr P ex e kv kp kd) h nx lg=some r):OkV P o a w g ρ r kv:=by
 rcases iU q with⟨rfl,q1⟩ | ⟨_,_,q1⟩
 ·rw [aAQ]at q1;obtain⟨b,h1,n1,m,e1,q2⟩:=cZ q1;obtain⟨rfl,h2,h3⟩:=yG R e1 (a1m (pH q2) hi) 0 (.map #[] 0) ⟨rfl,trivial⟩;refine⟨.map b, .map (some w.heap.size),_,h1,n1,_,_, .inl ?_,h2,h3,by simp [tv,Rho.ins_self],q2⟩
  simp [execOp,ho,Instr.makeMap,newObj,a1B,Sem.run,Pure.pure]
 ·cases q1
end
end
open RowKit (Below)
noncomputable section
section
variable {P:Program} {o:Oper} {a:Act} {w:World} {g:G} {ρ:Rho} {r:O × S} {kv:KV} {kp:List PE->AI} {kd:Df->AI} {e:Tr V} {n:Nat} {h:Tr Blk} {nx:Nat} {lg:List Fp} {ex:Ex}
theorem aFJ {t f:Nat} {q:Nat × Nat} (hf:fldOf P t f=some q):∃ fs fd,P.underlying t=some (.struct fs)/\fs[f]? =some fd/\fd.offset=q.1/\fd.type=q.2:=by
 unfold fldOf at hf
 split at hf
 ·rename_i fs hu;split at hf
  ·rename_i fd hn;cases hf;rw [mC]at hn;exact⟨fs,fd,dD hu,by simpa using hn,rfl,rfl⟩
  ·cases hf
 ·cases hf
theorem fldA_eq {t f k:Nat} (hf:fldA P t f=some k):∃ fs fd i,P.underlying t=some (.struct fs)/\fs[f]? =some fd/\fd.offset=k/\P.info? fd.type=some i/\i.size≠0:=by
 unfold fldA at hf
 split at hf
 ·rename_i k' ft hq;split at hf
  ·rename_i m hs;split at hf
   ·rename_i hpos;cases hf;obtain⟨fs,fd,h1,h2,h3,h4⟩:=aFJ hq;simp only at h3 h4
    subst h3 h4;obtain⟨i,h5,h6⟩:=lT hs;rw [a1i]at hpos;exact⟨fs,fd,i,h1,h2,rfl,h5,by omega⟩
   ·cases hf
  ·cases hf
 ·cases hf
theorem aGr {k:Nat} {d:AI} {f:Nat->AI} (q:run (eA k d f) h nx lg=some r):run (f k) h nx lg=some r:=q
theorem mR {y off k:Nat}:Addr.add ⟨y,off,none⟩ k=⟨y,off+k,none⟩:=tN y off k
theorem s_fieldA {t f:Nat} {x:Operand} (ho:o.op= .fieldAddr t x f) (he:bN ρ e n a.tmps) (R:Rel g ρ h nx w) (q:run (xU t x f P ex e kv kp kd) h nx lg=some r):OkV P o a w g ρ r kv:=by
 obtain⟨v,h1,q1⟩:=fH q
 obtain⟨k,hk,q2⟩:=bI q1
 obtain⟨b,off,rfl,q3⟩:=sC q2
 have q4:=aGr q3
 obtain⟨y,hb,hx⟩:=jH (cJ he h1)
 obtain⟨fs,fd,i,g1,g2,g3,g4,g5⟩:=fldA_eq hk
 refine .pure (x:= .pointer (some ⟨y.1,off+k,none⟩)) R ?_ (wJ (κ:=y.2) hb) q4
 simp [execOp,ho,hx,Instr.fieldAt,Instr.sureAddr,fieldPlace,a1B,SX.run_underlying g1,g2,SX.run_sizeOf g4,g5,Sem.run,Pure.pure,mR,g3]
theorem aEl {t off:Nat} {s:Option Nat} {cs:List V} {l:List Value} {k:V->AI} (hs:shp P t=some s) (hc:cells ρ cs l) (q:run (partV s off cs k) h nx lg=some r):
 ∃ v x,(part t ⟨l⟩ off).run P w= .ok x w/\tv ρ v=some x/\run (k v) h nx lg=some r:=by
 obtain⟨hA,hsz⟩:=aEC hs w
 rcases iU q with⟨rfl,q1⟩ | ⟨m,rfl,q1⟩
 ·obtain⟨v,hv,q2⟩:=bI q1;rw [mC]at hv;obtain⟨x,h1,h2,_⟩:=hc.get hv;exact⟨v,x,by simp [part,a1B,hA,h1,Sem.run,Pure.pure],h2,q2⟩
 ·obtain⟨c',hc',q2⟩:=bI q1;rw [xW,sU]at hc';obtain⟨h1,rfl⟩:=hc';have h2:=(hc.drop off).take m;refine⟨_,_,?_,zY h2,q2⟩;have h3:((⟨l⟩:Array Value).extract off (off+m))=⟨(l.drop off).take m⟩:=by
   apply Array.ext'
   simp [List.extract_eq_take_drop]
  simp [part,a1B,hA,hsz m rfl,Sem.run,Pure.pure,h3]
theorem s_field {t f:Nat} {x:Operand} (ho:o.op= .field t x f) (he:bN ρ e n a.tmps) (R:Rel g ρ h nx w) (q:run (yB t x f P ex e kv kp kd) h nx lg=some r):OkV P o a w g ρ r kv:=by
 obtain⟨v,h1,q1⟩:=fH q
 obtain⟨p,hp,q2⟩:=bI q1
 rcases aFA q2 with⟨cs,rfl,q3⟩ | q3
 ·obtain⟨l,hl,hx⟩:=aAU (cJ he h1);unfold fldV at hp;split at hp
  ·rename_i k ft hq;split at hp
   ·rename_i s hs;cases hp;obtain⟨fs,fd,g1,g2,g3,g4⟩:=aFJ hq;simp only at g3 g4
    subst g3 g4;obtain⟨u,z,g5,g6,q4⟩:=aEl (w:=w) hs hl q3;exact .pure R (by simp [execOp,ho,hx,Instr.field,Go.asAgg,a1B,SX.run_underlying g1,g2,g5,Sem.run,Pure.pure]) g6 q4
   ·cases hp
  ·cases hp
 ·cases q3
theorem at_inv {b off es len:Nat} {i:V} {k:V->AI} (q:run (at' b off es len i k) h nx lg=some r):∃ kd j,i= .int kd (.ofNat j)/\j<len/\run (k (.ptr b (off+j*es))) h nx lg=some r:=by
 obtain⟨j,hj,q1⟩:=bI q
 obtain⟨hlt,q2⟩:=cC q1
 obtain⟨kd,rfl⟩:=xB hj
 rw [a1i]at hlt
 exact⟨kd,j,rfl,hlt,q2⟩
theorem kK {b off len cap:Nat} {x:Value} (h:tv ρ (.sl b off len cap)=some x):∃ y,ρ b=some y/\x= .slice (some ⟨y.1,off,none⟩) len cap:=by
 simp only [tv,a1v]at h
 obtain⟨y,h1,rfl⟩:=h;exact⟨y,h1,rfl⟩
theorem kS {b off len es:Nat} {x:Value} (h:tv ρ (.so b off len es)=some x):∃ y,ρ b=some y/\x= .slice (some ⟨y.1,off,none⟩) len (y.2 - off / es):=by
 simp only [tv,a1v]at h
 obtain⟨y,h1,rfl⟩:=h;exact⟨y,h1,rfl⟩
theorem aFz {t el:Nat} (hh:elOf P t=some el):P.underlying t=some (.slice el):=by
 unfold elOf at hh
 split at hh
 ·rename_i u hu;cases hh;exact dD hu
 ·cases hh
theorem arOf_eq {t:Nat} {q:Nat × Nat} (hh:arOf P t=some q):P.underlying t=some (.array q.1 q.2):=by
 unfold arOf at hh
 split at hh
 ·rename_i m u hu;cases hh;exact dD hu
 ·cases hh
theorem ixOf_eq {t:Nat} {q:Nat × Option Nat} (hh:ixOf P t=some q):∃ el i,P.info? el=some i/\i.size=q.1/\(q.2=none/\P.underlying t=some (.slice el)\/∃ m,q.2=some m/\P.underlying t=some (.array m el)):=by
 unfold ixOf at hh
 split at hh
 ·rename_i el hu;split at hh
  ·rename_i es hs;cases hh
   obtain⟨i,h1,h2⟩:=lT hs;exact⟨el,i,h1,h2, .inl ⟨rfl,dD hu⟩⟩
  ·cases hh
 ·rename_i m el hu;split at hh
  ·rename_i es hs;cases hh
   obtain⟨i,h1,h2⟩:=lT hs;exact⟨el,i,h1,h2, .inr ⟨m,rfl,dD hu⟩⟩
  ·cases hh
 ·cases hh
theorem s_idxA {t:Nat} {x ix:Operand} (ho:o.op= .indexAddr t x ix) (he:bN ρ e n a.tmps) (R:Rel g ρ h nx w) (q:run (xS t x ix P ex e kv kp kd) h nx lg=some r):OkV P o a w g ρ r kv:=by
 obtain⟨v,i,h1,h2,q1⟩:=rJ q
 obtain⟨p,hp,q2⟩:=bI q1
 obtain⟨el,inf,g1,g2,g3⟩:=ixOf_eq hp
 have hsz:=SX.run_sizeOf g1 w
 have hv:=cJ he h1
 have hi:=cJ he h2
 have fin:∀ (y:Nat × Nat) (b off len cap:Nat),ρ b=some y->P.underlying t=some (.slice el)->a.eval x= .slice (some ⟨y.1,off,none⟩) len cap->run (at' b off p.1 len i kv) h nx lg=some r->OkV P o a w g ρ r kv:=by
  intro y b off len cap hb hu hx q3;obtain⟨kd',j,rfl,hj,q4⟩:=at_inv q3;have hj':=qL hi;refine .pure (x:= .pointer (some ⟨y.1,off+j*p.1,none⟩)) R ?_ (wJ (κ:=y.2) hb) q4;have h1:(0:Int)<=(j:Int)/\(j:Int)<(len:Int):=by omega
  simp [execOp,ho,hx,hj',Instr.indexAt,asIntOf,a1B,SX.run_underlying hu,Sem.run,Pure.pure,hsz,g2,mR,hj]
 rcases g3 with⟨g3,hu⟩ | ⟨m,g3,hu⟩
 ·rw [g3]at q2;rcases oK q2 with⟨b,off,len,cap,rfl,q3⟩ | ⟨b,off,len,es,rfl,q3⟩ | ⟨_,q3⟩ | q3
  ·obtain⟨y,hb,hx⟩:=kK hv;exact fin y b off len _ hb hu hx q3
  ·obtain⟨y,hb,hx⟩:=kS hv;exact fin y b off len _ hb hu hx q3
  ·cases q3
  ·cases q3
 ·rw [g3]at q2;obtain⟨b,off,rfl,q3⟩:=sC (v:=v) (f:=fun b off=>at' b off p.1 m i kv) q2
  obtain⟨y,hb,hx⟩:=jH hv;obtain⟨kd',j,rfl,hj,q4⟩:=at_inv q3;have hj':=qL hi;refine .pure (x:= .pointer (some ⟨y.1,off+j*p.1,none⟩)) R ?_ (wJ (κ:=y.2) hb) q4;have h1:(0:Int)<=(j:Int)/\(j:Int)<(m:Int):=by omega
  simp [execOp,ho,hx,hj',Instr.indexAt,Instr.sureAddr,asIntOf,a1B,SX.run_underlying hu,Sem.run,Pure.pure,hsz,g2,mR,hj]
mutual
theorem xT (ρ:Rho):∀ {v:V} {c:Value},gv v=some c->tv ρ v=some c
 | .int _ _,_,q=>by cases q;rfl
 | .bool _,_,q=>by cases q;rfl
 | .str _,_,q=>by cases q;rfl
 | .ptr _ _,_,q=>by cases q
 | .nilp,_,q=>by cases q;rfl
 | .sl _ _ _ _,_,q=>by cases q
 | .so _ _ _ _,_,q=>by cases q
 | .nils,_,q=>by cases q;rfl
 | .map _,_,q=>by cases q
 | .nilm,_,q=>by cases q;rfl
 | .fn _ _ _,_,q=>by cases q
 | .yld _,_,q=>by cases q
 | .nilf,_,q=>by cases q;rfl
 | .iface t v,c,q=>by
  simp only [gv]at q;cases hq:gv v with
  | none=>rw [hq]at q;cases q
  | some x=>rw [hq]at q;cases q;simp only [tv,xT ρ hq]
 | .nili,_,q=>by cases q;rfl
 | .agg cs,c,q=>by
  simp only [gv]at q;cases hc:iA cs with
  | false=>rw [hc]at q;cases q
  | true=>
   rw [hc]at q;simp only at q
   cases hq:gvs cs with
   | none=>rw [hq]at q;cases q
   | some x=>rw [hq]at q;cases q;simp only [tv,hc,aB4 ρ hq]
 | .tup cs,c,q=>by
  simp only [gv]at q;cases hq:gvs cs with
  | none=>rw [hq]at q;cases q
  | some x=>rw [hq]at q;cases q;simp only [tv,aB4 ρ hq]
theorem aB4 (ρ:Rho):∀ {l:List V} {c:List Value},gvs l=some c->tvs ρ l=some c
 | [],_,q=>by cases q;rfl
 | v :: l,c,q=>by
  simp only [gvs]at q;cases hq:gv v with
  | none=>rw [hq]at q;cases q
  | some x=>
   rw [hq]at q;simp only at q
   cases h2:gvs l with
   | none=>rw [h2]at q;cases q
   | some y=>rw [h2]at q;cases q;exact dR.2 ⟨x,y,xT ρ hq,aB4 ρ h2,rfl⟩
end
theorem aBm {α:Type}:∀ (m:Sem α) {x:α},zW P m=some x->m.run P w= .ok x w
 | .pure a,x,q=>by cases q;rfl
 | .program k,x,q=>aBm (k P) q
 | .mark _ k,x,q=>aBm k q
 | .load _ _ _,_,q=>by cases q
 | .store _ _ _ _,_,q=>by cases q
 | .new _ _,_,q=>by cases q
 | .shape _ _,_,q=>by cases q
 | .freeze _ _ _,_,q=>by cases q
 | .frozen _ _,_,q=>by cases q
 | .getObj _ _,_,q=>by cases q
 | .setObj _ _ _,_,q=>by cases q
 | .choose _ _,_,q=>by cases q
 | .sys _ _,_,q=>by cases q
 | .halt _,_,q=>by cases q
theorem aFc {m:Sem Value} {k:V->AI} (q:run (gen P m k) h nx lg=some r):∃ v x,m.run P w= .ok x w/\tv ρ v=some x/\run (k v) h nx lg=some r:=by
 obtain⟨x,h1,q1⟩:=bI q
 obtain⟨v,h2,q2⟩:=bI q1
 exact⟨v,x,aBm m h1,uI ρ x h2,q2⟩
theorem aFx {m:Value->Sem Value} {v:V} {x:Value} {k:V->AI} (hv:tv ρ v=some x) (q:run (gen1 P m v k) h nx lg=some r):∃ u y,(m x).run P w= .ok y w/\tv ρ u=some y/\run (k u) h nx lg=some r:=by
 obtain⟨c,h1,q1⟩:=bI q
 have:=(xT ρ h1).symm.trans hv
 cases this
 exact aFc q1
theorem aFB {m:Value->Value->Sem Value} {v v':V} {x x':Value} {k:V->AI} (hv:tv ρ v=some x) (hv':tv ρ v'=some x') (q:run (gen2 P m v v' k) h nx lg=some r):∃ u y,(m x x').run P w= .ok y w/\tv ρ u=some y/\run (k u) h nx lg=some r:=by
 obtain⟨c,h1,q1⟩:=bI q
 obtain⟨c',h2,q2⟩:=bI q1
 have:=(xT ρ h1).symm.trans hv
 cases this
 have:=(xT ρ h2).symm.trans hv'
 cases this
 exact aFc q2
theorem s_idx {t:Nat} {x ix:Operand} (ho:o.op= .index t x ix) (he:bN ρ e n a.tmps) (R:Rel g ρ h nx w) (q:run (hIdx t x ix P ex e kv kp kd) h nx lg=some r):OkV P o a w g ρ r kv:=by
 obtain⟨v,i,h1,h2,q1⟩:=rJ q
 have hv:=cJ he h1
 have hi:=cJ he h2
 rcases aFA q1 with⟨cs,rfl,q2⟩ | q2
 ·obtain⟨p,hp,q3⟩:=bI q2;obtain⟨es,hes,q4⟩:=bI q3;obtain⟨s,hs,q5⟩:=bI q4;obtain⟨j,hj,q6⟩:=bI q5;obtain⟨hlt,q7⟩:=cC q6;obtain⟨kd',rfl⟩:=xB hj;have hj':=qL hi;obtain⟨l,hl,hx⟩:=aAU hv;obtain⟨u,z,g5,g6,q8⟩:=aEl (w:=w) hs hl q7;rw [a1i]at hlt;have g5':(part p.2 ⟨l⟩ (j*es)).run P w= .ok z w:=g5;exact .pure R (by simp [execOp,ho,hx,hj',Instr.index,asIntOf,a1B,SX.run_underlying (arOf_eq hp),yP hes w,hlt,g5',Sem.run,Pure.pure]) g6 q8
 ·obtain⟨u,y,g1,g2,q3⟩:=aFB (w:=w) hv hi q2;exact .pure R (by simp [execOp,ho,a1B,g1,Sem.run,Pure.pure]) g2 q3
theorem s_un {op:UnOp} {t:Nat} {x:Operand} (ho:o.op= .unOp op t x) (he:bN ρ e n a.tmps) (R:Rel g ρ h nx w) (q:run (hUn op t x P ex e kv kp kd) h nx lg=some r):OkV P o a w g ρ r kv:=by
 obtain⟨v,h1,q1⟩:=fH q
 have hv:=cJ he h1
 have gen:run (gen1 P (Op.unary op) v kv) h nx lg=some r->OkV P o a w g ρ r kv:=fun q2=>by
  obtain⟨u,y,g1,g2,q3⟩:=aFx (w:=w) hv q2;exact .pure R (by simp [execOp,ho,a1B,g1,Sem.run,Pure.pure]) g2 q3
 cases op with
 | not=>
  obtain⟨b,rfl,q2⟩:=aFN (v:=v) (f:=fun b=>kv (.bool (Bool.not b))) q1
  have hb:=aDZ hv;exact .pure (x:= .bool (!b)) R (by simp [execOp,ho,hb,Op.unary,a1B,Sem.run,Pure.pure]) rfl q2
 | neg=>exact gen q1
 | xor=>exact gen q1
 | plus=>exact gen q1
end
end
open RowKit (Below)
noncomputable section
section
variable {P:Program} {o:Oper} {a:Act} {w:World} {g:G} {ρ:Rho} {r:O × S} {kv:KV} {kp:List PE->AI} {kd:Df->AI} {e:Tr V} {n:Nat} {h:Tr Blk} {nx:Nat} {lg:List Fp} {ex:Ex}
theorem aBO {i:Int} {k:Int->AI} (q:run (inR i k) h nx lg=some r):-9223372036854775808<=i/\i<=9223372036854775807/\run (k i) h nx lg=some r:=by
 cases i with
 | ofNat m=>
  obtain⟨h1,q1⟩:=cC (b:=Nat.blt m OPEN) (p:=k (.ofNat m)) q;rw [a1i]at h1;have:m<9223372036854775808:=h1;exact⟨by show _<=(m:Int);omega,by show(m:Int)<=_;omega,q1⟩
 | negSucc m=>
  obtain⟨h1,q1⟩:=cC (b:=Nat.blt m OPEN) (p:=k (.negSucc m)) q;rw [a1i]at h1;have:m<9223372036854775808:=h1;exact⟨by rw [Int.negSucc_eq];omega,by rw [Int.negSucc_eq];omega,q1⟩
theorem aDU (a b:Nat):Nat.beq a b=decide (a=b):=by
 rw [a0g];simp
theorem aBr (i j:Int):eqI i j=decide (i=j):=by
 cases i <;> cases j <;> simp only [eqI,aDU] <;> rw [a0g] <;> simp <;> omega
theorem blt_dec (a b:Nat):Nat.blt a b=decide (a<b):=by
 rw [a0g,a1i];simp
theorem rZ (i j:Int):ltI i j=decide (i<j):=by
 cases i <;> cases j <;> simp only [ltI,blt_dec] <;> rw [a0g] <;> simp <;> omega
theorem aAG {op:BinOp} {T:Nat} {x y:Operand} {U:Nat} {i j:Int} {v:Value} (ho:o.op= .binOp op T x y U) (hx:a.eval x= .int .i64 i) (hy:a.eval y= .int .i64 j)
 (hh:(binOp op T (.int .i64 i) (.int .i64 j)).run P w= .ok v w):(execOp a.eval o).run P w= .ok (.value v) w:=by
 have h1:(eqGuard op T x y (.int .i64 i) (.int .i64 j)).run P w= .ok () w:=by cases op <;> simp [eqGuard,Sem.run,Pure.pure]
 simp [execOp,ho,hx,hy,a1B,h1,hh,Sem.run,Pure.pure]
theorem s_binI {op:BinOp} {T:Nat} {x y:Operand} {U:Nat} {i j:Int} {d:AI} (ho:o.op= .binOp op T x y U) (hx:a.eval x= .int .i64 i) (hy:a.eval y= .int .i64 j) (R:Rel g ρ h nx w)
 (q:run (binI op i j kv d) h nx lg=some r):OkV P o a w g ρ r kv\/run d h nx lg=some r:=by
 have cmp:∀ (b:Bool),(binOp op T (.int .i64 i) (.int .i64 j)).run P w= .ok (.bool b) w->run (kv (.bool b)) h nx lg=some r->OkV P o a w g ρ r kv\/run d h nx lg=some r:=
  fun b h1 q=> .inl (.pure R (aAG ho hx hy h1) rfl q)
 cases op with
 | add=>obtain⟨g1,g2,q1⟩:=aBO (k:=fun n=>kv (.int .i64 n)) q;exact .inl (.pure R (aAG ho hx hy (by simp [binOp,Op.intArith,Sem.run,Pure.pure,SX.wrap64_id g1 g2])) rfl q1)
 | sub=>obtain⟨g1,g2,q1⟩:=aBO (k:=fun n=>kv (.int .i64 n)) q;exact .inl (.pure R (aAG ho hx hy (by simp [binOp,Op.intArith,Sem.run,Pure.pure,SX.wrap64_id g1 g2])) rfl q1)
 | mul=>obtain⟨g1,g2,q1⟩:=aBO (k:=fun n=>kv (.int .i64 n)) q;exact .inl (.pure R (aAG ho hx hy (by simp [binOp,Op.intArith,Sem.run,Pure.pure,SX.wrap64_id g1 g2])) rfl q1)
 | eql=>exact cmp (eqI i j) (by have:(i==j)=decide (i=j):=by rw [a0g];simp
                                simp [binOp,Op.intCmp,Sem.run,Pure.pure,aBr,this]) q
 | neq=>exact cmp (Bool.not (eqI i j)) (by have:(i==j)=decide (i=j):=by rw [a0g];simp
                                           simp [binOp,Op.intCmp,Sem.run,Pure.pure,aBr,bne,this]) q
 | lss=>exact cmp (ltI i j) (by simp [binOp,Op.intCmp,Sem.run,Pure.pure,rZ]) q
 | gtr=>exact cmp (ltI j i) (by simp [binOp,Op.intCmp,Sem.run,Pure.pure,rZ]) q
 | leq=>exact cmp (Bool.not (ltI j i)) (by have:decide (i<=j)=!decide (j<i):=by rw [a0g];simp
                                           simp only [binOp,ne_eq,not_true_eq_false,if_false,Op.intCmp,Sem.run,Pure.pure,rZ,this]) q
 | geq=>exact cmp (Bool.not (ltI i j)) (by have:decide (i ≥ j)=!decide (i<j):=by rw [a0g];simp
                                           simp only [binOp,ne_eq,not_true_eq_false,if_false,Op.intCmp,Sem.run,Pure.pure,rZ,this]) q
 | quo=>exact .inr q
 | rem=>exact .inr q
 | and=>exact .inr q
 | or=>exact .inr q
 | xor=>exact .inr q
 | shl=>exact .inr q
 | shr=>exact .inr q
 | andNot=>exact .inr q
theorem s_eqK {op:BinOp} {T:Nat} {x y:Operand} {U:Nat} {b:Bool} (ho:o.op= .binOp op T x y U) (hg:(eqGuard op T x y (a.eval x) (a.eval y)).run P w= .ok () w)
 (h1:op= .eql->(binOp .eql T (a.eval x) (a.eval y)).run P w= .ok (.bool b) w) (h2:op= .neq->(binOp .neq T (a.eval x) (a.eval y)).run P w= .ok (.bool (!b)) w)
 (R:Rel g ρ h nx w) (q:run (eqK op b kv) h nx lg=some r):OkV P o a w g ρ r kv:=by
 cases op <;> first
  | (cases q;done)
  | skip
 ·exact .pure (x:= .bool b) R (by simp [execOp,ho,a1B,hg,h1 rfl,Sem.run,Pure.pure]) rfl q
 ·exact .pure (x:= .bool (!b)) R (by simp [execOp,ho,a1B,hg,h2 rfl,Sem.run,Pure.pure]) rfl q
theorem eqN1_inv {u v:V} {x y:Value} {b:Bool} (hu:tv ρ u=some x) (hv:tv ρ v=some y) (hq:eqN1 u v=some b):
 ∃ p q:Option Addr,x= .pointer p/\y= .pointer q/\((p=none/\q.isSome=true/\b=false)\/(p.isSome=true/\q=none/\b=false)\/∃ c d:Addr,p=some c/\q=some d/\c.block=d.block/\b=(c==d)):=by
 cases u <;> cases v <;> first
  | (cases hq;done)
  | skip
 ·obtain⟨z,_,rfl⟩:=jH hu;obtain⟨z',_,rfl⟩:=jH hv;rename_i b1 o1 b2 o2 z1 z2;simp only [eqN1]at hq;split at hq
  ·rename_i hb;have:=a1j hb;subst this;have:z=z':=by rw [z1]at z2;exact a1y z2
   subst this;refine⟨_,_,rfl,rfl, .inr (.inr ⟨_,_,rfl,rfl,rfl,?_⟩)⟩;cases hq;rw [aDU,a0g];simp
  ·cases hq
 ·obtain⟨z,_,rfl⟩:=jH hu;cases hv;exact⟨_,_,rfl,rfl, .inr (.inl ⟨rfl,rfl,by cases hq;rfl⟩)⟩
 ·obtain⟨z,_,rfl⟩:=jH hv;cases hu;exact⟨_,_,rfl,rfl, .inl ⟨rfl,rfl,by cases hq;rfl⟩⟩
theorem s_eqN {op:BinOp} {T:Nat} {x y:Operand} {U:Nat} {u v:V} {b:Bool} (ho:o.op= .binOp op T x y U) (hu:tv ρ u=some (a.eval x)) (hv:tv ρ v=some (a.eval y)) (hq:eqN P T u v=some b)
 (R:Rel g ρ h nx w) (q:run (eqK op b kv) h nx lg=some r):OkV P o a w g ρ r kv:=by
 obtain⟨dd,ED⟩:∃ d,∀ X Y,Op.equal T X Y=Op.equalIn (d+1) T X Y:=⟨9999,fun _ _=>rfl⟩
 have fin:∀ {X Y:Value},a.eval x=X->a.eval y=Y->(eqGuard op T x y X Y).run P w= .ok () w->(∀ z,(Op.equal T X Y).run P z= .ok b z)->(binOp .eql T X Y=do pure (.bool (<- Op.equal T X Y)))->(binOp .neq T X Y=do pure (.bool (!(<- Op.equal T X Y))))->OkV P o a w g ρ r kv:=
  fun {X Y} hX hY hg he h1 h2=>by
   refine s_eqK ho (by rw [hX,hY];exact hg) (fun _=>?_) (fun _=>?_) R q
   ·rw [hX,hY,h1];simp [a1B,he,Sem.run,Pure.pure]
   ·rw [hX,hY,h2];simp [a1B,he,Sem.run,Pure.pure]
 unfold eqN at hq
 split at hq
 ·rename_i el hU;split at hq
  ·rename_i m hs;obtain⟨p,p',hX,hY,hc⟩:=eqN1_inv hu hv hq;obtain⟨i,hi,hi2⟩:=lT hs;have hsz:i.size≠0:=by omega
   refine fin hX hY (by cases op <;> simp [eqGuard,Sem.run,Pure.pure]) (fun z=>?_) rfl rfl
   rcases hc with⟨rfl,h1,rfl⟩ | ⟨h1,rfl,rfl⟩ | ⟨c,d,rfl,rfl,h1,rfl⟩
   ·cases p' with
    | none=>cases h1
    | some c=>simp [ED,Op.equalIn,a1B,SX.run_underlying (dD hU),Sem.run,Pure.pure]
   ·cases p with
    | none=>cases h1
    | some c=>simp [ED,Op.equalIn,a1B,SX.run_underlying (dD hU),Sem.run,Pure.pure]
   ·simp [ED,Op.equalIn,a1B,SX.run_underlying (dD hU),SX.run_sizeOf hi,hsz,sameAddr,h1,Sem.run,Pure.pure]
  ·cases hq
 ·rename_i el hU;have key:∃ p q l1 c1 l2 c2,a.eval x= .slice p l1 c1/\a.eval y= .slice q l2 c2/\b=false/\(p=none/\q.isSome=true\/p.isSome=true/\q=none):=by
   generalize a.eval x=X at hu
   generalize a.eval y=Y at hv
   cases u <;> cases v <;> first
    | (cases hq;done)
    | (obtain⟨z,_,rfl⟩:=kK hu;cases hv;exact⟨_,_,_,_,_,_,rfl,rfl,by cases hq;rfl, .inr ⟨rfl,rfl⟩⟩)
    | (obtain⟨z,_,rfl⟩:=kS hu;cases hv;exact⟨_,_,_,_,_,_,rfl,rfl,by cases hq;rfl, .inr ⟨rfl,rfl⟩⟩)
    | (obtain⟨z,_,rfl⟩:=kK hv;cases hu;exact⟨_,_,_,_,_,_,rfl,rfl,by cases hq;rfl, .inl ⟨rfl,rfl⟩⟩)
    | (obtain⟨z,_,rfl⟩:=kS hv;cases hu;exact⟨_,_,_,_,_,_,rfl,rfl,by cases hq;rfl, .inl ⟨rfl,rfl⟩⟩)
  obtain⟨p,p',l1,c1,l2,c2,hX,hY,rfl,hc⟩:=key;refine fin hX hY (by cases op <;> simp [eqGuard,Sem.run,Pure.pure]) (fun z=>?_) rfl rfl
  rcases hc with⟨rfl,h1⟩ | ⟨h1,rfl⟩
  ·cases p' with
   | none=>cases h1
   | some c=>simp [ED,Op.equalIn,a1B,SX.run_underlying (dD hU),Sem.run,Pure.pure]
  ·cases p with
   | none=>cases h1
   | some c=>simp [ED,Op.equalIn,a1B,SX.run_underlying (dD hU),Sem.run,Pure.pure]
 ·rename_i k1 el hU;have key:∃ p q,a.eval x= .map p/\a.eval y= .map q/\b=false/\(p=none/\q.isSome=true\/p.isSome=true/\q=none):=by
   generalize a.eval x=X at hu
   generalize a.eval y=Y at hv
   cases u <;> cases v <;> first
    | (cases hq;done)
    | (simp only [tv,a1v]at hu;obtain⟨z,_,rfl⟩:=hu;cases hv;exact⟨_,_,rfl,rfl,by cases hq;rfl, .inr ⟨rfl,rfl⟩⟩)
    | (simp only [tv,a1v]at hv;obtain⟨z,_,rfl⟩:=hv;cases hu;exact⟨_,_,rfl,rfl,by cases hq;rfl, .inl ⟨rfl,rfl⟩⟩)
  obtain⟨p,p',hX,hY,rfl,hc⟩:=key;refine fin hX hY (by cases op <;> simp [eqGuard,Sem.run,Pure.pure]) (fun z=>?_) rfl rfl
  rcases hc with⟨rfl,h1⟩ | ⟨h1,rfl⟩
  ·cases p' with
   | none=>cases h1
   | some c=>simp [ED,Op.equalIn,a1B,SX.run_underlying (dD hU),Sem.run,Pure.pure]
  ·cases p with
   | none=>cases h1
   | some c=>simp [ED,Op.equalIn,a1B,SX.run_underlying (dD hU),Sem.run,Pure.pure]
 ·rename_i p1 p2 p3 hU;have key:(∃ f c d,a.eval x= .func f c d/\a.eval y= .nilFunc/\b=false)\/(∃ f c d,a.eval y= .func f c d/\a.eval x= .nilFunc/\b=false):=by
   generalize a.eval x=X at hu
   generalize a.eval y=Y at hv
   have fn:∀ {f a c Z},tv ρ (.fn f a c)=some Z->∃ p q,Z= .func (.func f) p q:=fun {f a c Z} hz=>by
    simp only [tv]at hz;cases ha:tvs ρ a with
    | none=>rw [ha]at hz;cases hz
    | some l=>rw [ha]at hz;simp only at hz;cases hc:tvs ρ c with
     | none=>rw [hc]at hz;cases hz
     | some m=>rw [hc]at hz;cases hz;exact⟨_,_,rfl⟩
   cases u <;> cases v <;> first
    | (cases hq;done)
    | (obtain⟨p,q,rfl⟩:=fn hu;cases hv;exact .inl ⟨_,_,_,rfl,rfl,by cases hq;rfl⟩)
    | (obtain⟨p,q,rfl⟩:=fn hv;cases hu;exact .inr ⟨_,_,_,rfl,rfl,by cases hq;rfl⟩)
  rcases key with⟨f,c,d,hX,hY,rfl⟩ | ⟨f,c,d,hY,hX,rfl⟩
  ·exact fin hX hY (by cases op <;> simp [eqGuard,Sem.run,Pure.pure]) (fun z=>by simp [ED,Op.equalIn,a1B,SX.run_underlying (dD hU),Sem.run,Pure.pure]) rfl rfl
  ·exact fin hX hY (by cases op <;> simp [eqGuard,Sem.run,Pure.pure]) (fun z=>by simp [ED,Op.equalIn,a1B,SX.run_underlying (dD hU),Sem.run,Pure.pure]) rfl rfl
 ·rename_i ms hU;have key:(∃ t z,a.eval x= .iface t z/\a.eval y= .nilIface/\b=false)\/(∃ t z,a.eval y= .iface t z/\a.eval x= .nilIface/\b=false):=by
   generalize a.eval x=X at hu
   generalize a.eval y=Y at hv
   have fn:∀ {t v Z},tv ρ (.iface t v)=some Z->∃ z,Z= .iface t z:=fun {t v Z} hz=>by
    simp only [tv]at hz;cases ha:tv ρ v with
    | none=>rw [ha]at hz;cases hz
    | some l=>rw [ha]at hz;cases hz;exact⟨_,rfl⟩
   cases u <;> cases v <;> first
    | (cases hq;done)
    | (obtain⟨p,rfl⟩:=fn hu;cases hv;exact .inl ⟨_,_,rfl,rfl,by cases hq;rfl⟩)
    | (obtain⟨p,rfl⟩:=fn hv;cases hu;exact .inr ⟨_,_,rfl,rfl,by cases hq;rfl⟩)
  rcases key with⟨f,c,hX,hY,rfl⟩ | ⟨f,c,hY,hX,rfl⟩
  ·exact fin hX hY (by cases op <;> simp [eqGuard,Sem.run,Pure.pure]) (fun z=>by simp [ED,Op.equalIn,a1B,SX.run_underlying (dD hU),Sem.run,Pure.pure]) rfl rfl
  ·exact fin hX hY (by cases op <;> simp [eqGuard,Sem.run,Pure.pure]) (fun z=>by simp [ED,Op.equalIn,a1B,SX.run_underlying (dD hU),Sem.run,Pure.pure]) rfl rfl
 ·cases hq
theorem s_binG {op:BinOp} {T:Nat} {x y:Operand} {U:Nat} {u v:V} (ho:o.op= .binOp op T x y U) (hu:tv ρ u=some (a.eval x)) (hv:tv ρ v=some (a.eval y)) (R:Rel g ρ h nx w)
 (q:run (binG P op T x y u v kv) h nx lg=some r):OkV P o a w g ρ r kv:=by
 rcases iU q with⟨_,q1⟩ | ⟨b,hb,q1⟩
 ·obtain⟨t,z,g1,g2,q2⟩:=aFB (w:=w) hu hv q1;refine .pure R ?_ g2 q2;simp only [execOp,ho];rw [a1B,g1];rfl
 ·exact s_eqN ho hu hv hb R q1
theorem s_bin {op:BinOp} {T:Nat} {x y:Operand} {U:Nat} (ho:o.op= .binOp op T x y U) (he:bN ρ e n a.tmps) (R:Rel g ρ h nx w) (q:run (hBin op T x y P ex e kv kp kd) h nx lg=some r):OkV P o a w g ρ r kv:=by
 obtain⟨u,v,h1,h2,q1⟩:=rJ q
 have hu:=cJ he h1
 have hv:=cJ he h2
 have G:run (binG P op T x y u v kv) h nx lg=some r->OkV P o a w g ρ r kv:=fun q=>s_binG ho hu hv R q
 rcases aEB q1 with⟨ku,i,rfl,q2⟩ | q2
 ·rcases aEB q2 with⟨kv',j,rfl,q3⟩ | q3
  ·rcases gT q3 with⟨e1,q4⟩ | ⟨_,q4⟩
   ·rcases gT q4 with⟨e2,q5⟩ | ⟨_,q5⟩
    ·have k1:ku= .i64:=by cases ku <;> first | rfl | cases e1
     have k2:kv'= .i64:=by cases kv' <;> first | rfl | cases e2
     subst k1 k2;rcases s_binI ho (qL hu) (qL hv) R q5 with h | h
     ·exact h
     ·exact G h
    ·exact G q5
   ·exact G q4
  ·exact G q3
 ·exact G q2
end
end
open RowKit (Below)
noncomputable section
section
variable {P:Program} {o:Oper} {a:Act} {w:World} {g:G} {ρ:Rho} {r:O × S} {kv:KV} {kp:List PE->AI} {kd:Df->AI} {e:Tr V} {n:Nat} {h:Tr Blk} {nx:Nat} {lg:List Fp} {ex:Ex}
theorem s_ta {x:Operand} {xt T:Nat} {ok:Bool} (ho:o.op= .typeAssert x xt T ok) (he:bN ρ e n a.tmps) (R:Rel g ρ h nx w) (q:run (hTa x xt T ok P ex e kv kp kd) h nx lg=some r):OkV P o a w g ρ r kv:=by
 obtain⟨v,h1,q1⟩:=fH q
 obtain⟨hn,q2⟩:=cC q1
 obtain⟨d,hd,hni⟩:=aEc hn
 have hU:=SX.run_underlying hd w
 have hv:=cJ he h1
 have miss:∀ {X:Value},a.eval x=X->(X= .nilIface\/∃ t z,X= .iface t z/\t≠T)->run (cB ok (oo (zer P T) fun z=>kv (.tup [z, .bool false]))) h nx lg=some r->OkV P o a w g ρ r kv:=by
  intro X hX hc q3;obtain⟨hok,q4⟩:=cC q3;obtain⟨z,hz,q5⟩:=bI q4;obtain⟨zv,h2,h3⟩:=lA (ρ:=ρ) hz w;subst hok;refine .pure (x:= .tuple #[zv, .bool false]) R ?_ (by simp only [tv,tvs,h3]) q5
  rcases hc with rfl | ⟨t,z',rfl,hne⟩
  ·cases d <;> first
    | exact absurd rfl (hni _)
    | simp [execOp,ho,hX,Instr.typeAssert,a1B,hU,h2,Sem.run,Pure.pure]
  ·cases d <;> first
    | exact absurd rfl (hni _)
    | simp [execOp,ho,hX,Instr.typeAssert,a1B,hU,h2,hne,Sem.run,Pure.pure]
 rcases aB8 q2 with⟨t,u,rfl,q3⟩ | ⟨rfl,q3⟩
 ·simp only [tv]at hv;cases hu:tv ρ u with
  | none=>rw [hu]at hv;cases hv
  | some z=>
   rw [hu]at hv;have hX:a.eval x= .iface t z:=(a1y hv).symm;rcases gT q3 with⟨ht,q4⟩ | ⟨ht,q4⟩
   ·have:=a1j ht;subst this;cases ok with
    | true=>
     refine .pure (x:= .tuple #[z, .bool true]) R ?_ (by simp only [okT,tv,tvs,hu]) q4
     cases d <;> first
      | exact absurd rfl (hni _)
      | simp [execOp,ho,hX,Instr.typeAssert,a1B,hU,Sem.run,Pure.pure]
    | false=>
     refine .pure (x:=z) R ?_ (by simp only [okT,hu]) q4
     cases d <;> first
      | exact absurd rfl (hni _)
      | simp [execOp,ho,hX,Instr.typeAssert,a1B,hU,Sem.run,Pure.pure]
   ·exact miss hX (.inr ⟨t,z,rfl,fun e=>by subst e;simp at ht⟩) q4
 ·exact miss (a1y hv).symm (.inl rfl) q3
theorem aD6 {off:Nat}:∀ (l:List Value) (k:Nat) (c:Array Value),off+k+l.length<=c.size->(l.zipIdx k).foldl (fun cs (x:Value × Nat)=>cs.setIfInBounds (off+x.2) x.1) c=⟨c.toList.take (off+k)++l++c.toList.drop (off+k+l.length)⟩
 | [],k,c,_=>by apply Array.ext';simp
 | v :: l,k,c,hk=>by
  rw [List.zipIdx_cons,List.foldl_cons,aD6 l (k+1) _ (by simp at hk ⊢;omega)]
  grind [aCz]
theorem aHB {pc:Nat->Option (Nat × Nat)} {i:Nat} {x:Operand} {ps:List (Nat × Operand)} {vs c c':List V} (hf:tM pc ((i,x) :: ps) vs c=some c'):
 ∃ v us q u c1,vs=v :: us/\pc i=some q/\vc v=some u/\u.length=q.2/\pl u q.1 c=some c1/\tM pc ps us c1=some c':=by
 cases vs with
 | nil=>cases hf
 | cons v us=>
  have hf':(Option.rec none (fun q=>Option.rec none (fun u=>Bool.rec none (Option.rec none (fun c'=>tM pc ps us c') (pl u q.1 c)) (Nat.beq (ln u 0) q.2)) (vc v)) (pc i):Option (List V))=some c':=hf
  cases h1:pc i with
  | none=>simp_all
  | some q=>
   rw [h1]at hf';cases h2:vc v with
   | none=>simp_all
   | some u=>
    simp only [h2]at hf';cases h3:Nat.beq (ln u 0) q.2 with
    | false=>simp_all
    | true=>
     simp only [h3]at hf';cases h4:pl u q.1 c with
     | none=>simp_all
     | some c1=>
      simp only [h4]at hf';have h5:=a1j h3
      grind [ln0]
theorem rI {pc place:Nat->Option (Nat × Nat)} (hp:∀ i q,pc i=some q->place i=some q):∀ {ps:List (Nat × Operand)} {vs c c':List V} {l:List Value},tM pc ps vs c=some c'->tvs ρ vs=some ((prt ps).map a.eval)->cells ρ c l ->
 ∃ l',Instr.fill place ⟨l⟩ (ps.map fun p=>(p.1,a.eval p.2))=some ⟨l'⟩/\cells ρ c' l'
 | [],vs,c,c',l,hf,_,hc=>by cases hf;exact⟨l,rfl,hc⟩
 | (i,x) :: ps,vs,c,c',l,hf,hv,hc=>by
  obtain⟨v,us,q,u,c1,rfl,h1,h2,h3,h4,h5⟩:=aHB hf;obtain⟨y,ys,g1,g2,g3⟩:=dR.1 hv;simp only [prt,a0O,List.cons.injEq]at g3;obtain⟨rfl,rfl⟩:=g3;obtain⟨h6,rfl⟩:=(sF u q.1 c c1).1 h4;have hcc:=uK h2 g1;have hl1:=hcc.len;have hl2:=hc.len;have hnew:cells ρ (c.take q.1++u++c.drop (q.1+u.length)) (l.take q.1++(a.eval x).cells.toList++l.drop (q.1+(a.eval x).cells.toList.length)):=by
   rw [hl1];exact((hc.take _).app hcc).app (hc.drop _)
  obtain⟨l',h7,h8⟩:=rI hp h5 g2 hnew;refine⟨l',?_,h8⟩;have hsz:(a.eval x).cells.size=q.2:=by grind
  simp only [a0O,Instr.fill,hp i q h1];rw [a1G (by simp [hsz];omega),<- Array.foldl_toList,Array.toList_zipIdx,aD6 _ 0 ⟨l⟩ (by simp [hsz];omega)];exact h7
theorem plcOf_eq {t:Nat} {pc:Nat->Option (Nat × Nat)} (hp:plcOf P t=some pc):(∃ fs,P.underlying t=some (.struct fs)/\szs P fs.toList=true/\pc=plc P fs.toList)\/(∃ m el es,P.underlying t=some (.array m el)/\szT P el=some es/\pc=fun i=>some (i*es,es)):=by
 unfold plcOf at hp
 grind [dD]
theorem aEE:∀ {fs:List Field},szs P fs=true->∃ l:List (Nat × Nat),(fs.mapM (m:=Sem) fun f=>do Pure.pure (f.offset,<- sizeOf f.type)).run P w= .ok l w/\∀ i,l[i]? =plc P fs i
 | [],_=>⟨[],by simp_all,fun i=>by simp [plc,mC]⟩
 | f :: fs,hs=>by
  simp only [szs]at hs;cases h1:szT P f.type with
  | none=>rw [h1]at hs;cases hs
  | some m=>
   rw [h1]at hs;obtain⟨l,h2,h3⟩:=aEE (fs:=fs) hs;refine⟨(f.offset,m) :: l,?_,fun i=>?_⟩
   ·simp_all [yP]
   grind [plc,mC]
theorem s_build {t:Nat} {ps:Array (Nat × Operand)} (ho:o.op= .build t ps) (he:bN ρ e n a.tmps) (R:Rel g ρ h nx w) (q:run (yD t ps P ex e kv kp kd) h nx lg=some r):OkV P o a w g ρ r kv:=by
 obtain⟨vs,h1,q1⟩:=iO q
 obtain⟨z,hz,q2⟩:=bI q1
 obtain⟨pc,hp,q3⟩:=bI q2
 obtain⟨zc,hzc,q4⟩:=bI q3
 obtain⟨c',hf,q5⟩:=bI q4
 obtain⟨zv,g1,g2⟩:=lA (ρ:=ρ) hz w
 have hvs:=iC he h1
 have:z= .agg zc:=by
  cases z <;> first
   | (cases hzc;done)
   | (cases hzc;rfl)
 subst this
 obtain⟨l,hl,rfl⟩:=aAU g2
 have hmap:(ps.map fun (y:Nat × Operand)=>(y.1,a.eval y.2)).toList=ps.toList.map fun p=>(p.1,a.eval p.2):=by simp
 rcases plcOf_eq hp with⟨fs,hu,hs,rfl⟩ | ⟨m,el,es,hu,hs,rfl⟩
 ·obtain⟨pls,k1,k2⟩:=aEE (w:=w) hs;obtain⟨l',h2,h3⟩:=rI (place:=(pls.toArray[·]?)) (by grind) hf hvs hl
  refine .pure R ?_ (zY h3) q5;have hm:(fs.mapM (m:=Sem) fun f=>do Pure.pure (f.offset,<- sizeOf f.type)).run P w= .ok pls.toArray w:=by
   rw [<- Array.toArray_toList (xs:=fs),List.mapM_toArray]
   simp_all
  simp only [execOp,ho,a1B,Instr.build,g1,a1A,SX.run_underlying hu,hm,Value.cells]
  simp_all
 ·obtain⟨l',h2,h3⟩:=rI (place:=fun i=>some (i*es,es)) (fun i q hq=>hq) hf hvs hl
  refine .pure R ?_ (zY h3) q5;simp only [execOp,ho,a1B,Instr.build,g1,a1A,SX.run_underlying hu,yP hs w,Value.cells]
  simp_all
end
end
open RowKit (Below)
noncomputable section
section
variable {P:Program} {o:Oper} {a:Act} {w:World} {g:G} {ρ:Rho} {r:O × S} {kv:KV} {kp:List PE->AI} {kd:Df->AI} {e:Tr V} {n:Nat} {h:Tr Blk} {nx:Nat} {lg:List Fp} {ex:Ex}
structure RowT (P:Program) (ρ:Rho) (t el es:Nat) (z:List V) (i:TypeInfo) (zv:Value):Prop where
 und:P.underlying t=some (.slice el)
 info:P.info? el=some i
 zero:i.zero=some zv
 size:i.size=es
 small:es<=1048576
 bytes:i.bytes<=1048576
 zc:cells ρ z zv.cells.toList
 zl:z.length=es
theorem eW {a b:Bool} (h:Bool.and a b=true):a=true/\b=true:=by grind
theorem zM {t:Nat} {q:Nat × Nat × List V} (ρ:Rho) (hq:sP P t=some q):∃ i zv,RowT P ρ t q.1 q.2.1 q.2.2 i zv:=by
 unfold sP at hq
 split at hq
 ·rename_i el hel;split at hq
  ·rename_i i hi;split at hq
   ·rename_i z hz;split at hq
    ·rename_i c hc;split at hq
     ·rename_i hb;cases hq;obtain⟨b1,b2⟩:=eW hb;obtain⟨b2,b3⟩:=eW b2;have b1:=a1j b1;rw [ln0]at b1;obtain⟨i',zv,h1,h2,h3⟩:=zer_tv ρ hz;rw [pS hi]at h1;cases h1
      exact⟨i,zv,aFz hel,pS hi,h2,rfl,a1k b2,a1k b3,uK hc h3,b1⟩
     ·cases hq
    ·cases hq
   ·cases hq
  ·cases hq
 ·cases hq
theorem aAP {z:List V} {zv:Array Value} (hz:cells ρ z zv.toList):∀ k,cells ρ (rep z k) (madeCells zv (k*z.length)).toList
 | 0=>by rw [Nat.zero_mul];have:(madeCells zv 0).toList=[]:=by simp [madeCells]
         rw [this];exact cells.nil
 | k+1=>by
  have hl:=hz.len;have e:(madeCells zv ((k+1)*z.length)).toList=(madeCells zv (k*z.length)).toList++zv.toList:=by
   rw [<- hl];apply List.ext_getElem
   ·simp [madeCells,a1h]
   ·intro i h1 h2;by_cases hi:i<k*zv.toList.length
    ·grind [madeCells]
    ·have hlt:i<(k+1)*zv.toList.length:=by simpa [madeCells] using h1
     rw [a1h,Nat.one_mul]at hlt;rw [List.getElem_append_right (by grind [madeCells])];have hmod:i % zv.toList.length=i - k*zv.toList.length:=by
      have h3:i=(i - k*zv.toList.length)+zv.toList.length*k:=by grind
      conv=>lhs;rw [h3]
      rw [Nat.add_mul_mod_self_left,Nat.mod_eq_of_lt (by omega)]
     have hin:i - k*zv.toList.length<zv.toList.length:=by omega
     grind [madeCells]
  have e2:rep z (k+1)=rep z k++z:=by rw [aCq,aCq,List.replicate_succ',List.flatten_concat]
  rw [e,e2];exact(aAP hz k).app hz
theorem oC {b off len cap x κ:Nat} (h:ρ b=some (x,κ)):tv ρ (.sl b off len cap)=some (.slice (some ⟨x,off,none⟩) len cap):=by simp [tv,h]
theorem s_buildS {t len:Nat} {ps:Array (Nat × Operand)} (ho:o.op= .buildSlice t len ps) (he:bN ρ e n a.tmps) (hi:r.2.nx<=g.hi) (R:Rel g ρ h nx w) (q:run (uN t len ps P ex e kv kp kd) h nx lg=some r):OkV P o a w g ρ r kv:=by
 obtain⟨vs,h1,q1⟩:=iO q
 obtain⟨p,hp,q2⟩:=bI q1
 obtain⟨hb,q3⟩:=cC q2
 obtain⟨c,hf,q4⟩:=bI q3
 obtain⟨i,zv,RT⟩:=zM ρ hp
 have hb:len*p.2.1<=1048576:=a1k hb
 have hz:=aAP (ρ:=ρ) RT.zc len
 rw [RT.zl]at hz
 obtain⟨l',g1,g2⟩:=rI (place:=fun i=>some (i*p.2.1,p.2.1)) (fun i q hq=>hq) hf (iC he h1) hz
 obtain⟨b,ρ',h',nx',lg',g3,g4,g5,⟨κ,g6⟩,q5⟩:=aAf (P:=P) R g2 hi q4
 refine⟨.sl b 0 len len, .slice (some ⟨w.heap.size,0,none⟩) len len,ρ',h',nx',lg',_, .inl ?_,g4,g5,oC g6,q5⟩
 have hmap:(ps.map fun (y:Nat × Operand)=>(y.1,a.eval y.2)).toList=ps.toList.map fun p=>(p.1,a.eval p.2):=by simp
 have hr:(Instr.buildSlice t len (ps.map fun (y:Nat × Operand)=>(y.1,a.eval y.2))).run P w= .ok (.slice (some ⟨w.heap.size,0,none⟩) len len) (w.alloc (.cells ⟨l'⟩ p.1)):=by
  by_cases h0:len*i.size=0
  ·have e0:(⟨(madeCells zv.cells (len*p.2.1)).toList⟩:Array Value)=#[]:=by rw [<- RT.size,h0];simp [madeCells]
   rw [e0]at g1;rw [<- RT.size]at g1;have h7:¬ len*i.size > 2 ^ 24:=by rw [RT.size];omega
   simp only [Instr.buildSlice,a1B,SX.run_underlying RT.und,SX.run_sizeOf RT.info,a1A,a1G h7,h0,if_true];have h8:Array.range 0=#[]:=rfl;rw [hmap];simp [a1B,Sem.run,Pure.pure,g1,newRow,newObj,h8]
  ·rw [run_buildSlice (P:=P) w t p.1 len _ ⟨l'⟩ i zv RT.und RT.info RT.zero (by rw [RT.size];omega) h0 (by rw [hmap,RT.size];exact g1)]
 simp only [execOp,ho,a1B]
 rw [hr];simp [Sem.run,Pure.pure]
theorem s_mks {t:Nat} {x y:Operand} (ho:o.op= .makeSlice t x y) (he:bN ρ e n a.tmps) (hi:r.2.nx<=g.hi) (R:Rel g ρ h nx w) (q:run (hMks t x y P ex e kv kp kd) h nx lg=some r):OkV P o a w g ρ r kv:=by
 obtain⟨u,v,h1,h2,q1⟩:=rJ q
 obtain⟨p,hp,q2⟩:=bI q1
 obtain⟨l,hl,q3⟩:=bI q2
 obtain⟨c,hc,q4⟩:=bI q3
 obtain⟨hb,q5⟩:=cC q4
 obtain⟨i,zv,RT⟩:=zM ρ hp
 obtain⟨b1,b2⟩:=eW hb
 have b1:l<=c:=a1k b1
 have b2:c<=1048576:=a1k b2
 obtain⟨k1,rfl⟩:=xB hl
 obtain⟨k2,rfl⟩:=xB hc
 have hx:=qL (cJ he h1)
 have hy:=qL (cJ he h2)
 have hz:=aAP (ρ:=ρ) RT.zc c
 rw [RT.zl]at hz
 obtain⟨b,ρ',h',nx',lg',g3,g4,g5,⟨κ,g6⟩,q6⟩:=aAf (P:=P) R hz hi q5
 have hby:(i.bytes:Int)*(c:Int)<=281474976710656:=by
  have h3:i.bytes*c<=1048576*1048576:=Nat.mul_le_mul RT.bytes b2;omega
 have hr:=run_make (P:=P) w t p.1 i zv RT.und RT.info RT.zero k1 k2 (l:Int) (c:Int) (by omega) (by omega) hby (by omega)
 simp only [a0n,RT.size]at hr
 refine⟨.sl b 0 l c, .slice (some ⟨w.heap.size,0,none⟩) l c,ρ',h',nx',lg',_, .inl ?_,g4,g5,oC g6,q6⟩
 simp_all [execOp]
theorem pZ {c:Call} {b:Builtin} {x:Value} {w':World} (ho:o.op= .call c) (hc:c.callee= .builtin b) (h1:∀ (T:Array Bool),(builtin b c.argTypes o.type T (c.args.map a.eval)).run P w= .ok (.value x) w'):
 (execOp a.eval o).run P w= .ok (.value x) w':=by
 unfold execOp resolve
 rw [ho]
 simp only [hc]
 show((Sem.pure _:Sem Deferred).bind _).run P w=_
 exact h1 _
theorem sR {c:Call} {vs:List Value} (h:c.args.toList.map a.eval=vs):c.args.map a.eval=vs.toArray:=by
 grind
theorem aHE {v:V} {x:Value} {m:Nat} (hv:tv ρ v=some x) (h:nA v=some m):∃ k,x= .int k (m:Int):=by
 grind [xB,tv]
theorem s_len {c:Call} (ho:o.op= .call c) (hc:c.callee= .builtin .len) (he:bN ρ e n a.tmps) (R:Rel g ρ h nx w) (q:run (hLen c P ex e kv kp kd) h nx lg=some r):OkV P o a w g ρ r kv:=by
 obtain⟨vs,h1,q1⟩:=iO q
 have hvs:=iC he h1
 split at q1
 ·rename_i T ts v us hT;obtain⟨x,xs,g1,g2,g3⟩:=dR.1 hvs;have hargs:=sR g3;have hT':c.argTypes[0]? =some T:=by rw [<- a0d,hT];rfl
  have fin:∀ {k:Int} {lg'},(Builtin.len_ c.argTypes o.type (x :: xs).toArray).run P w= .ok (.int .i64 k) w->run (kv (iQ k)) h nx lg'=some r->OkV P o a w g ρ r kv:=fun hr q2=>
   .pure R (pZ ho hc (by simp_all [builtin])) rfl q2
  split at q1
  ·rename_i el hu;have hU:=SX.run_underlying (dD hu) w;rcases oK q1 with⟨b,off,len,cap,rfl,q2⟩ | ⟨b,off,len,es,rfl,q2⟩ | ⟨rfl,q2⟩ | q2
   ·obtain⟨y,_,rfl⟩:=kK g1;exact fin (by simp [Builtin.len_,hT',a1B,hU,goInt,Sem.run,Pure.pure]) q2
   ·obtain⟨y,_,rfl⟩:=kS g1;exact fin (by simp [Builtin.len_,hT',a1B,hU,goInt,Sem.run,Pure.pure]) q2
   ·cases g1;exact fin (by simp [Builtin.len_,hT',a1B,hU,goInt,Sem.run,Pure.pure]) q2
   ·cases q2
  ·rename_i hu;have hU:=SX.run_underlying (dD hu) w;rcases aA5 q1 with⟨s,rfl,q2⟩ | q2
   ·cases g1;exact fin (by simp [Builtin.len_,hT',a1B,hU,goInt,Sem.run,Pure.pure]) q2
   ·cases q2
  ·rename_i kt el hu;have hU:=SX.run_underlying (dD hu) w;rcases aBx q1 with⟨b,rfl,q2⟩ | ⟨rfl,q2⟩
   ·rw [kP]at q2;obtain⟨ob,h1',n1,l,e1,q3⟩:=cZ q2;obtain⟨y,o',k1,k2,k3,_,rfl,rfl⟩:=lL R e1;cases ob with
    | map es ck=>
     cases o' <;> first
      | exact k3.elim
      | skip
     rename_i ms ck';simp only [tv,k1,a1w,a1z]at g1;subst g1;have hlen:ms.size=es.length:=by
      have:∀ {es:List Ent} {ms:List MapEntry},kA ρ es ms->ms.length=es.length:=fun {es}=>by
       induction es with
       | nil=>intro ms hm;cases ms with
        | nil=>rfl
        | cons=>exact hm.elim
       | cons e es ih=>intro ms hm;cases ms with
        | nil=>exact hm.elim
        | cons m ms=>simp [ih hm.2]
      simpa using this k3.2
     have q4:run (kv (iQ (.ofNat (ln es 0)))) h1' n1 (l++lg)=some r:=q3;rw [ln0]at q4;exact fin (by simp [Builtin.len_,hT',a1B,hU,getObj,k2,hlen,goInt,Sem.run,Pure.pure]) q4
    | loop=>cases q3
    | dfr=>cases q3
   ·cases g1;exact fin (by simp [Builtin.len_,hT',a1B,hU,goInt,Sem.run,Pure.pure]) q2
  ·rename_i m el hu;have hU:=SX.run_underlying (dD hu) w;exact fin (by simp [Builtin.len_,hT',a1B,hU,goInt,Sem.run,Pure.pure]) q1
  ·cases q1
 ·cases q1
theorem s_mm {least:Bool} {c:Call} (ho:o.op= .call c) (hc:c.callee= .builtin (if least then .min else .max)) (he:bN ρ e n a.tmps) (R:Rel g ρ h nx w) (q:run (hMm least c P ex e kv kp kd) h nx lg=some r):OkV P o a w g ρ r kv:=by
 obtain⟨vs,h1,q1⟩:=iO q
 have hvs:=iC he h1
 split at q1
 ·rename_i i j;obtain⟨x,xs,g1,g2,g3⟩:=dR.1 hvs;obtain⟨y,ys,g4,g5,rfl⟩:=dR.1 g2;cases lC.1 g5;cases g1;cases g4
  have hargs:=sR g3;cases least with
  | true=>
   rcases gT (b:=true) q1 with⟨_,q2⟩ | ⟨hh,_⟩
   ·rcases gT q2 with⟨hl,q3⟩ | ⟨hl,q3⟩ <;> rw [rZ]at hl <;>
     exact .pure R (pZ ho hc fun _=>by rw [hargs];simp at hl;simp [builtin,Builtin.min_,Builtin.min2,a1B,hl,Int.not_lt.2,Sem.run,Pure.pure]) rfl q3
   ·cases hh
  | false=>
   rcases gT (b:=false) q1 with⟨hh,_⟩ | ⟨_,q2⟩
   ·cases hh
   ·rcases gT q2 with⟨hl,q3⟩ | ⟨hl,q3⟩ <;> rw [rZ]at hl <;>
     exact .pure R (pZ ho hc fun _=>by rw [hargs];simp at hl;simp [builtin,Builtin.max_,Builtin.max2,a1B,hl,Int.not_lt.2,Sem.run,Pure.pure]) rfl q3
 ·cases q1
end
end
open RowKit (Below)
noncomputable section
section
variable {P:Program} {o:Oper} {a:Act} {w:World} {g:G} {ρ:Rho} {r:O × S} {kv:KV} {kp:List PE->AI} {kd:Df->AI} {e:Tr V} {n:Nat} {h:Tr Blk} {nx:Nat} {lg:List Fp} {ex:Ex}
theorem ba_eq {s t:ByteArray} (h:(s==t)=true):s=t:=by
 have:ByteArray.beq s t=true:=h
 unfold ByteArray.beq at this
 cases s;cases t
 simp at this
 simp [this]
def KeyK (d:TypeDesc) (v:V) (x:Value):Prop:=(∃ k k' i,d= .int k/\v= .int k' i/\x= .int k' i)\/(∃ s,d= .string/\v= .str s/\x= .string s)
theorem aFC {kt:Nat} {b:Bool} {v:V} {x:Value} (hk:isKey P kt=some b) (hv:keyOk b v=true) (hx:tv ρ v=some x):∃ d,P.underlying kt=some d/\KeyK d v x:=by
 unfold isKey at hk
 split at hk
 ·rename_i k hu;cases hk;cases v <;> first
   | (cases hv;done)
   | skip
  cases hx;exact⟨_,dD hu,(by grind [KeyK])⟩
 ·rename_i hu;cases hk;cases v <;> first
   | (cases hv;done)
   | skip
  cases hx;exact⟨_,dD hu, .inr ⟨_,rfl,rfl,rfl⟩⟩
 ·cases hk
theorem aFl {d:TypeDesc} {v v':V} {x x':Value} {b:Bool} (hk:KeyK d v x) (h:pR v v'=some b) (hx':tv ρ v'=some x'):Instr.sameNow d x x'=some b/\(b=true->Instr.sameBits 10000 x' x=true):=by
 have beqi:∀ (i j:Int),eqI i j=(i==j):=by grind [aBr]
 rcases hk with⟨k,k',i,rfl,rfl,rfl⟩ | ⟨s,rfl,rfl,rfl⟩
 ·cases v' <;> first
   | (cases k' <;> cases h;done)
   | skip
  rename_i k2 j;cases hx';cases k' <;> cases k2 <;> first
   | (cases h;done)
   | (simp only [pR,a1z]at h
      subst h;refine⟨by simp [Instr.sameNow,beqi],fun hb=>?_⟩
      grind [Instr.sameBits])
 ·cases v' <;> first
   | (cases h;done)
   | skip
  rename_i s';cases hx'
  grind [Instr.sameNow,Instr.sameBits,ba_eq,pR]
theorem aEM {d:TypeDesc} {v:V} {x:Value} (hk:KeyK d v x):∀ {es:List Ent} {ms:List MapEntry} {rr:Option V} (i:Nat),kA ρ es ms->vR v es=some rr ->
 (rr=none/\Instr.findNow d x ms i=some none)\/∃ u y j,rr=some u/\tv ρ u=some y/\Instr.findNow d x ms i=some (some (j,y))
 | [],[],rr,i,_,hf=>by cases hf;exact .inl ⟨rfl,rfl⟩
 | [],_ :: _,_,_,hr,_=>hr.elim
 | _ :: _,[],_,_,hr,_=>hr.elim
 | e :: es,m :: ms,rr,i,hr,hf=>by
  obtain⟨⟨h1,h2,h3⟩,h4⟩:=hr;simp only [vR]at hf;cases hq:pR v e.key with
  | none=>rw [hq]at hf;cases hf
  | some b=>
   rw [hq]at hf;obtain⟨h5,_⟩:=aFl hk hq h1;cases b with
   | true=>grind [Instr.findNow]
   | false=>
    rcases aEM hk (i+1) h4 hf with⟨h6,h7⟩ | ⟨u,y,j,h6,h7,h8⟩
    ·grind [Instr.findNow]
    grind [Instr.findNow]
theorem aC1 {d:TypeDesc} {v u:V} {x y:Value} {c:Nat} (hk:KeyK d v x) (hv:tv ρ v=some x) (hu:tv ρ u=some y):∀ {es:List Ent} {ms:List MapEntry} {q:List Ent × Nat} (i:Nat),kA ρ es ms->setE v u c es=some q ->
 (∃ j m,Instr.findNow d x ms i=some (some (i+j,m.val))/\ms[j]? =some m/\Instr.sameBits 10000 m.key x=true/\q.2=c/\kA ρ q.1 (ms.modify j fun e=>{ e with key:=x,val:=y })) \/
 (Instr.findNow d x ms i=some none/\q.2=c+1/\kA ρ q.1 (ms++[{ key:=x,val:=y,born:=c }]))
 | [],[],q,i,_,hf=>by cases hf;exact .inr ⟨rfl,rfl,⟨hv,hu,rfl⟩,trivial⟩
 | [],_ :: _,_,_,hr,_=>hr.elim
 | _ :: _,[],_,_,hr,_=>hr.elim
 | e :: es,m :: ms,q,i,hr,hf=>by
  obtain⟨⟨h1,h2,h3⟩,h4⟩:=hr;simp only [setE]at hf;cases hq:pR v e.key with
  | none=>rw [hq]at hf;cases hf
  | some b=>
   rw [hq]at hf;obtain⟨h5,h6⟩:=aFl hk hq h1;cases b with
   | true=>
    cases hf;exact .inl ⟨0,m,by simp [Instr.findNow,h5],rfl,h6 rfl,rfl,⟨hv,hu,h3⟩,h4⟩
   | false=>
    simp only at hf
    cases hs:setE v u c es with
    | none=>rw [hs]at hf;cases hf
    | some q'=>
     rw [hs]at hf;cases hf;rcases aC1 hk hv hu (i+1) h4 hs with⟨j,m',g1,g2,g3,g4,g5⟩ | ⟨g1,g2,g3⟩
     ·exact .inl ⟨j+1,m',by grind [Instr.findNow],by simpa using g2,g3,g4,by rw [List.modify_succ_cons];exact⟨⟨h1,h2,h3⟩,g5⟩⟩
     ·exact .inr ⟨by simp [Instr.findNow,h5,g1],g2,⟨h1,h2,h3⟩,g3⟩
theorem aFO {t:Nat} {q:Nat × Bool} (hq:mapOf P t=some q):∃ kt,P.underlying t=some (.map kt q.1)/\isKey P kt=some q.2:=by
 unfold mapOf at hq
 grind [dD]
theorem aBF {kt:Nat} {d:TypeDesc} {v:V} {x:Value} {b:Bool} (hd:P.underlying kt=some d) (hk:KeyK d v x):(Instr.checkKey b 10000 kt x).run P w= .ok () w:=by
 obtain⟨dd,ED⟩:∃ d,∀ b t v,Instr.checkKey b 10000 t v=Instr.checkKey b (d+1) t v:=⟨9999,fun _ _ _=>rfl⟩
 rw [ED]
 rcases hk with⟨k,k',i,rfl,rfl,rfl⟩ | ⟨s,rfl,rfl,rfl⟩ <;> simp [Instr.checkKey,a1B,SX.run_underlying hd,Sem.run,Pure.pure]
theorem vY {kt:Nat} {d:TypeDesc} {x:Value} {ms:List MapEntry} {rr:Option (Nat × Value)} (hd:P.underlying kt=some d) (hf:Instr.findNow d x ms 0=some rr):(Instr.findKey kt x ms).run P w= .ok rr w:=by
 simp [Instr.findKey,a1B,SX.run_underlying hd,hf,Sem.run,Pure.pure]
theorem aCC {ok b:Bool} {v:V} {y:Value} (hv:tv ρ v=some y):tv ρ (okT ok b v)=some (if ok then .tuple #[y, .bool b] else y):=by
 cases ok with
 | true=>simp only [okT,tv,tvs,hv];rfl
 | false=>simp only [okT,hv];rfl
theorem s_look {t:Nat} {x y:Operand} {ok:Bool} (ho:o.op= .lookup t x y ok) (he:bN ρ e n a.tmps) (R:Rel g ρ h nx w) (q:run (uP t x y ok P ex e kv kp kd) h nx lg=some r):OkV P o a w g ρ r kv:=by
 obtain⟨m,v,h1,h2,q1⟩:=rJ q
 obtain⟨p,hp,q2⟩:=bI q1
 obtain⟨z,hz,q3⟩:=bI q2
 obtain⟨hk,q4⟩:=cC q3
 obtain⟨kt,hU,hK⟩:=aFO hp
 have hm:=cJ he h1
 have hv:=cJ he h2
 obtain⟨d,hd,hkk⟩:=aFC hK hk hv
 obtain⟨zv,g1,g2⟩:=lA (ρ:=ρ) hz w
 have hUr:=SX.run_underlying hU w
 rcases aBx q4 with⟨b,rfl,q5⟩ | ⟨rfl,q5⟩
 ·rw [kP]at q5;obtain⟨ob,h1',n1,l,e1,q6⟩:=cZ q5;obtain⟨y',o',k1,k2,k3,_,rfl,rfl⟩:=lL R e1;cases ob with
  | loop=>cases q6
  | dfr=>cases q6
  | map es ck=>
   cases o' <;> first
    | exact k3.elim
    | skip
   rename_i ms ck';simp only [tv,k1,a1w,a1z]at hm;obtain⟨rr,hf,q7⟩:=bI (o:=vR v es) (f:=fun r=>opt r (kv (okT ok false z)) fun v=>kv (okT ok true v)) q6
   have hck:=aBF (P:=P) (w:=w) (b:=ms.isEmpty) hd hkk;rcases aEM hkk 0 k3.2 hf with⟨rfl,h7⟩ | ⟨u,y2,j,rfl,h6,h7⟩
   ·have hfr:=vY (P:=P) (w:=w) hd h7;refine .pure R ?_ (aCC (b:=false) g2) q7;simp [execOp,ho,<- hm,Instr.lookup,a1B,hUr,getObj,k2,hck,hfr,g1,Sem.run,Pure.pure]
   ·have hfr:=vY (P:=P) (w:=w) hd h7;refine .pure R ?_ (aCC (b:=true) h6) q7;simp [execOp,ho,<- hm,Instr.lookup,a1B,hUr,getObj,k2,hck,hfr,Sem.run,Pure.pure]
 ·cases hm':a.eval x <;> rw [hm']at hm <;> cases hm
  have hck:=aBF (P:=P) (w:=w) (b:=true) hd hkk;have hfr:=vY (P:=P) (w:=w) (x:=a.eval y) (ms:=[]) (rr:=none) hd rfl;refine .pure R ?_ (aCC (b:=false) g2) q5;simp [execOp,ho,hm',Instr.lookup,a1B,hUr,hck,hfr,g1,Sem.run,Pure.pure]
theorem s_upd {t:Nat} {x y z:Operand} (ho:o.op= .mapUpdate t x y z\/o.op= .insert t x y z) (he:bN ρ e n a.tmps) (R:Rel g ρ h nx w) (q:run (hUpd t x y z P ex e kv kp kd) h nx lg=some r):OkV P o a w g ρ r kv:=by
 obtain⟨m,v,u,h1,h2,h3,q1⟩:=aC2 q
 obtain⟨p,hp,q2⟩:=bI q1
 obtain⟨hk,q3⟩:=cC q2
 obtain⟨kt,hU,hK⟩:=aFO hp
 have hm:=cJ he h1
 have hv:=cJ he h2
 have hu:=cJ he h3
 obtain⟨d,hd,hkk⟩:=aFC hK hk hv
 have hUr:=SX.run_underlying hU w
 rcases aBx q3 with⟨b,rfl,q5⟩ | ⟨rfl,q5⟩
 ·rw [kP]at q5;obtain⟨ob,h1',n1,l,e1,q6⟩:=cZ q5;obtain⟨y',o',k1,k2,k3,_,rfl,rfl⟩:=lL R e1;cases ob with
  | loop=>cases q6
  | dfr=>cases q6
  | map es ck=>
   cases o' <;> first
    | exact k3.elim
    | skip
   rename_i ms ck';obtain⟨hck0,hents⟩:=k3;subst hck0;simp only [tv,k1,a1w,a1z]at hm;obtain⟨qq,hf,q7⟩:=bI (o:=setE v u ck' es) (f:=fun q=>AI.setO b (.map q.1 q.2) (kv dY)) q6
   rw [sL]at q7;obtain⟨_,h2',n2,l2,e2,q8⟩:=cZ q7;have hck:=aBF (P:=P) (w:=w) (b:=false) hd hkk;rcases aC1 hkk hv hu 0 hents hf with⟨j,m',f1,f2,f3,f4,f5⟩ | ⟨f1,f2,f3⟩
   ·have hfr:=vY (P:=P) (w:=w) hd f1;have hRel:=tE R e2 k1 (o1:= .map (ms.modify j fun e=>{ e with key:=a.eval y,val:=a.eval z }) qq.2) (by grind [obR])
    refine⟨dY,undef,ρ,h2',n2,_,_, .inr ⟨?_,rfl⟩,Rho.le_refl ρ,hRel,rfl,q8⟩;have f2':ms[j]? =some m':=by simpa using f2
    rw [a1q]at hfr;rcases ho with ho | ho <;> simp [execOp,ho,<- hm,Instr.mapUpdate,a1B,hUr,getObj,setObj,k2,hck,hfr,f2',Instr.keyThatStays,f3,f4,Sem.run,Pure.pure]
   ·have hfr:=vY (P:=P) (w:=w) hd f1;have hRel:=tE R e2 k1 (o1:= .map (ms.push { key:=a.eval y,val:=a.eval z,born:=ck' }) qq.2) (by grind [obR])
    refine⟨dY,undef,ρ,h2',n2,_,_, .inr ⟨?_,rfl⟩,Rho.le_refl ρ,hRel,rfl,q8⟩;rcases ho with ho | ho <;> simp [execOp,ho,<- hm,Instr.mapUpdate,a1B,hUr,getObj,setObj,k2,hck,hfr,f2,Sem.run,Pure.pure]
 ·cases q5
end
end
open RowKit (Below)
noncomputable section
section
variable {P:Program} {o:Oper} {a:Act} {w:World} {g:G} {ρ:Rho} {r:O × S} {kv:KV} {kp:List PE->AI} {kd:Df->AI} {e:Tr V} {n:Nat} {h:Tr Blk} {nx:Nat} {lg:List Fp} {ex:Ex}
theorem vJ (he:bN ρ e n a.tmps) {x:Option Operand} {v:Option V} (hv:evO x e=some v):(x=none/\v=none)\/∃ y u,x=some y/\v=some u/\tv ρ u=some (a.eval y):=by
 unfold evO at hv
 grind [cJ]
def Bd (a:Act) (x:Option Operand) (d m:Nat):Prop:=(x=none/\m=d)\/∃ y k,x=some y/\a.eval y= .int k (m:Int)
theorem jW (he:bN ρ e n a.tmps) {x:Option Operand} {v:Option V} {d:Nat} {f:Nat->AI} (hv:evO x e=some v) (q:run (ofB v d f) h nx lg=some r):∃ m,Bd a x d m/\run (f m) h nx lg=some r:=by
 rcases vJ he hv with⟨rfl,rfl⟩ | ⟨y,u,rfl,rfl,ht⟩
 ·exact⟨d, .inl ⟨rfl,rfl⟩,q⟩
 ·obtain⟨m,hm,q1⟩:=bI (o:=nA u) (f:=f) q;obtain⟨k,hk⟩:=aHE ht hm;exact⟨m, .inr ⟨y,k,rfl,hk⟩,q1⟩
theorem lV {x:Value} {k:IntKind} {m y:Nat} {cd:BoundsCode} (hx:x= .int k (m:Int)) (hm:m<=y):(Instr.sliceBound x y cd).run P w= .ok m w:=by
 subst hx
 have h1:(0:Int)<=(m:Int)/\(m:Int)<=(y:Int):=by omega
 simp [Instr.sliceBound,asIntOf,a1B,Sem.run,Pure.pure,hm]
theorem vT {len cap l hh m:Nat} {lo hi mx:Option Operand} {is:Bool} (hl:Bd a lo 0 l) (hhi:Bd a hi len hh) (hm:Bd a mx cap m) (hok:mx=none\/hi≠none) (h1:l<=hh) (h2:hh<=m) (h3:m<=cap):
 (Instr.sliceBounds is len cap (lo.map a.eval) (hi.map a.eval) (mx.map a.eval)).run P w= .ok (l,hh,m) w:=by
 rcases hm with⟨rfl,rfl⟩ | ⟨ym,km,rfl,em⟩ <;> rcases hhi with⟨rfl,rfl⟩ | ⟨yh,kh,rfl,eh⟩ <;> rcases hl with⟨rfl,rfl⟩ | ⟨yl,kl,rfl,el⟩ <;>
  first
   | (rcases hok with hok | hok <;> first | cases hok | exact absurd rfl hok)
   | skip
 ·simp_all [Instr.sliceBounds]
 ·simp [Instr.sliceBounds,a1B,Sem.run,Pure.pure,lV el h1]
 ·simp [Instr.sliceBounds,a1B,Sem.run,Pure.pure,lV eh h2]
 ·simp [Instr.sliceBounds,a1B,Sem.run,Pure.pure,lV eh h2,lV el h1]
 ·simp [Instr.sliceBounds,a1B,Sem.run,Pure.pure,lV em h3,lV eh h2]
 ·simp [Instr.sliceBounds,a1B,Sem.run,Pure.pure,lV em h3,lV eh h2,lV el h1]
theorem hiOk_eq (he:bN ρ e n a.tmps) {hi mx:Option Operand} {vh vm:Option V} (h1:evO hi e=some vh) (h2:evO mx e=some vm) (hh:hiOk vh vm=true):mx=none\/hi≠none:=by
 rcases vJ he h2 with⟨rfl,rfl⟩ | ⟨y,u,rfl,rfl,_⟩
 ·exact .inl rfl
 ·rcases vJ he h1 with⟨rfl,rfl⟩ | ⟨y,u,rfl,rfl,_⟩
  ·cases hh
  ·exact .inr (by simp)
theorem yY {t el:Nat} {i:TypeInfo} {base:Option Addr} {len cap l hh m:Nat} {x:Operand} {lo hi mx:Option Operand} (ho:o.op= .slice t x lo hi mx) (hU:P.underlying t=some (.slice el)) (hi':P.info? el=some i) (hx:a.eval x= .slice base len cap)
 (hb:(Instr.sliceBounds true len cap (lo.map a.eval) (hi.map a.eval) (mx.map a.eval)).run P w= .ok (l,hh,m) w):(execOp a.eval o).run P w= .ok (.value (.slice (if m=l then base else base.map (·.add (l*i.size))) (hh - l) (m - l))) w:=by
 simp [execOp,ho,hx,Instr.sliceAt,Instr.slice,a1B,SX.run_underlying hU,hb,SX.run_sizeOf hi',Sem.run,Pure.pure]
theorem aEk {es b off cap l hh m:Nat} {k:V->AI} (q:run (slN es b off cap l hh m k) h nx lg=some r):l<=hh/\hh<=m/\m<=cap/\((m=l/\run (k (.sl b off (hh - l) (m - l))) h nx lg=some r)\/(m≠l/\run (k (.sl b (off+l*es) (hh - l) (m - l))) h nx lg=some r)):=by
 obtain⟨h1,q1⟩:=cC q
 obtain⟨a1,h2⟩:=eW h1
 obtain⟨a2,a3⟩:=eW h2
 refine⟨a1k a1,a1k a2,a1k a3,?_⟩
 rcases gT q1 with⟨hb,q2⟩ | ⟨hb,q2⟩
 ·simp_all
 ·exact .inr ⟨fun e=>by subst e;simp at hb,q2⟩
theorem aCf {es b off len es0:Nat} {p:AI} (R:Rel g ρ h nx w) (q:run (soOk es b off len es0 p) h nx lg=some r):0<es/\es0=es/\(∃ y,ρ b=some y/\off+len*es<=y.2*es/\len<=y.2 - off / es)/\∃ lg',run p h nx lg'=some r:=by
 obtain⟨h0,q1⟩:=cC q
 obtain⟨hes,h1⟩:=eW h0
 have h1:=a1j h1
 rw [a1i]at hes
 rw [yW]at q1
 obtain⟨x,h',n1,l,e1,q2⟩:=cZ q1
 unfold pSz at e1
 split at e1
 ·rename_i c t op hb;cases e1;obtain⟨h2,q3⟩:=cC q2;obtain⟨a1,a2⟩:=eW h2;have a1:op=es:=a1j a1;have a2:off+len*es<=c.length:=a1k a2;subst a1;obtain⟨y,cl,junk,hy,hw,hc,_,hj⟩:=R.row hb;have:=hj hes;have hl:=hc.len;have hle:off+len*op<=y.2*op:=by omega
  refine⟨hes,h1,⟨y,hy,hle,?_⟩,_,q3⟩;have h4:(off+len*op) / op<=y.2:=by
   have:=Nat.div_le_div_right (c:=op) hle
   simp_all
  grind [Nat.add_mul_div_right]
 ·cases e1
theorem vL {b off len es x κ:Nat} (h:ρ b=some (x,κ)):tv ρ (.so b off len es)=some (.slice (some ⟨x,off,none⟩) len (κ - off / es)):=by simp [tv,h]
theorem s_slice {t:Nat} {x:Operand} {lo hi mx:Option Operand} (ho:o.op= .slice t x lo hi mx) (he:bN ρ e n a.tmps) (R:Rel g ρ h nx w) (q:run (uV t x lo hi mx P ex e kv kp kd) h nx lg=some r):OkV P o a w g ρ r kv:=by
 obtain⟨v,h1,q1⟩:=fH q
 obtain⟨vl,hl,q2⟩:=aCd q1
 obtain⟨vh,hh,q3⟩:=aCd q2
 obtain⟨vm,hm,q4⟩:=aCd q3
 obtain⟨hok,q5⟩:=cC q4
 have hok:=hiOk_eq he hh hm hok
 have hv:=cJ he h1
 split at q5
 ·rename_i el hel;have hU:=aFz hel;obtain⟨es,hes,q6⟩:=bI q5;obtain⟨i,hi',hsz⟩:=lT hes;rcases oK q6 with⟨b,off,len,cap,rfl,q7⟩ | ⟨b,off,len,es0,rfl,q7⟩ | ⟨rfl,q7⟩ | q7
  ·obtain⟨y,hb,hx⟩:=kK hv;obtain⟨l,bl,q8⟩:=jW he hl q7;obtain⟨u,bh,q9⟩:=jW he hh q8;obtain⟨m,bm,q10⟩:=jW he hm q9;obtain⟨k1,k2,k3,k4⟩:=aEk q10;have hr:=yY (w:=w) ho hU hi' hx (vT bl bh bm hok k1 k2 k3);rcases k4 with⟨k4,q11⟩ | ⟨k4,q11⟩
   ·rw [a1H k4]at hr;exact .pure R hr (oC (κ:=y.2) hb) q11
   ·rw [a1G k4,a1w,mR,hsz]at hr;exact .pure R hr (oC (κ:=y.2) hb) q11
  ·obtain⟨y,hb,hx⟩:=kS hv
   ·obtain⟨h0,rfl,⟨y',hb',hle,hcap⟩,lg1,q8⟩:=aCf R q7;rw [hb]at hb';cases hb'
    obtain⟨l,bl,q9⟩:=jW he hl q8;obtain⟨u,bh,q10⟩:=jW he hh q9;rcases iU q10 with⟨hmn,q11⟩ | ⟨vm',hmn,q11⟩
    ·have hmx:mx=none:=by
      grind [vJ]
     subst hmx;obtain⟨c1,q12⟩:=cC q11;obtain⟨_,c2⟩:=eW c1;obtain⟨c3,c4⟩:=eW c2;obtain⟨c5,c6⟩:=eW c4;have c3:l<=u:=a1k c3;have c5:u<=len:=a1k c5;have c7:l=0\/l<len:=by
      simp_all
     have hr:=yY (w:=w) ho hU hi' hx (vT bl bh (.inl ⟨rfl,rfl⟩) hok c3 (by omega) (a1l _))
     have haddr:(if (y.2 - off / es0)=l then(some (⟨y.1,off,none⟩:Addr)) else (some ⟨y.1,off,none⟩:Option Addr).map (·.add (l*i.size)))=some ⟨y.1,off+l*es0,none⟩:=by
      grind [Addr.add]
     rw [haddr]at hr;refine .pure R hr ?_ q12;show tv ρ (.so b (off+l*es0) (u - l) es0)=_
     grind [vL,Nat.add_mul_div_right]
    ·obtain⟨m,bm,q12⟩:=jW he hm q11;obtain⟨k1,k2,k3,k4⟩:=aEk q12;have bm':Bd a mx (y.2 - off / es0) m:=by
      grind [evO,Bd]
     have hr:=yY (w:=w) ho hU hi' hx (vT bl bh bm' hok k1 k2 (by omega))
     rcases k4 with⟨k4,q13⟩ | ⟨k4,q13⟩
     ·rw [a1H k4]at hr;exact .pure R hr (oC (κ:=y.2) hb) q13
     ·rw [a1G k4,a1w,mR,hsz]at hr;exact .pure R hr (oC (κ:=y.2) hb) q13
  ·have hx:a.eval x= .slice none 0 0:=(a1y hv).symm;obtain⟨l,bl,q8⟩:=jW he hl q7;obtain⟨u,bh,q9⟩:=jW he hh q8;obtain⟨m,bm,q10⟩:=jW he hm q9;obtain⟨h0,q11⟩:=cC q10;have h0:l+(u+m)=0:=a1j h0;obtain⟨rfl,rfl,rfl⟩:l=0/\u=0/\m=0:=by omega
   have hr:=yY (w:=w) ho hU hi' hx (vT bl bh bm hok (a1l _) (a1l _) (a1l _));exact .pure R hr rfl q11
  ·cases q7
 ·obtain⟨hs,q6⟩:=cC q5;have hU:P.underlying t=some .string:=by
   unfold isStr at hs
   grind [dD]
  rcases iU q6 with⟨hmn,q7⟩ | ⟨_,_,q7⟩
  ·have hmx:mx=none:=by
    grind [vJ]
   subst hmx;rcases aA5 q7 with⟨s,rfl,q8⟩ | q8
   ·have hx:a.eval x= .string s:=(a1y hv).symm;obtain⟨l,bl,q9⟩:=jW he hl q8;obtain⟨u,bh,q10⟩:=jW he hh q9;obtain⟨c1,q11⟩:=cC q10;obtain⟨c2,c3⟩:=eW c1;have hb:=vT (P:=P) (w:=w) (is:=false) bl bh (.inl ⟨rfl,rfl⟩) hok (a1k c2) (a1k c3) (a1l _);refine .pure (x:= .string (s.extract l u)) R ?_ rfl q11;simp only [Option.map_none]at hb;simp [execOp,ho,hx,Instr.sliceAt,Instr.slice,a1B,SX.run_underlying hU,hb,Sem.run,Pure.pure]
   ·cases q8
  ·cases q7
end
end
open RowKit (Below)
noncomputable section
section
variable {P:Program} {o:Oper} {a:Act} {w:World} {g:G} {ρ:Rho} {r:O × S} {kv:KV} {kp:List PE->AI} {kd:Df->AI} {e:Tr V} {n:Nat} {h:Tr Blk} {nx:Nat} {lg:List Fp} {ex:Ex}
theorem Rel.drew (R:Rel g ρ h nx w):Rel g ρ h nx w.drew:=⟨R.blk,R.inj,R.new,R.below.drew,R.lo,R.fresh,R.le,R.out⟩
theorem cells.uniq {l:List V} {x y:List Value} (h1:cells ρ l x) (h2:cells ρ l y):x=y:=a1y (h1.2.symm.trans h2.2)
theorem aAF {b off m:Nat} {y:Nat × Nat} {k:List V->AI} (R:Rel g ρ h nx w) (hb:ρ b=some y) (q:run (rdN b off m k) h nx lg=some r):
 ∃ vs l lg',run (k vs) h nx lg'=some r/\cells ρ vs l/\vs.length=m/\∀ w',Rel g ρ h nx w'->(loadCells ⟨y.1,off,none⟩ m).run P w'= .ok ⟨l⟩ w':=by
 rcases gT q with⟨h0,q1⟩ | ⟨_,q1⟩
 ·have:=a1j h0;subst this;exact⟨[],[],lg,q1,cells.nil,rfl,fun w' _=>by simp [loadCells,loadCellsFrom,Sem.run,Pure.pure]⟩
 ·rw [zO]at q1;obtain⟨vs,h1,n1,l,e1,q2⟩:=cZ q1;obtain⟨x,rr,h2,h3,h4,h5,h6,h7⟩:=aCt (P:=P) R e1;subst h6 h7;rw [hb]at h2;cases h2
  refine⟨vs,rr,_,q2,h4,h5,fun w' R'=>?_⟩
  obtain⟨x',rr',g2,g3,g4,_⟩:=aCt (P:=P) R' e1
  grind [cells.uniq]
theorem aIi (s:ByteArray):cells ρ (zQ s) (s.data.toList.map fun b=>Value.int .u8 b.toNat):=by
 unfold zQ
 generalize s.data.toList=l
 induction l with
 | nil=>exact cells.nil
 | cons b l ih=>exact⟨oQ.2 ⟨rfl,ih.1⟩,dR.2 ⟨_,_,rfl,ih.2,rfl⟩⟩
theorem aHm {es:Nat} {v:V} {x:Value} {f:Nat->List V->AI} (R:Rel g ρ h nx w) (hv:tv ρ v=some x) (q:run (cellsOf es v f) h nx lg=some r):
 ∃ m vs l lg',run (f m vs) h nx lg'=some r/\cells ρ vs l/\vs.length=m*es/\∀ w',Rel g ρ h nx w'->(Builtin.lenOf x).run P w'= .ok m w'/\(Builtin.firstCells es m x).run P w'= .ok ⟨l⟩ w':=by
 rcases oK q with⟨b,off,len,cap,rfl,q1⟩ | ⟨b,off,len,es0,rfl,q1⟩ | ⟨rfl,q1⟩ | q1
 ·obtain⟨y,hb,rfl⟩:=kK hv;obtain⟨vs,l,lg',q2,h1,h2,h3⟩:=aAF (P:=P) R hb q1;exact⟨len,vs,l,lg',q2,h1,h2,fun w' R'=>⟨by simp [Builtin.lenOf,Sem.run,Pure.pure],by grind [Builtin.firstCells]⟩⟩
 ·obtain⟨y,hb,rfl⟩:=kS hv;obtain⟨vs,l,lg',q2,h1,h2,h3⟩:=aAF (P:=P) R hb q1;exact⟨len,vs,l,lg',q2,h1,h2,fun w' R'=>⟨by simp [Builtin.lenOf,Sem.run,Pure.pure],by grind [Builtin.firstCells]⟩⟩
 ·cases hv;exact⟨0,[],[],lg,q1,cells.nil,by simp,fun w' R'=>⟨by simp [Builtin.lenOf,Sem.run,Pure.pure],by simp [Builtin.firstCells,Sem.run,Pure.pure]⟩⟩
 ·rcases aA5 q1 with⟨s,rfl,q2⟩ | q2
  ·cases hv;obtain⟨h1,q3⟩:=cC q2;have h1:=a1j h1;subst h1;refine⟨s.size,_,_,lg,q3,aIi s,by simp [zQ],fun w' R'=>⟨by simp [Builtin.lenOf,Sem.run,Pure.pure],?_⟩⟩
   have hx:(Array.map (fun b:UInt8=>Value.int IntKind.u8 (b.toNat:Int)) s.data).extract 0 s.size=Array.map (fun b:UInt8=>Value.int IntKind.u8 (b.toNat:Int)) s.data:=by
    simp_all
   simp [Builtin.firstCells,Sem.run,Pure.pure,hx];apply Array.ext';simp
  ·cases q2
structure ApT (P:Program) (ts:Array TypeId) (T U el:Nat) (i:TypeInfo) (zv:Value):Prop where
 t0:ts[0]? =some T
 t1:ts[1]? =some U
 und:P.underlying T=some (.slice el)
 und2:∃ d,P.underlying U=some d/\∀ k,d≠ .int k
 info:P.info? el=some i
 zero:i.zero=some zv
theorem tW {ts:Array TypeId} {T U el ty:Nat} {i:TypeInfo} {zv x:Value} {base:Option Addr} {len cap m:Nat} {news:List Value} {rest:List Value} {w':World} (A:ApT P ts T U el i zv)
 (hl:(Builtin.lenOf x).run P w= .ok m w) (hf:(Builtin.firstCells i.size m x).run P w= .ok ⟨news⟩ w) (hr:len+m<=cap)
 (hs:match base with | some p=>(storeCells (p.add (len*i.size)) news).run P w= .ok () w' | none=>w'=w):
 (Builtin.append_ ts ty (.slice base len cap :: x :: rest).toArray).run P w= .ok (.slice base (len+m) cap) w':=by
 obtain⟨d,hd,hk⟩:=A.und2
 have hnum:(match d with | .int _=>true | _=>false)=false:=by simp_all
 cases base with
 | none=>
  subst hs;cases d <;> first
   | exact absurd rfl (hk _)
   | simp [Builtin.append_,A.t0,A.t1,a1B,SX.run_underlying A.und,SX.run_underlying hd,SX.run_sizeOf A.info,hl,hf,hr,Sem.run,Pure.pure]
 | some p=>
  simp only at hs
  cases d <;> first
   | exact absurd rfl (hk _)
   | simp [Builtin.append_,A.t0,A.t1,a1B,SX.run_underlying A.und,SX.run_underlying hd,SX.run_sizeOf A.info,hl,hf,hr,hs,Sem.run,Pure.pure]
theorem app_grow {ts:Array TypeId} {T U el ty:Nat} {i:TypeInfo} {zv x:Value} {base:Option Addr} {len cap m:Nat} {olds news:List Value} {rest:List Value} (A:ApT P ts T U el i zv)
 (hl:(Builtin.lenOf x).run P w= .ok m w) (hf:(Builtin.firstCells i.size m x).run P w.drew= .ok ⟨news⟩ w.drew) (ho:(Builtin.firstCells i.size len (.slice base len cap)).run P w.drew= .ok ⟨olds⟩ w.drew)
 (hg:cap<len+m) (hlim:len+m<=1048576) (hby:i.bytes<=1048576):
 (Builtin.append_ ts ty (.slice base len cap :: x :: rest).toArray).run P w= .ok (.slice (some ⟨w.heap.size,0,none⟩) (len+m) (grownCap w (len+m) cap el))
  (w.drew.alloc (.cells (⟨olds++news++(Builtin.zeroCells zv.cells (grownCap w (len+m) cap el - (len+m))).toList⟩) el)):=by
 obtain⟨d,hd,hk⟩:=A.und2
 have hn:¬ (len+m<=cap):=by omega
 have h63:¬ (9223372036854775807<((len:Int)+(m:Int))):=by omega
 have hfit:=growslice_fits (bytes:=i.bytes) hg (by
  have:(len+m)*i.bytes<=1048576*1048576:=Nat.mul_le_mul hlim hby;omega)
 have h48:¬ (281474976710656<Builtin.nextslicecap (len+m) cap*i.bytes):=by omega
 have e:(⟨olds⟩++⟨news⟩++Builtin.zeroCells zv.cells (grownCap w (len+m) cap el - (len+m)):Array Value)=⟨olds++news++(Builtin.zeroCells zv.cells (grownCap w (len+m) cap el - (len+m))).toList⟩:=by
  apply Array.ext';simp
 rw [<- e]
 have hU:=fun w=>SX.run_underlying (P:=P) A.und w
 have hD:=fun w=>SX.run_underlying (P:=P) hd w
 cases d <;> first
  | exact absurd rfl (hk _)
  | (simp [Builtin.append_,A.t0,A.t1,hU,hD,sizeOf,typeInfo,zeroValue,A.info,A.zero,hl,hn,h63,h48,Question.forced,hf,ho,newRow,grownCap]
     grind)
end
end
open RowKit (Below)
noncomputable section
section
variable {P:Program} {o:Oper} {a:Act} {w:World} {g:G} {ρ:Rho} {r:O × S} {kv:KV} {kp:List PE->AI} {kd:Df->AI} {e:Tr V} {n:Nat} {h:Tr Blk} {nx:Nat} {lg:List Fp} {ex:Ex}
structure Same (w w':World) (b:Nat):Prop where
 other:∀ c,c≠b->w'.heap[c]? =w.heap[c]?
 size:w'.heap.size=w.heap.size
 os:w'.os=w.os
 output:w'.output=w.output
 tape:w'.tape=w.tape
theorem uW {b t:Nat}:∀ (vs:List Value) (l:List Value) (w:World) (k i off:Nat),w.heap[b]? =some (.cells ⟨l⟩ t (0,0))->(∀ v∈vs,cO v)->off+vs.length<=l.length->off=k+i ->
 ∃ w',(storeCells ⟨b,k,none⟩ vs i).run P w= .ok () w'/\w'.heap[b]? =some (.cells ⟨l.take off++vs++l.drop (off+vs.length)⟩ t (0,0))/\Same w w' b
 | [],l,w,k,i,off,hw,_,_,_=>⟨w,rfl,by simpa using hw,fun _ _=>rfl,rfl,rfl,rfl,rfl⟩
 | v :: vs,l,w,k,i,off,hw,hv,hle,hk=>by
  have hoff:off<l.length:=by simp at hle;omega
  have hcell:w.cell? ⟨b,off,none⟩=some l[off]:=by rw [tJ hw];simp [hoff]
  have hfr:w.frozen? ⟨b,off,none⟩=false:=by simp [World.frozen?,hw]
  have hrun:(Go.store ⟨b,off,none⟩ v).run P w= .ok () (w.setCell ⟨b,off,none⟩ v):=SX.run_store (P:=P) (by
   have:=hv v (.head _);cases v <;> first | exact this.elim | trivial) hcell hfr
  have hset:=aFo hw v (off:=off);have e1:(Array.setIfInBounds ⟨l⟩ off v:Array Value)=⟨l.set off v⟩:=by apply Array.ext';simp
  rw [e1]at hset;obtain⟨w',h1,h2,h3⟩:=uW vs (l.set off v) _ k (i+1) (off+1) hset (by grind) (by simp at hle ⊢;omega) (by omega)
  refine⟨w',?_,?_,fun c hc=>(h3.other c hc).trans (by grind [SX.setCell_other]),h3.size.trans (SX.setCell_size _ _ _),h3.os,h3.output,h3.tape⟩
  ·have e0:Addr.add ⟨b,k,none⟩ i=⟨b,off,none⟩:=by rw [tN,hk]
   simp_all [storeCells]
  ·rw [h2,aCz hle]
theorem aGp {z:Array Value} (k:Nat):(Builtin.zeroCells z k).toList.length=k*z.size:=by simp [Builtin.zeroCells]
theorem grow_run {el es m nc:Nat} {c:List V} {l zs:List Value} {k:V->AI} (R:Rel g ρ h nx w) (hc:cells ρ c l) (hl:l.length=m*es) (hz:zs.length=(nc - m)*es) (hes:0<es) (hnc:m<=nc) (hi:r.2.nx<=g.hi) (q:run (grow el es m c k) h nx lg=some r):
 m<=1048576/\∃ b ρ' h' nx' lg',ρ.le ρ'/\Rel g ρ' h' nx' (w.alloc (.cells ⟨l++zs⟩ el))/\ρ' b=some (w.heap.size,nc)/\run (k (.so b 0 m es)) h' nx' lg'=some r:=by
 obtain⟨hm,q1⟩:=cC q
 rw [aAs]at q1
 obtain⟨b,h1,n1,mm,e1,q2⟩:=cZ q1
 have hn1:=a1m (pH q2) hi
 have hn:ρ nx=none:=by
  unfold iS at e1;split at e1
  ·cases e1;exact R.fresh nx (a1l _) hn1
  ·cases e1
 have hle:=Rho.le_ins (x:=(w.heap.size,nc)) hn
 obtain⟨rfl,h2,h3⟩:=yG R e1 hn1 nc (.cells ⟨l++zs⟩ el) ⟨rfl,rfl,l,zs,hc.mono hle,rfl,fun h=>absurd h (by omega),fun _=>by
  rw [hl,hz,<- a1h];congr 1;omega⟩
 exact⟨a1k hm,b,_,h1,n1,_,h2,h3,Rho.ins_self,q2⟩
theorem aHq (w:World) (need old:Nat) (el:TypeId):need<=grownCap w need old el:=by
 unfold grownCap;simp only [Question.cut];omega
theorem adopt {b:Nat} {k k':Blk} {x:Nat × Nat} {o':Obj} {w':World} (R:Rel g ρ h nx w) (hb:at_ h b=some k) (hx:ρ b=some x) (hn:nx+1<=g.hi) (hw:w'.heap[x.1]? =some o') (hs:Same w w' x.1) (hk:blkR (ρ.ins nx x) x.2 k' o'):
 ρ.le (ρ.ins nx x)/\Rel g (ρ.ins nx x) (pu (pu h b none) nx (some k')) (nx+1) w':=by
 have hnn:ρ nx=none:=R.fresh nx (a1l _) hn
 have hle:=Rho.le_ins (x:=x) hnn
 have hne:b≠nx:=fun e=>by subst e;rw [hnn]at hx;cases hx
 have key:∀ {c:Nat} {q:Blk},at_ (pu (pu h b none) nx (some k')) c=some q->(c=nx/\q=k')\/(c≠nx/\c≠b/\at_ h c=some q):=fun {c q} hc=>by
  rw [fG]at hc;split at hc
  ·cases hc;exact .inl ⟨by assumption,rfl⟩
  ·rw [fG]at hc;split at hc
   ·cases hc
   ·exact .inr ⟨by assumption,by assumption,hc⟩
 have insne:∀ {c:Nat},c≠nx->ρ.ins nx x c=ρ c:=fun hc=>by simp [Rho.ins,hc]
 refine⟨hle,fun c q hc=>?_,fun c c' y y' h1 h2 h3 h4 h5=>?_,fun c y hy=>?_,⟨hs.os.trans R.below.os,hs.tape.trans R.below.tape,hs.output.trans R.below.output,by rw [hs.size];exact R.below.size,fun c hc=>?_⟩,Nat.le_succ_of_le R.lo,fun c h1 h2=>?_,Rho.le_trans R.le hle,fun c hc=>?_⟩
 ·rcases key hc with⟨rfl,rfl⟩ | ⟨g1,g2,g3⟩
  ·exact⟨x,o',Rho.ins_self,hw,hk⟩
  ·obtain⟨y,o2,k1,k2,k3⟩:=R.blk c q g3;refine⟨y,o2,hle _ _ k1,?_,k3.mono hle⟩;rw [hs.other y.1 fun e=>g2 (R.inj c b y x (by rw [g3];simp) (by rw [hb];simp) k1 hx e)];exact k2
 ·obtain⟨q,hq⟩:=a1x.1 h1;obtain⟨q',hq'⟩:=a1x.1 h2;rcases key hq with⟨rfl,_⟩ | ⟨g1,g2,g3⟩ <;> rcases key hq' with⟨rfl,_⟩ | ⟨f1,f2,f3⟩
  ·rfl
  ·rw [Rho.ins_self]at h3;cases h3
   rw [insne f1]at h4;exact absurd (R.inj c' b y' x (by rw [f3];simp) (by rw [hb];simp) h4 hx h5.symm) f2
  ·rw [Rho.ins_self]at h4;cases h4
   rw [insne g1]at h3;exact absurd (R.inj c b y x (by rw [g3];simp) (by rw [hb];simp) h3 hx h5) g2
  ·rw [insne g1]at h3;rw [insne f1]at h4;exact R.inj c c' y y' (by rw [g3];simp) (by rw [f3];simp) h3 h4 h5
 ·unfold Rho.ins at hy;split at hy
  ·cases hy;exact R.new b x hx
  ·exact R.new c y hy
 ·have:=R.new b x hx;rw [hs.other c (by omega)];exact R.below.block c hc
 ·have:c≠nx:=by omega
  rw [insne this];exact R.fresh c (by omega) h2
 ·have:=R.lo;have:c≠nx:=by omega
  rw [insne this];exact R.out c hc
theorem aIu {U:Nat} (hh:Bool.not (isInt P U)=true):∃ d,P.underlying U=some d/\∀ k,d≠ .int k:=by
 unfold isInt at hh
 split at hh
 ·cases hh
 ·cases hh
 ·rename_i x h1 h2;cases hu:und P U with
  | none=>grind
  | some d=>simp_all [dD]
theorem s_append {c:Call} (ho:o.op= .call c) (hc:c.callee= .builtin .append) (he:bN ρ e n a.tmps) (hi:r.2.nx<=g.hi) (R:Rel g ρ h nx w) (q:run (uY c P ex e kv kp kd) h nx lg=some r):OkV P o a w g ρ r kv:=by
 obtain⟨vs,h1,q1⟩:=iO q
 have hvs:=iC he h1
 split at q1
 ·rename_i T U ts s x us hT;obtain⟨xs,xr,g1,g2,g3⟩:=dR.1 hvs;obtain⟨xx,xr',g4,g5,rfl⟩:=dR.1 g2;have hargs:=sR g3;have t0:c.argTypes[0]? =some T:=by rw [<- a0d,hT];rfl
  have t1:c.argTypes[1]? =some U:=by rw [<- a0d,hT];rfl
  obtain⟨p,hp,q2⟩:=bI q1;obtain⟨hb,q3⟩:=cC q2;obtain⟨hes,hU⟩:=eW hb;rw [a1i]at hes;obtain⟨i,zv,RT⟩:=zM ρ hp;have A:ApT P c.argTypes T U p.1 i zv:=⟨t0,t1,RT.und,aIu hU,RT.info,RT.zero⟩;obtain⟨m,news,nl,lg1,q4,n1,n2,n3⟩:=aHm (P:=P) R g4 q3;have hnl:=n1.len;have hsz:i.size=p.2.1:=RT.size;have hzs:zv.cells.size=p.2.1:=by have h1:=RT.zc.len;have h2:=RT.zl;rw [<- a0e];omega
  have hl:=fun w' R'=>(n3 w' R').1
  have hf:=fun w' R'=>(n3 w' R').2
  rw [<- hsz]at hf;have fin:∀ {u:V} {X:Value} {ρ' h' nx' lg' w'},(Builtin.append_ c.argTypes o.type (xs :: xx :: xr').toArray).run P w= .ok X w'->ρ.le ρ'->Rel g ρ' h' nx' w'->tv ρ' u=some X->run (kv u) h' nx' lg'=some r->OkV P o a w g ρ r kv:=
   fun {u X ρ' h' nx' lg' w'} hr k1 k2 k3 k4=>⟨u,X,ρ',h',nx',lg',w', .inl (pZ ho hc fun _=>by rw [hargs];simp only [builtin];rw [a1B,hr];rfl),k1,k2,k3,k4⟩
  have grw:∀ {base:Option Addr} {len cap:Nat} {oldsV:List V} {olds:List Value} {lg'},xs= .slice base len cap->cap<len+m->cells ρ oldsV olds->oldsV.length=len*p.2.1 ->
   (Builtin.firstCells i.size len (.slice base len cap)).run P w.drew= .ok ⟨olds⟩ w.drew->∀ {h0:Tr Blk},Rel g ρ h0 nx w->run (grow p.1 p.2.1 (len+m) (ap oldsV news) kv) h0 nx lg'=some r->OkV P o a w g ρ r kv:=by
   intro base len cap oldsV olds lg' hX hg hco hlo hfo h0 R0 q5;have hlen:(olds++nl).length=(len+m)*p.2.1:=by rw [a0I,hco.len,hnl,hlo,n2,a1h]
   rw [jD]at q5;obtain⟨k0,b,ρ',h',nx',lg2,k1,k2,k3,k4⟩:=grow_run (nc:=grownCap w (len+m) cap p.1) (zs:=(Builtin.zeroCells zv.cells (grownCap w (len+m) cap p.1 - (len+m))).toList) R0.drew (hco.app n1) hlen
    (by rw [aGp,hzs]) hes (aHq _ _ _ _) hi q5
   have hr:=app_grow (P:=P) (ty:=o.type) (rest:=xr') (olds:=olds) A (hl w R) (hf w.drew R.drew) hfo hg k0 RT.bytes;rw [hX]at fin;refine fin hr k1 k2 ?_ k4;rw [vL k3];simp
  rcases gT q4 with⟨hm0,q5⟩ | ⟨hm0,q5⟩
  ·have hm0:=a1j hm0;subst hm0;have hnil:nl=[]:=a0u (by rw [hnl,n2];simp)
   subst hnil;rcases oK q5 with⟨b,off,len,cap,rfl,q6⟩ | ⟨b,off,len,es0,rfl,q6⟩ | ⟨rfl,q6⟩ | q6
   ·obtain⟨hle,q7⟩:=cC q6;obtain⟨y,hb',rfl⟩:=kK g1;exact fin (tW (w':=w) A (hl w R) (hf w R) (a1k hle) (by simp [storeCells,Sem.run,Pure.pure])) (Rho.le_refl ρ) R (oC (κ:=y.2) hb') q7
   ·obtain⟨_,rfl,⟨y',hb',_,hcap⟩,lg2,q7⟩:=aCf R q6;obtain⟨y,hb'',rfl⟩:=kS g1;rw [hb']at hb'';cases hb''
    exact fin (tW (w':=w) A (hl w R) (hf w R) hcap (by simp [storeCells,Sem.run,Pure.pure])) (Rho.le_refl ρ) R (vL (κ:=y'.2) hb') q7
   ·cases g1;exact fin (tW (w':=w) A (hl w R) (hf w R) (a1l _) rfl) (Rho.le_refl ρ) R rfl q6
   ·cases q6
  ·have hm:0<m:=Nat.pos_of_ne_zero fun e=>by subst e;simp at hm0
   have hnpos:0<news.length:=by rw [n2];exact Nat.mul_pos hm hes
   rcases oK q5 with⟨b,off,len,cap,rfl,q6⟩ | ⟨b,off,len,es0,rfl,q6⟩ | ⟨rfl,q6⟩ | q6
   ·obtain⟨y,hb',rfl⟩:=kK g1;have q6':run (ife (Nat.ble (len+m) cap) (.wr b (off+len*p.2.1) news (kv (.sl b off (len+m) cap))) (rdN b off (len*p.2.1) fun old=>grow p.1 p.2.1 (len+m) (ap old news) kv)) h nx lg1=some r:=q6
    rcases gT q6' with⟨hle,q7⟩ | ⟨hle,q7⟩
    ·have hle:=a1k hle;rw [yL]at q7;obtain⟨_,h',n',l',e1,q8⟩:=cZ q7;obtain⟨y2,w',k1,k2,k3⟩:=zI (P:=P) R e1 n1;rw [hb']at k1;cases k1
     exact fin (tW (w':=w') A (hl w R) (hf w R) hle (by simp only [mR,hsz];exact k2)) (Rho.le_refl ρ) k3 (oC (κ:=y.2) hb') q8
    ·have hgt:cap<len+m:=by
      rcases Nat.lt_or_ge cap (len+m)with h | h
      ·exact h
      ·rw [Nat.ble_eq_true_of_le h]at hle;cases hle
     obtain⟨ov,ol,lg2,q8,k1,k2,k3⟩:=aAF (P:=P) R hb' q7;exact grw rfl hgt k1 k2 (by simp only [Builtin.firstCells,hsz];exact k3 w.drew R.drew) R q8
   ·obtain⟨h00,q7⟩:=cC q6;have h00:=a1j h00;subst h00;obtain⟨y,hb',rfl⟩:=kS g1;have q8:=q7;unfold appO at q8;rw [yW]at q8;obtain⟨X,h',n',l',e1,q9⟩:=cZ q8;unfold pSz at e1;split at e1
    ·rename_i cc t op hcb;cases e1;obtain⟨hh,q10⟩:=cC q9;obtain⟨a1,a2⟩:=eW hh;have hop:op=p.2.1:=a1j a1;have htt:t=p.1:=a1j a2;clear a1 a2 hh;subst hop htt;obtain⟨y',cl,junk,hy,hw,hcl,_,hj⟩:=R.row hcb;rw [hb']at hy;cases hy
     have hj:=hj hes;have hcll:=hcl.len;have q11:run (ife (Nat.ble (off+(len+m)*p.2.1) cc.length) (.wr b (off+len*p.2.1) news (kv (.so b off (len+m) p.2.1)))
      (cB (Bool.and (Nat.beq off 0) (Nat.beq (len*p.2.1) cc.length)) (rdN b 0 (len*p.2.1) fun old=> .del b (grow p.1 p.2.1 (len+m) (ap old news) kv)))) h nx _=some r:=q10
     rcases gT q11 with⟨hle,q12⟩ | ⟨_,q12⟩
     ·have hle:off+(len+m)*p.2.1<=cc.length:=a1k hle;have hroom:len+m<=y.2 - off / p.2.1:=by
       have h5:off+(len+m)*p.2.1<=y.2*p.2.1:=by omega
       have h4:(off+(len+m)*p.2.1) / p.2.1<=y.2:=by
        have:=Nat.div_le_div_right (c:=p.2.1) h5
        rwa [Nat.mul_div_cancel _ hes]at this
       rw [Nat.add_mul_div_right _ _ hes]at h4;omega
      rw [yL]at q12;obtain⟨_,h2',n2',l2',e2,q13⟩:=cZ q12;obtain⟨y2,w',k1,k2,k3⟩:=zI (P:=P) R e2 n1;rw [hb']at k1;cases k1
      exact fin (tW (w':=w') A (hl w R) (hf w R) hroom (by simp only [mR,hsz];exact k2)) (Rho.le_refl ρ) k3 (vL (κ:=y.2) hb') q13
     ·obtain⟨hh2,q13⟩:=cC q12;obtain⟨b1,b2⟩:=eW hh2;have b1:=a1j b1;have b2:len*p.2.1=cc.length:=a1j b2;subst b1;simp only [Nat.zero_div,Nat.sub_zero]at fin grw;obtain⟨ov,ol,lg2,q14,k1,k2,k3⟩:=aAF (P:=P) R hb' q13;rw [aBN]at q14;obtain⟨_,h3',n3',l3',e3,q15⟩:=cZ q14;have hR3:=aHJ R e3;have e3':h3'=pu h b none/\n3'=nx:=by
       unfold pDel at e3;rw [hcb]at e3;cases e3;exact⟨rfl,rfl⟩
      obtain⟨rfl,rfl⟩:=e3';by_cases hroom:len+m<=y.2
      ·have hol:ol=cl:=by
        have h6:=k3 w R;have h7:=SX.run_loadCellsFrom (P:=P) (w:=w) (p:=⟨y.1,0,none⟩) cl 0 #[] (fun j v hj=>by
         rw [tN,tJ hw,a0G,a1q,a1q,a0y (a0C.1 hj).1];exact hj)
        rw [hcll,<- b2]at h7;unfold loadCells at h6;rw [h7]at h6;simp only [Result.ok.injEq]at h6;have:=congrArg Array.toList h6.1;simpa using this.symm
       subst hol;obtain⟨_,q16⟩:=cC q15;rw [aAs]at q16;obtain⟨b',h4,n4,l4,e4,q17⟩:=cZ q16;have hn4:=a1m (pH q17) hi;have e4':b'=n3'/\h4=pu (pu h b none) n3' (some (.cells (ov++news) p.1 p.2.1))/\n4=n3'+1:=by
        unfold iS at e4;split at e4
        ·cases e4;rw [jD];exact⟨rfl,rfl,rfl⟩
        ·cases e4
       obtain⟨rfl,rfl,rfl⟩:=e4';have hlen:len*p.2.1+nl.length<=(ol++junk).length:=by
        have h5:(len+m)*p.2.1<=y.2*p.2.1:=a1p _ hroom;rw [a1h]at h5;rw [a0I,hj,hnl,n2];exact h5
       obtain⟨w',s1,s2,s3⟩:=uW (P:=P) nl (ol++junk) w (0+len*p.2.1) 0 (len*p.2.1) hw n1.is hlen (by omega)
       have e5:(ol++junk).take (len*p.2.1)++nl++(ol++junk).drop (len*p.2.1+nl.length)=(ol++nl)++junk.drop nl.length:=by
        have h5:len*p.2.1=ol.length:=by omega
        rw [h5,List.take_left,List.drop_append];congr 1
        rw [List.drop_of_length_le (by omega)];simp
       rw [e5]at s2;have hRa:=adopt R hcb hb' hn4 s2 s3 (k':= .cells (ov++news) p.1 p.2.1) ⟨rfl,rfl,ol++nl,junk.drop nl.length,((k1.app n1).mono (Rho.le_ins (R.fresh _ (a1l _) hn4))),rfl,fun h=>absurd h (by omega),fun _=>by
        rw [a0I]at hlen;simp only [a0I,List.length_drop];omega⟩
       have s1':(storeCells ⟨y.1,0+len*p.2.1,none⟩ nl).run P w= .ok () w':=s1;refine fin (tW (w':=w') A (hl w R) (hf w R) hroom (by simp only [mR,hsz];exact s1')) hRa.1 hRa.2 ?_ q17
       rw [vL Rho.ins_self];simp
      ·exact grw rfl (by omega) k1 k2 (by simp only [Builtin.firstCells,hsz];exact k3 w.drew R.drew) hR3 q15
    ·cases e1
   ·cases g1;exact grw (olds:=[]) (oldsV:=[]) rfl (by omega) cells.nil (by simp) (by simp [Builtin.firstCells,Sem.run,Pure.pure]) R (by
     rw [jD,a0Z,a1q];exact q6)
   ·cases q6
 ·cases q1
theorem s_clear {c:Call} (ho:o.op= .call c) (hc:c.callee= .builtin .clear) (he:bN ρ e n a.tmps) (R:Rel g ρ h nx w) (q:run (wQ c P ex e kv kp kd) h nx lg=some r):OkV P o a w g ρ r kv:=by
 obtain⟨vs,h1,q1⟩:=iO q
 have hvs:=iC he h1
 split at q1
 ·rename_i T ts v us hT;obtain⟨x,xs,g1,g2,g3⟩:=dR.1 hvs;have hargs:=sR g3;have t0:c.argTypes[0]? =some T:=by rw [<- a0d,hT];rfl
  obtain⟨p,hp,q2⟩:=bI q1;obtain⟨i,zv,RT⟩:=zM ρ hp;have hU:=SX.run_underlying RT.und w;have fin:∀ {h' nx' lg' w'},(Builtin.clear_ c.argTypes o.type (x :: xs).toArray).run P w= .ok (.tuple #[]) w'->Rel g ρ h' nx' w'->run (kv dY) h' nx' lg'=some r->OkV P o a w g ρ r kv:=
   fun {h' nx' lg' w'} hr k2 k4=>⟨dY, .tuple #[],ρ,h',nx',lg',w', .inl (pZ ho hc fun _=>by rw [hargs];simp only [builtin];rw [a1B,hr];rfl),Rho.le_refl ρ,k2,rfl,k4⟩
  have main:∀ {b off len cap:Nat} {y:Nat × Nat},ρ b=some y->x= .slice (some ⟨y.1,off,none⟩) len cap->run (ife (Nat.beq len 0) (kv dY) (.wr b off (rep p.2.2 len) (kv dY))) h nx lg=some r->OkV P o a w g ρ r kv:=by
   intro b off len cap y hb hx q3;subst hx;rcases gT q3 with⟨h0,q4⟩ | ⟨h0,q4⟩
   ·have:=a1j h0;subst this;exact fin (by simp [Builtin.clear_,t0,a1B,hU,Sem.run,Pure.pure]) R q4
   ·obtain⟨k,rfl⟩:∃ k,len=k+1:=⟨len - 1,by cases len with | zero=>simp at h0 | succ k=>rfl⟩
    rw [yL]at q4;obtain⟨_,h',n',l',e1,q5⟩:=cZ q4;have hz:=aAP (ρ:=ρ) RT.zc (k+1);obtain⟨y2,w',k1,k2,k3⟩:=zI (P:=P) R e1 hz;rw [hb]at k1;cases k1
    have hzz:(madeCells zv.cells ((k+1)*p.2.2.length)).toList=(Builtin.zeroCells zv.cells (k+1)).toList:=by
     have:p.2.2.length=zv.cells.size:=by have:=RT.zc.len;rw [<- a0e];omega
     rw [this];rfl
    rw [hzz]at k2;have hzr:(zeroValue p.1).run P w= .ok zv w:=by simp [zeroValue,typeInfo,RT.info,RT.zero,program,a1B,Sem.run,Pure.pure]
    exact fin (by simp [Builtin.clear_,t0,a1B,hU,hzr,k2,Sem.run,Pure.pure]) k3 q5
  rcases oK q2 with⟨b,off,len,cap,rfl,q3⟩ | ⟨b,off,len,es0,rfl,q3⟩ | ⟨rfl,q3⟩ | q3
  ·obtain⟨y,hb,hx⟩:=kK g1;exact main hb hx q3
  ·obtain⟨y,hb,hx⟩:=kS g1;exact main hb hx q3
  ·cases g1;exact fin (by simp [Builtin.clear_,t0,a1B,hU,Sem.run,Pure.pure]) R q3
  ·cases q3
 ·cases q1
end
end
open RowKit (Below)
noncomputable section
section
variable {P:Program} {o:Oper} {a:Act} {w:World} {g:G} {ρ:Rho} {r:O × S} {kv:KV} {kp:List PE->AI} {kd:Df->AI} {e:Tr V} {n:Nat} {h:Tr Blk} {nx:Nat} {lg:List Fp} {ex:Ex}
theorem aCu {t u:Nat} (hq:pI P t=some u):P.underlying t=some (.pointer u):=by
 unfold pI at hq
 grind [dD]
theorem aDx {t:Nat} (hq:isUns P t=true):P.underlying t=some .unsafePointer:=by
 unfold isUns at hq
 grind [dD]
theorem aHM {v:V} {f:Nat->Nat->AI} {d:AI} (q:run (asPtrD v f d) h nx lg=some r):(∃ b off,v= .ptr b off/\run (f b off) h nx lg=some r)\/run d h nx lg=some r:=by
 cases v <;> first
  | exact .inl ⟨_,_,rfl,q⟩
  | exact .inr q
theorem aBR {b:Nat} {k:Nat->Nat->Nat->AI} (q:run (.sz b k) h nx lg=some r):∃ c t op lg',at_ h b=some (.cells c t op)/\run (k c.length t op) h nx lg'=some r:=by
 rw [yW]at q
 obtain⟨x,h',n1,l,e1,q2⟩:=cZ q
 unfold pSz at e1
 grind
theorem s_conv {s t:Nat} {x:Operand} (ho:o.op= .convert s t x) (he:bN ρ e n a.tmps) (R:Rel g ρ h nx w) (q:run (xZ s t x P ex e kv kp kd) h nx lg=some r):OkV P o a w g ρ r kv:=by
 obtain⟨v,h1,q1⟩:=fH q
 have hv:=cJ he h1
 rcases aHM q1 with⟨b,off,rfl,q2⟩ | q2
 ·obtain⟨y,hb,hx⟩:=jH hv;have key:∀ {lg'},(convert s t (.pointer (some ⟨y.1,off,none⟩))).run P w= .ok (.pointer (some ⟨y.1,off,none⟩)) w->run (kv (.ptr b off)) h nx lg'=some r->OkV P o a w g ρ r kv:=
   fun hr q=> .pure (x:= .pointer (some ⟨y.1,off,none⟩)) R (by simp_all [execOp]) (by simp [tv,hb]) q
  rcases iU q2 with⟨hn,q3⟩ | ⟨el,hel,q3⟩
  ·obtain⟨u,hu,q4⟩:=bI (o:=pI P t) q3;obtain⟨h5,q5⟩:=cC q4;obtain⟨z,hz,q6⟩:=bI (o:=szT P u) q5;obtain⟨c,ty,op,lg',hb',q7⟩:=aBR q6;obtain⟨h7,q8⟩:=cC q7;obtain⟨h8,h9⟩:=eW h7;obtain⟨y',l,junk,hy,hw,hc,j0,_⟩:=R.row hb';rw [hb]at hy;cases hy
   have hj:=j0 (a1j h8);subst hj;obtain⟨i,hi,_⟩:=lT hz;have hsh:w.shape? y.1=some (ty,c.length):=by simp [World.shape?,hw,hc.len]
   exact key (Lib.run_from_unsafe w ⟨y.1,off,none⟩ (aDx h5) (aCu hu) hi hsh h9) q8
  ·obtain⟨h4,q4⟩:=cC q3;obtain⟨z,hz,q5⟩:=bI (o:=szT P el) q4;obtain⟨h6,q6⟩:=cC q5;obtain⟨c,ty,op,lg',hb',q7⟩:=aBR q6;obtain⟨h7,q8⟩:=cC q7;obtain⟨y',l,junk,hy,hw,hc,_,_⟩:=R.row hb';rw [hb]at hy;cases hy
   obtain⟨i,hi,hiz⟩:=lT hz;rw [a1i]at h6 h7;have hl:=hc.len;have hsh:w.shape? y.1=some (ty,(l++junk).length):=by simp [World.shape?,hw]
   exact key (Lib.run_to_unsafe w ⟨y.1,off,none⟩ (aCu hel) (aDx h4) hi (by omega) hsh (by simp;omega)) q8
 ·obtain⟨u,y,g1,g2,q3⟩:=aFx (w:=w) hv q2;exact .pure R (by simp_all [execOp]) g2 q3
theorem s_slD {c:Call} (ho:o.op= .call c) (hc:c.callee= .builtin .unsafeSliceData) (he:bN ρ e n a.tmps) (R:Rel g ρ h nx w) (q:run (hSlD c P ex e kv kp kd) h nx lg=some r):OkV P o a w g ρ r kv:=by
 obtain⟨vs,h1,q1⟩:=iO q
 have hvs:=iC he h1
 split at q1
 ·rename_i v;obtain⟨x,xr,g1,g2,g3⟩:=dR.1 hvs;rw [lC]at g2;subst g2
  have hargs:=sR g3;have fin:∀ {u:V} {X:Value} {lg'},(Builtin.unsafeSliceData_ c.argTypes o.type #[x]).run P w= .ok X w->tv ρ u=some X->run (kv u) h nx lg'=some r->OkV P o a w g ρ r kv:=
   fun {u X lg'} hr k3 k4=>⟨u,X,ρ,h,nx,lg',w, .inl (pZ ho hc fun _=>by rw [hargs];simp only [builtin];rw [a1B,hr];rfl),Rho.le_refl ρ,R,k3,k4⟩
  rcases oK q1 with⟨b,off,len,cap,rfl,q2⟩ | ⟨b,off,len,es,rfl,q2⟩ | ⟨rfl,q2⟩ | q2
  ·obtain⟨h3,q3⟩:=cC q2;rw [a1i]at h3;obtain⟨y,hb,rfl⟩:=kK g1;exact fin (Lib.run_unsafeSliceData_row w _ _ _ _ _ (by omega)) (by simp [tv,hb]) q3
  ·obtain⟨h3,q3⟩:=cC q2;rw [a1i]at h3;obtain⟨y,hb,rfl⟩:=kS g1;obtain⟨_,_,⟨y',hb',_,hcap⟩,lg',q4⟩:=aCf R q3;rw [hb]at hb';cases hb'
   exact fin (Lib.run_unsafeSliceData_row w _ _ _ _ _ (by omega)) (by simp [tv,hb]) q4
  ·cases g1;exact fin (Lib.run_unsafeSliceData_nil w _ _ _ _) rfl q2
  ·cases q2
 ·cases q1
theorem aFs:∀ {c:List V} {l:List Value} {s:List UInt8},yJ c=some s->cells ρ c l->s.length=c.length/\∀ (j:Nat) (x:UInt8),s[j]? =some x->l[j]? =some (Value.int .u8 x.toNat)
 | [],l,s,q,hc=>by cases q;exact⟨rfl,fun j x h=>by simp at h⟩
 | v :: c,l,s,q,hc=>by
  obtain⟨x,y,h1,h2,rfl⟩:=dR.1 hc.2;obtain⟨h3,h4⟩:=oQ.1 hc.1;unfold yJ at q;split at q
  ·rename_i hh;cases hh
  ·rename_i k c' hh;cases hh;split at q
   ·rename_i hb;split at q
    ·rename_i s' hs;cases q;cases h1;obtain⟨i1,i2⟩:=aFs hs ⟨h4,h2⟩;refine⟨by simp [i1],fun j x hx=>?_⟩
     rw [a1i]at hb;cases j with
     | zero=>
      simp only [a0A,a1z]at hx ⊢;subst hx;have:k.toUInt8.toNat=k:=by simp [Nat.toUInt8];omega
      rw [this];rfl
     | succ j=>simp only [a0z]at hx ⊢;exact i2 j x hx
    ·cases q
   ·cases q
  ·cases q
theorem Rel.drop {b:Nat} {k:Blk} {x:Nat × Nat} {w':World} (R:Rel g ρ h nx w) (hb:at_ h b=some k) (hx:ρ b=some x) (hs:Same w w' x.1):Rel g ρ (pu h b none) nx w':=by
 have key:∀ {c:Nat} {q:Blk},at_ (pu h b none) c=some q->c≠b/\at_ h c=some q:=by grind [fG]
 refine⟨fun c q hc=>?_,fun c c' y y' h1 h2=>?_,R.new,⟨hs.os.trans R.below.os,hs.tape.trans R.below.tape,hs.output.trans R.below.output,by rw [hs.size];exact R.below.size,fun c hc=>?_⟩,R.lo,R.fresh,R.le,R.out⟩
 ·obtain⟨g1,g2⟩:=key hc;obtain⟨y,o2,k1,k2,k3⟩:=R.blk c q g2;refine⟨y,o2,k1,?_,k3⟩;rw [hs.other y.1 fun e=>g1 (R.inj c b y x (by rw [g2];simp) (by rw [hb];simp) k1 hx e)];exact k2
 ·obtain⟨q,hq⟩:=a1x.1 h1;obtain⟨q',hq'⟩:=a1x.1 h2;exact R.inj c c' y y' (by rw [(key hq).2];simp) (by rw [(key hq').2];simp)
 ·have:=R.new b x hx;rw [hs.other c (by omega)];exact R.below.block c hc
theorem aHG (w:World) (b off m:Nat):Same w (w.freeze ⟨b,off,none⟩ m) b:=by
 unfold World.freeze
 split
 ·exact⟨fun _ _=>rfl,rfl,rfl,rfl,rfl⟩
 ·exact⟨fun c hc=>by grind,by simp,rfl,rfl,rfl⟩
theorem s_uStr {c:Call} (ho:o.op= .call c) (hc:c.callee= .builtin .unsafeString) (he:bN ρ e n a.tmps) (R:Rel g ρ h nx w) (q:run (vI c P ex e kv kp kd) h nx lg=some r):OkV P o a w g ρ r kv:=by
 obtain⟨vs,h1,q1⟩:=iO q
 have hvs:=iC he h1
 split at q1
 ·rename_i T I p m hT;obtain⟨x,xr,g1,g2,g3⟩:=dR.1 hvs;obtain⟨x2,xr2,g4,g5,rfl⟩:=dR.1 g2;rw [lC]at g5;subst g5
  cases g4;have hargs:=sR g3;obtain⟨b,off,rfl,q2⟩:=sC q1;obtain⟨u,hu,q3⟩:=bI (o:=pI P T) q2;obtain⟨es,hes,q4⟩:=bI (o:=szT P u) q3;obtain⟨cs,ty,op,lg1,hb',q5⟩:=aBR q4;obtain⟨h6,q6⟩:=cC q5;obtain⟨a1,h6⟩:=eW h6;obtain⟨a2,h6⟩:=eW h6;obtain⟨a3,h6⟩:=eW h6;obtain⟨a4,a5⟩:=eW h6;have a1:=a1j a1;have a2:=a1j a2;have a3:=a1j a3;rw [a1i]at a4;have a5:m<=1048576:=a1k a5;subst a1 a2 a3;obtain⟨y,l,junk,hy,hw,hcl,_,_⟩:=R.row hb';obtain⟨y2,hb2,rfl⟩:=jH g1;rw [hy]at hb2;cases hb2
  rw [zO]at q6;obtain⟨vs,h2,n2,lgm,e1,q7⟩:=cZ q6;obtain⟨s,hs,q8⟩:=bI (o:=yJ vs) q7;unfold pRd at e1;rw [hb']at e1;simp only at e1
  split at e1
  ·rename_i l' htk;rw [a1H a4]at e1;cases e1;rw [xW,sU]at htk;obtain⟨h3,rfl⟩:=htk;rw [List.drop_zero]at h3 hs;obtain⟨s1,s2⟩:=aFs hs (hcl.take m);have hlen:s.length=m:=by grind
   subst hlen;rw [aBN]at q8;obtain⟨_,h4,n4,lg4,e2,q9⟩:=cZ q8;unfold pDel at e2;rw [hb']at e2;cases e2;obtain⟨i,hi,hi1⟩:=lT hes;have hcof:P.cellsOf ty=1:=by simp [Program.cellsOf,hi,hi1]
   have hl:=hcl.len;have hne:s≠[]:=by grind
   have hsh:w.shape? y.1=some (ty,(l++junk).length):=by simp [World.shape?,hw]
   have hr:=Lib.run_unsafeString_row (P:=P) w T I o.type ty (aCu hu) hcof y.1 _ hsh s hne (by simp;omega) (by omega) (fun j x hx=>by
    rw [tN,tJ hw,a1q,a0G]
    grind)
   have hty:c.argTypes=#[T,I]:=by grind
   exact⟨_, .string ⟨s.toArray⟩,ρ,_,_,_,_, .inl (pZ ho hc fun _=>by rw [hargs,hty];simp only [builtin];rw [a1B];show Result.andThen (Sem.run P (Builtin.unsafeString_ #[T,I] o.type #[.pointer (some ⟨y.1,0,none⟩), .int .i64 (s.length:Int)]) w) _=_;rw [hr];rfl),Rho.le_refl ρ,R.drop hb' hy (aHG w y.1 0 _),rfl,q9⟩
  ·cases e1
 ·cases q1
theorem aDn {f:Nat} {fn:Func} (hf:fnAt P f=some fn):P.funcs[f]? =some fn:=by
 have e:at_ (sO P.funcs.toList 0 .leaf fun t=>t) f=some fn:=hf
 grind [xE,aBg]
theorem lookN:(Extern.allNextRows.lookup "internal/abi.NoEscape").isNone=true/\(Extern.allNextRows.lookup "").isNone=true:=⟨by kernel_rfl,by kernel_rfl⟩
theorem lookG:(Extern.allGenericRows.lookup "internal/abi.NoEscape").isNone=true/\(Extern.allTypedRows.lookup "internal/abi.NoEscape").isNone=true:=⟨by kernel_rfl,by kernel_rfl⟩
theorem lookA:Extern.allRows.lookup "internal/abi.NoEscape" =some Extern.AbiNoEscape.same:=by kernel_rfl
theorem ext_run {f:Nat} {x:Value} (hq:extN P f=true):(callFunc f #[x]).run P w= .ok (.value x) w:=by
 unfold extN at hq
 split at hq
 ·cases hq
 ·rename_i fn hf;split at hq
  ·rename_i hbody;obtain⟨h1,h2⟩:=eW hq;have hn:fn.name= "internal/abi.NoEscape" :=eq_of_beq h1;have ho:fn.origin= "" :=eq_of_beq h2;have e1:Extern.findNext fn=none:=by
    unfold Extern.findNext;simp only [hn,ho,a1u.1 lookN.1,a1u.1 lookN.2];rfl
   have e2:Extern.find fn=some Extern.AbiNoEscape.same:=by
    unfold Extern.find;simp only [hn,a1u.1 lookG.1,a1u.1 lookG.2,lookA];rfl
   rw [run_callFunc_extern (aDn hf) (by rw [hn];decide) (by rw [hbody];rfl) e1 e2];rfl
  ·cases hq
end
end
open RowKit (Below)
noncomputable section
def peR (ρ:Rho) (p:PE) (q:PanicEntry):Prop:=tv ρ p.v=some q.v/\q.recovered=p.r/\q.goexit=false
def gG (ρ:Rho):List PE->List PanicEntry->Prop
 | [],[]=>True
 | p :: ps,q :: qs=>peR ρ p q/\gG ρ ps qs
 | _,_=>False
def dfR (ρ:Rho):Df->Deferred->Prop
 | .fn f args cap,d=>∃ xs ys,tvs ρ args=some xs/\tvs ρ cap=some ys/\d={ target:= .fn (.func f) ⟨ys⟩,args:=⟨xs⟩ }
 | .col r,d=>∃ x,ρ r=some x/\d={ target:= .collected x.1,args:=#[] }
def kD (ρ:Rho):List Df->List Deferred->Prop
 | [],[]=>True
 | p :: ps,q :: qs=>dfR ρ p q/\kD ρ ps qs
 | _,_=>False
def xR (ρ:Rho):X->Exit->Prop
 | .normal, .normal=>True
 | .exit i, .exit j=>i=j
 | .ret, .ret=>True
 | .panic ch, .panic ch'=>gG ρ ch ch'
 | _,_=>False
structure AcR (ρ:Rho) (c:Ac) (a:Act):Prop where
 env:bN ρ c.e c.n a.tmps
 ds:kD ρ c.ds a.defers
def roR (ρ:Rho):Option Nat->Option Nat->Prop
 | none,none=>True
 | some l,some l'=>∃ x,ρ l=some x/\l'=x.1
 | _,_=>False
theorem gG.mono {ρ ρ':Rho} (h:ρ.le ρ'):∀ {p:List PE} {q:List PanicEntry},gG ρ p q->gG ρ' p q
 | [],[],_=>trivial
 | _ :: _,_ :: _,r=>⟨⟨lP h _ r.1.1,r.1.2⟩,gG.mono h r.2⟩
 | [],_ :: _,r=>r.elim
 | _ :: _,[],r=>r.elim
theorem dfR.mono {ρ ρ':Rho} (h:ρ.le ρ') {p:Df} {q:Deferred} (r:dfR ρ p q):dfR ρ' p q:=by
 cases p with
 | fn f a c=>grind [qE,dfR]
 | col l=>obtain⟨x,h1,h2⟩:=r;exact⟨x,h _ _ h1,h2⟩
theorem kD.mono {ρ ρ':Rho} (h:ρ.le ρ'):∀ {p:List Df} {q:List Deferred},kD ρ p q->kD ρ' p q
 | [],[],_=>trivial
 | _ :: _,_ :: _,r=>⟨r.1.mono h,kD.mono h r.2⟩
 | [],_ :: _,r=>r.elim
 | _ :: _,[],r=>r.elim
theorem AcR.mono {ρ ρ':Rho} (h:ρ.le ρ') {c:Ac} {a:Act} (r:AcR ρ c a):AcR ρ' c a:=⟨r.env.mono h,r.ds.mono h⟩
theorem roR.mono {ρ ρ':Rho} (h:ρ.le ρ') {x y:Option Nat} (r:roR ρ x y):roR ρ' x y:=by
 cases x <;> cases y <;> first
  | exact r
  | (obtain⟨z,h1,h2⟩:=r;exact⟨z,h _ _ h1,h2⟩)
def KQ (g:G) (ρ:Rho) (ro:Option Nat) (k:KX) (r:O × S):Exit->Act->World->Prop:=fun ex a w=>
 ∃ x ac ρ' h nx lg,ρ.le ρ'/\xR ρ' x ex/\AcR ρ' ac a/\ac.ro=ro/\Rel g ρ' h nx w/\run (k x ac) h nx lg=some r
def CR (g:G) (ρ:Rho) (k:O->AI) (r:O × S):Ending->World->Prop
 | .returned v,w=>∃ u ρ' h nx lg,ρ.le ρ'/\Rel g ρ' h nx w/\tv ρ' u=some v/\run (k (.val u)) h nx lg=some r
 | .panicked ch',w=>∃ ch ρ' h nx lg,ρ.le ρ'/\Rel g ρ' h nx w/\gG ρ' ch ch'/\run (k (.panic ch)) h nx lg=some r
 | .outgrown,_=>False
def SimC (P:Program) (ex:Ex):Prop:=∀ (c:Code) (g:G) (ρ:Rho) (ac:Ac) (a:Act) (h:Tr Blk) (nx:Nat) (lg:List Fp) (w:World) (k:KX) (r:O × S) (rr:Option Nat),
 AcR ρ ac a->Rel g ρ h nx w->r.2.nx<=g.hi->roR ρ ac.ro rr->run (ex c ac k) h nx lg=some r->c.wpIn (SX.fw rr) 0 P (KQ g ρ ac.ro k r) a w
def SimA (P:Program) (ex:Ex):Prop:=∀ (f:Nat) (args:List V) (xs:List Value) (g:G) (ρ:Rho) (h:Tr Blk) (nx:Nat) (lg:List Fp) (w:World) (k:O->AI) (r:O × S),
 tvs ρ args=some xs->Rel g ρ h nx w->r.2.nx<=g.hi->run (sV P ex f args k) h nx lg=some r->SX.Af P f/\CallsIn (SX.fw none) 0 P f ⟨xs⟩ w (CR g ρ k r)
def SimY (P:Program) (ex:Ex):Prop:=∀ (l:Nat) (args:List V) (xs:List Value) (g:G) (ρ:Rho) (h:Tr Blk) (nx:Nat) (lg:List Fp) (w:World) (k:O->AI) (r:O × S),
 tvs ρ args=some xs->Rel g ρ h nx w->r.2.nx<=g.hi->run (aA9 ex l args k) h nx lg=some r->∃ x f tmps sg bd,ρ l=some x/\(Instr.yield x.1 ⟨xs⟩).run P w= .ok (.round x.1 f tmps sg bd) w/\RoundIn (SX.fw none) 0 P x.1 f tmps sg bd w (CR g ρ k r)
theorem aCI {P:Program} {f:FuncId} {args:Array Value} {w:World} {R:Ending->World->Prop} {rr:Option Nat} (h:CallsIn (SX.fw none) 0 P f args w R):CallsIn (SX.fw rr) 0 P f args w R:=h
theorem aHb {P:Program} {l f:Nat} {t:Array Value} {sg bd:Code} {w:World} {R:Ending->World->Prop} {rr:Option Nat} (h:RoundIn (SX.fw none) 0 P l f t sg bd w R):RoundIn (SX.fw rr) 0 P l f t sg bd w R:=h
section
variable {P:Program} {o:Oper} {a:Act} {w:World} {g:G} {ρ:Rho} {r:O × S} {kv:KV} {kp:List PE->AI} {kd:Df->AI} {e:Tr V} {n:Nat} {h:Tr Blk} {nx:Nat} {lg:List Fp} {ex:Ex} {rr:Option Nat} {N:Act->World->Prop} {Q:Exit->Act->World->Prop}
theorem zA (hnd:∀ c,o.op≠ .defer c) (rr:Option Nat):o.semAt rr a.eval=execOp a.eval o:=Oper.semAt_eq _ _ _ hnd
theorem wp_ok (hnd:∀ c,o.op≠ .defer c) (hk:OkV P o a w g ρ r kv) (hv:∀ v x ρ' h' nx' lg' w',ρ.le ρ'->Rel g ρ' h' nx' w'->tv ρ' v=some x->run (kv v) h' nx' lg'=some r->N (a.put o.dst x) w'):o.wpIn (SX.fw rr) 0 P a w N Q:=by
 obtain⟨v,x,ρ',h',nx',lg',w',h1,h2,h3,h4,h5⟩:=hk
 refine⟨fun _ _=>a1I,?_⟩
 rw [zA hnd]
 grind [Oper.uponIn_value,Oper.uponIn_skip]
theorem meth_run {t f:Nat} {name:String} (z:Value) (hm:zS P t name=some f) (k:Nat):(method (k+1) t z name).run P w= .ok (f,z) w:=by
 unfold zS at hm
 split at hm
 ·rename_i i hi;have hi':=pS hi;split at hm
  ·rename_i m hmm;split at hm
   ·rename_i hpath;split at hm
    ·rename_i f' p hfunc;split at hm
     ·rename_i el hu;split at hm
      ·cases hm;simp [method,a1B,SX.run_typeInfo hi',hmm,hpath,follow,hfunc,receiverAt,SX.run_underlying (dD hu),Place.get,Sem.run,Pure.pure]
      ·cases hm
     ·rename_i d hne hu;split at hm
      ·cases hm
      ·cases hm;cases d <;> first
        | exact(hne _ rfl).elim
        | simp [method,a1B,SX.run_typeInfo hi',hmm,hpath,follow,hfunc,receiverAt,SX.run_underlying (dD hu),Place.get,Sem.run,Pure.pure]
     ·cases hm
    ·cases hm
   ·cases hm
  ·cases hm
 ·cases hm
theorem op_sim (SA:SimA P ex) (SY:SimY P ex) (he:bN ρ e n a.tmps) (R:Rel g ρ h nx w) (hi:r.2.nx<=g.hi) (q:run (opH o.op P ex e kv kp kd) h nx lg=some r)
 (hv:∀ v x ρ' h' nx' lg' w',ρ.le ρ'->Rel g ρ' h' nx' w'->tv ρ' v=some x->run (kv v) h' nx' lg'=some r->N (a.put o.dst x) w')
 (hp:∀ ch ch' ρ' h' nx' lg' w',ρ.le ρ'->Rel g ρ' h' nx' w'->gG ρ' ch ch'->run (kp ch) h' nx' lg'=some r->Q (.panic ch') a w')
 (hd:∀ d d' lg',dfR ρ d d'->run (kd d) h nx lg'=some r->rr=none/\N ({ a with defers:=d' :: a.defers }.put o.dst undef) w):o.wpIn (SX.fw rr) 0 P a w N Q:=by
 have ok:(∀ c,o.op≠ .defer c)->OkV P o a w g ρ r kv->o.wpIn (SX.fw rr) 0 P a w N Q:=fun hnd hk=>wp_ok hnd hk hv
 have call:∀ {f:Nat} {args:List V} {xs:List Value},(∀ c,o.op≠ .defer c)->(execOp a.eval o).run P w= .ok (.enter f ⟨xs⟩) w->CallsIn (SX.fw none) 0 P f ⟨xs⟩ w (CR g ρ (fun o=>oOut o kv kp) r)->o.wpIn (SX.fw rr) 0 P a w N Q:=by
  intro f args xs hnd hr hc;refine⟨fun _ _=>a1I,?_⟩
  rw [zA hnd,hr,Oper.uponIn_enter];refine⟨(fun h=>by cases h),CallsIn.mono (aCI hc) fun e' w' he'=>?_⟩
  cases e' with
  | returned v=>obtain⟨u,ρ',h',nx',lg',k1,k2,k3,k4⟩:=he';exact hv u v ρ' h' nx' lg' w' k1 k2 k3 k4
  | panicked ch'=>obtain⟨ch,ρ',h',nx',lg',k1,k2,k3,k4⟩:=he';exact hp ch ch' ρ' h' nx' lg' w' k1 k2 k3 k4
  | outgrown=>exact he'.elim
 have nd:∀ {x:Op},o.op=x->(∀ c,x≠ .defer c)->∀ c,o.op≠ .defer c:=by grind
 cases ho:o.op with
 | move x=>rw [ho]at q;exact ok (nd ho (by intro c h;cases h)) (s_move (ex:=ex) (kp:=kp) (kd:=kd) (.inl ho) he R q)
 | assign x=>rw [ho]at q;exact ok (nd ho (by intro c h;cases h)) (s_move (ex:=ex) (kp:=kp) (kd:=kd) (.inr ho) he R q)
 | pick _ _ _=>rw [ho]at q;exact ok (nd ho (by intro c h;cases h)) (s_pick (ex:=ex) (kp:=kp) (kd:=kd) ho he R q)
 | alloc _=>rw [ho]at q;exact ok (nd ho (by intro c h;cases h)) (s_alloc (e:=e) (ex:=ex) (kp:=kp) (kd:=kd) ho hi R q)
 | box _ _=>rw [ho]at q;exact ok (nd ho (by intro c h;cases h)) (s_box (ex:=ex) (kp:=kp) (kd:=kd) ho he hi R q)
 | build _ _=>rw [ho]at q;exact ok (nd ho (by intro c h;cases h)) (s_build (ex:=ex) (kp:=kp) (kd:=kd) ho he R q)
 | buildSlice _ _ _=>rw [ho]at q;exact ok (nd ho (by intro c h;cases h)) (s_buildS (ex:=ex) (kp:=kp) (kd:=kd) ho he hi R q)
 | insert _ _ _ _=>rw [ho]at q;exact ok (nd ho (by intro c h;cases h)) (s_upd (ex:=ex) (kp:=kp) (kd:=kd) (.inr ho) he R q)
 | load _ _=>rw [ho]at q;exact ok (nd ho (by intro c h;cases h)) (s_load (ex:=ex) (kp:=kp) (kd:=kd) ho he R q)
 | store _ _ _=>rw [ho]at q;exact ok (nd ho (by intro c h;cases h)) (s_store (ex:=ex) (kp:=kp) (kd:=kd) ho he R q)
 | ready _=>rw [ho]at q;cases q
 | waits _=>rw [ho]at q;cases q
 | nilCheck _=>rw [ho]at q;exact ok (nd ho (by intro c h;cases h)) (s_nil (ex:=ex) (kp:=kp) (kd:=kd) ho he R q)
 | binOp _ _ _ _ _=>rw [ho]at q;exact ok (nd ho (by intro c h;cases h)) (s_bin (ex:=ex) (kp:=kp) (kd:=kd) ho he R q)
 | unOp _ _ _=>rw [ho]at q;exact ok (nd ho (by intro c h;cases h)) (s_un (ex:=ex) (kp:=kp) (kd:=kd) ho he R q)
 | convert _ _ _=>rw [ho]at q;exact ok (nd ho (by intro c h;cases h)) (s_conv (ex:=ex) (kp:=kp) (kd:=kd) ho he R q)
 | sliceToArrayPointer _ _=>rw [ho]at q;cases q
 | makeInterface _ _=>rw [ho]at q;exact ok (nd ho (by intro c h;cases h)) (s_mkI (ex:=ex) (kp:=kp) (kd:=kd) ho he R q)
 | makeFunc _ _ _=>rw [ho]at q;exact ok (nd ho (by intro c h;cases h)) (s_mkF (ex:=ex) (kp:=kp) (kd:=kd) ho he R q)
 | makeMap _ _=>rw [ho]at q;exact ok (nd ho (by intro c h;cases h)) (s_mapN (e:=e) (ex:=ex) (kp:=kp) (kd:=kd) ho hi R q)
 | makeChan _ _=>rw [ho]at q;cases q
 | makeSlice _ _ _=>rw [ho]at q;exact ok (nd ho (by intro c h;cases h)) (s_mks (ex:=ex) (kp:=kp) (kd:=kd) ho he hi R q)
 | slice _ _ _ _ _=>rw [ho]at q;exact ok (nd ho (by intro c h;cases h)) (s_slice (ex:=ex) (kp:=kp) (kd:=kd) ho he R q)
 | fieldAddr _ _ _=>rw [ho]at q;exact ok (nd ho (by intro c h;cases h)) (s_fieldA (ex:=ex) (kp:=kp) (kd:=kd) ho he R q)
 | field _ _ _=>rw [ho]at q;exact ok (nd ho (by intro c h;cases h)) (s_field (ex:=ex) (kp:=kp) (kd:=kd) ho he R q)
 | indexAddr _ _ _=>rw [ho]at q;exact ok (nd ho (by intro c h;cases h)) (s_idxA (ex:=ex) (kp:=kp) (kd:=kd) ho he R q)
 | index _ _ _=>rw [ho]at q;exact ok (nd ho (by intro c h;cases h)) (s_idx (ex:=ex) (kp:=kp) (kd:=kd) ho he R q)
 | lookup _ _ _ _=>rw [ho]at q;exact ok (nd ho (by intro c h;cases h)) (s_look (ex:=ex) (kp:=kp) (kd:=kd) ho he R q)
 | mapUpdate _ _ _ _=>rw [ho]at q;exact ok (nd ho (by intro c h;cases h)) (s_upd (ex:=ex) (kp:=kp) (kd:=kd) (.inl ho) he R q)
 | mapEntry _ _ _=>rw [ho]at q;cases q
 | entryStore _ _ _ _=>rw [ho]at q;cases q
 | range _ _=>rw [ho]at q;cases q
 | next _ _=>rw [ho]at q;cases q
 | entry _=>rw [ho]at q;cases q
 | typeAssert _ _ _ _=>rw [ho]at q;exact ok (nd ho (by intro c h;cases h)) (s_ta (ex:=ex) (kp:=kp) (kd:=kd) ho he R q)
 | extract _ _=>rw [ho]at q;exact ok (nd ho (by intro c h;cases h)) (s_ext (ex:=ex) (kp:=kp) (kd:=kd) ho he R q)
 | call c=>
  rw [ho]at q;have hnd:∀ c',o.op≠ .defer c':=nd ho (by intro c h;cases h)
  have q0:run (hCal c.callee c P ex e kv kp kd) h nx lg=some r:=q;cases hc:c.callee with
  | builtin b=>
   rw [hc]at q0;cases b with
   | append=>exact ok hnd (s_append (ex:=ex) (kp:=kp) (kd:=kd) ho hc he hi R q0)
   | len=>exact ok hnd (s_len (ex:=ex) (kp:=kp) (kd:=kd) ho hc he R q0)
   | min=>exact ok hnd (s_mm (least:=true) (ex:=ex) (kp:=kp) (kd:=kd) ho hc he R q0)
   | max=>exact ok hnd (s_mm (least:=false) (ex:=ex) (kp:=kp) (kd:=kd) ho hc he R q0)
   | clear=>exact ok hnd (s_clear (ex:=ex) (kp:=kp) (kd:=kd) ho hc he R q0)
   | unsafeSliceData=>exact ok hnd (s_slD (ex:=ex) (kp:=kp) (kd:=kd) ho hc he R q0)
   | unsafeString=>exact ok hnd (s_uStr (ex:=ex) (kp:=kp) (kd:=kd) ho hc he R q0)
   | _=>cases q0
  | value f=>
   rw [hc]at q0;obtain⟨fv,h1,q1⟩:=fH q0;obtain⟨args,h2,q2⟩:=iO q1;have hfv:=cJ he h1;have hargs:=iC he h2;have hres:∀ {t:Target} {az9:Array Value},Deferred.ofValue (a.eval f) (c.args.map a.eval)=Sem.pure { target:=t,args:=az9 }->∀ {y:Result Next},(invoke t az9).run P w=y->(execOp a.eval o).run P w=y:=by
    intro t az9 h3 y h4;have:execOp a.eval o=invoke t az9:=by
     unfold execOp;rw [ho];show((resolve a.eval c o.type).bind fun d=>invoke d.target d.args)=_
     have h5:resolve a.eval c o.type=Sem.pure { target:=t,args:=az9 }:=by
      grind [resolve]
     rw [h5];rfl
    rw [this];exact h4
   rcases aCg q2 with⟨gf,first,cap,rfl,q3⟩ | ⟨l,rfl,q3⟩
   ·simp only [tv]at hfv;cases hf1:tvs ρ first with
    | none=>grind
    | some xs=>
     rw [hf1]at hfv;simp only at hfv
     cases hf2:tvs ρ cap with
     | none=>grind
     | some ys=>
      rw [hf2]at hfv;have hX:a.eval f= .func (.func gf) ⟨xs⟩ ⟨ys⟩:=(a1y hfv).symm;rw [jD,jD]at q3;have hall:tvs ρ (first++(args++cap))=some (xs++(c.args.toList.map a.eval++ys)):=by grind [lS]
      have e1:(⟨xs⟩++c.args.map a.eval++⟨ys⟩:Array Value)=⟨xs++(c.args.toList.map a.eval++ys)⟩:=by apply Array.ext';simp
      rcases iU (o:=bod P gf) q3 with⟨_,q4⟩ | ⟨p,hp,q4⟩
      ·unfold extA at q4;split at q4
       ·rename_i v hl;obtain⟨hx,q5⟩:=cC q4;rw [hl]at hall;obtain⟨z,zs,k1,k2,k3⟩:=dR.1 hall;rw [lC]at k2;subst k2
        refine ok hnd (.pure R (hres (t:= .fn (.func gf) ⟨ys⟩) (az9:=⟨xs⟩++c.args.map a.eval) (by rw [hX];rfl) ?_) k1 q5)
        grind [invoke,ext_run]
       ·cases q4
      ·have q5:run (sV P ex gf (first++(args++cap)) fun o=>oOut o kv kp) h nx lg=some r:=by
        show run (opt (bod P gf) .fail fun q=>callQ P ex q (first++(args++cap)) fun o=>oOut o kv kp) h nx lg=some r
        rw [hp];exact q4
       obtain⟨hcall,hC⟩:=SA gf _ _ g ρ h nx lg w _ r hall R hi q5;refine call (args:=first++(args++cap)) hnd (hres (t:= .fn (.func gf) ⟨ys⟩) (az9:=⟨xs⟩++c.args.map a.eval) (by rw [hX];rfl) ?_) hC
       grind [invoke,SX.run_callFunc]
   ·simp only [tv,a1v]at hfv;obtain⟨x,hx,hX⟩:=hfv;obtain⟨x',f',tmps,sg,bd,k1,k2,k3⟩:=SY l args _ g ρ h nx lg w _ r hargs R hi q3;rw [hx]at k1;cases k1
    refine⟨fun _ _=>a1I,?_⟩
    have e1:(⟨c.args.toList.map a.eval⟩:Array Value)=c.args.map a.eval:=by apply Array.ext';simp
    rw [e1]at k2;rw [zA hnd,hres (t:= .fn (.yield x.1) #[]) (az9:=#[]++c.args.map a.eval) (by rw [<- hX];rfl) (by simp only [invoke,Array.empty_append];exact k2),Oper.uponIn_round];refine⟨(fun h=>by cases h),RoundIn.mono (aHb k3) fun e' w' he'=>?_⟩
    cases e' with
    | returned v=>obtain⟨u,ρ',h',nx',lg',k1,k2,k3,k4⟩:=he';exact hv u v ρ' h' nx' lg' w' k1 k2 k3 k4
    | panicked ch'=>obtain⟨ch,ρ',h',nx',lg',k1,k2,k3,k4⟩:=he';exact hp ch ch' ρ' h' nx' lg' w' k1 k2 k3 k4
    | outgrown=>exact he'.elim
  | invoke x name=>
   rw [hc]at q0;obtain⟨v,h1,q1⟩:=fH q0;obtain⟨args,h2,q2⟩:=iO q1;have hxv:=cJ he h1;have hargs:=iC he h2;rcases aB8 q2 with⟨t,u,rfl,q3⟩ | ⟨_,q3⟩
   ·obtain⟨f,hm,q4⟩:=bI (o:=zS P t name) q3;simp only [tv]at hxv;cases hu:tv ρ u with
    | none=>grind
    | some z=>
     rw [hu]at hxv;have hX:a.eval x= .iface t z:=(a1y hxv).symm;have hall:tvs ρ (u :: args)=some (z :: c.args.toList.map a.eval):=by grind [tvs]
     obtain⟨hcall,hC⟩:=SA f _ _ g ρ h nx lg w _ r hall R hi q4;refine call (args:=u :: args) hnd ?_ hC;have e1:(#[z]++c.args.map a.eval:Array Value)=⟨z :: c.args.toList.map a.eval⟩:=by apply Array.ext';simp
     have e2:execOp a.eval o=invoke (.fn (.method name) #[]) (#[a.eval x]++c.args.map a.eval):=by
      unfold execOp;rw [ho];show((resolve a.eval c o.type).bind fun d=>invoke d.target d.args)=_
      have h5:resolve a.eval c o.type=Sem.pure { target:= .fn (.method name) #[],args:=#[a.eval x]++c.args.map a.eval }:=by
       unfold resolve;rw [hc];rfl
      rw [h5];rfl
     rw [e2,hX];have hmr:(method (P.types.size+Made.depth) t z name).run P w= .ok (f,z) w:=meth_run (w:=w) z hm (P.types.size+99);have h0:(#[Value.iface t z]++c.args.map a.eval)[0]? =some (.iface t z):=by grind
     have h9:(#[Value.iface t z]++c.args.map a.eval).extract 1 (#[Value.iface t z]++c.args.map a.eval).size=c.args.map a.eval:=by
      simp_all
     have hcm:(callMethod (.iface t z) name (c.args.map a.eval)).run P w= .ok (.enter f (#[z]++c.args.map a.eval)) w:=by
      have hprog:(program:Sem Program).run P w= .ok P w:=rfl;unfold callMethod
      simp_all [SX.run_callFunc]
     grind [invoke]
   ·cases q3
 | go _=>rw [ho]at q;cases q
 | defer c=>
  rw [ho]at q;obtain⟨f,hf,q1⟩:=bI (o:=valOf c.callee) q;have hc:c.callee= .value f:=by
   cases hcc:c.callee <;> rw [hcc]at hf <;> cases hf
   rfl
  obtain⟨fv,h1,q2⟩:=fH q1;obtain⟨args,h2,q3⟩:=iO q2;have hfv:=cJ he h1;have hargs:=iC he h2;rcases aCg q3 with⟨gf,first,cap,rfl,q4⟩ | ⟨l,rfl,q4⟩
  ·simp only [tv]at hfv;cases hf1:tvs ρ first with
   | none=>grind
   | some xs=>
    rw [hf1]at hfv;simp only at hfv
    cases hf2:tvs ρ cap with
    | none=>grind
    | some ys=>
     rw [hf2]at hfv;have hX:a.eval f= .func (.func gf) ⟨xs⟩ ⟨ys⟩:=(a1y hfv).symm;rw [jD]at q4;obtain⟨rfl,hN⟩:=hd (.fn gf (first++args) cap) { target:= .fn (.func gf) ⟨ys⟩,args:=⟨xs++c.args.toList.map a.eval⟩ } lg ⟨_,_,(by grind [lS]),hf2,rfl⟩ q4
     refine⟨fun _ _=>a1I,?_⟩
     have e1:(⟨xs⟩++c.args.map a.eval:Array Value)=⟨xs++c.args.toList.map a.eval⟩:=by apply Array.ext';simp
     have e2:execOp a.eval o=Sem.pure (.defer { target:= .fn (.func gf) ⟨ys⟩,args:=⟨xs++c.args.toList.map a.eval⟩ }):=by
      unfold execOp;rw [ho];show((resolve a.eval c o.type).bind fun d=>Sem.pure (Next.defer d))=_
      have h5:resolve a.eval c o.type=Sem.pure { target:= .fn (.func gf) ⟨ys⟩,args:=⟨xs⟩++c.args.map a.eval }:=by
       unfold resolve;rw [hc];show Deferred.ofValue (a.eval f) _=_;rw [hX];rfl
      rw [h5,e1];rfl
     show o.uponIn _ _ _ _ _ _ ((o.semAt none a.eval).run P w)
     rw [Oper.semAt_none,e2];exact hN
  ·cases q4
 | panic x=>
  rw [ho]at q;have hnd:∀ c',o.op≠ .defer c':=nd ho (by intro c h;cases h)
  obtain⟨v,h1,q1⟩:=fH q;have hxv:=cJ he h1;rcases aB8 q1 with⟨t,u,rfl,q3⟩ | ⟨_,q3⟩
  ·have hxv':=hxv;simp only [tv]at hxv;cases hu:tv ρ u with
   | none=>grind
   | some z=>
    rw [hu]at hxv;have hX:a.eval x= .iface t z:=(a1y hxv).symm;refine⟨fun _ _=>a1I,?_⟩
    rw [zA hnd];have hr:(execOp a.eval o).run P w= .halt (.panic (.iface t z)) w:=by simp [execOp,ho,hX,Instr.panic,goPanic,a1B,Sem.run]
    rw [hr,Oper.uponIn_panic];exact hp [⟨.iface t u,false⟩] _ ρ h nx lg w (Rho.le_refl ρ) R ⟨(by grind [peR]),trivial⟩ q3
  ·cases q3
 | send _ _=>rw [ho]at q;cases q
 | recv _ _ _=>rw [ho]at q;cases q
 | select _ _=>rw [ho]at q;cases q
end
end
open RowKit (Below)
noncomputable section
section
variable {P:Program} {a:Act} {w:World} {g:G} {ρ:Rho} {r:O × S} {e:Tr V} {n:Nat} {h:Tr Blk} {nx:Nat} {lg:List Fp} {ex:Ex} {rr:Option Nat}
theorem bod_eq {f:Nat} {q:Func × Code} (hq:bod P f=some q):P.funcs[f]? =some q.1/\q.1.body=some q.2/\SX.Af P f:=by
 unfold bod at hq
 split at hq
 ·cases hq
 ·rename_i fn hf;have hf':=aDn hf;split at hq
  ·cases hq
  ·rename_i c hb;split at hq
   ·cases hq
   ·rename_i hn;cases hq;refine⟨hf',hb,?_⟩;unfold SX.Af SX.callB
    grind
theorem aEj:∀ (l:List V) (i:Nat) (e0:Tr V) {k:Tr V->AI},run (aBz l i e0 k) h nx lg=some r->∃ e1,run (k e1) h nx lg=some r/\∀ t,at_ e1 t=if i<=t/\t<i+l.length then l[t - i]? else at_ e0 t
 | [],i,e0,k,q=>⟨e0,q,(by grind)⟩
 | v :: l,i,e0,k,q=>by
  have q':run (pp e0 (some v) (pa i) fun e=>aBz l (i+1) e k) h nx lg=some r:=q
  rw [lO]at q';obtain⟨e1,q1,h1⟩:=aEj l (i+1) _ q';refine⟨e1,q1,fun t=>?_⟩
  rw [h1 t];by_cases h2:i+1<=t/\t<i+1+l.length
  ·grind
  grind [fG]
theorem aDO {fn:Func} {args:List V} {xs:List Value} {k:Ac->AI} (hx:tvs ρ args=some xs) (q:run (aCh fn args k) h nx lg=some r):
 ∃ ac,run (k ac) h nx lg=some r/\ac.ro=none/\AcR ρ ac { tmps:=(⟨xs⟩:Array Value)++Array.replicate (fn.ntmps - (⟨xs⟩:Array Value).size) undef,defers:=[] }/\ac.n=fn.ntmps:=by
 obtain⟨hb,q1⟩:=cC q
 rw [ln0]at hb
 have hb:args.length<=fn.ntmps:=a1k hb
 obtain⟨e1,q2,h1⟩:=aEj args 0 .leaf q1
 have hl:=sX hx
 refine⟨_,q2,rfl,⟨⟨by simp;omega,fun t v ht=>?_⟩,trivial⟩,rfl⟩
 rw [h1 t]at ht
 split at ht
 ·rw [Nat.sub_zero]at ht
  grind [aAH]
 grind [xE]
theorem res1_run {rv:ResultVar} {t:Array Value} {k:V->AI} (he:bN ρ e n t) (R:Rel g ρ h nx w) (q:run (res1 P e rv k) h nx lg=some r):
 ∃ v x lg',(match rv with
  | .tmp i=>(Pure.pure (t.getD i undef):Sem Value)
  | .cell i T=>do loadVar T (<- Go.asAddr (t.getD i undef))).run P w= .ok x w/\tv ρ v=some x/\run (k v) h nx lg'=some r:=by
 cases rv with
 | tmp i=>
  obtain⟨v,hv,q1⟩:=bI (o:=gp e (pa i)) q;obtain⟨x,h1,h2⟩:=he.get i v hv;exact⟨v,x,lg,by simp_all,h2,q1⟩
 | cell i T=>
  obtain⟨v,hv,q1⟩:=bI (o:=gp e (pa i)) q;obtain⟨s,hs,q2⟩:=bI q1;obtain⟨b,off,rfl,q3⟩:=sC q2;obtain⟨x,h1,h2⟩:=he.get i _ hv;obtain⟨y,hb,rfl⟩:=jH h2;obtain⟨u,z,lg',h3,h4,q4⟩:=aDI R hs hb q3;exact⟨u,z,lg',by simp [a0a,h1,Go.asAddr,a1B,h3,Sem.run,Pure.pure],h4,q4⟩
theorem aFi {t:Array Value} (he:bN ρ e n t) (R:Rel g ρ h nx w):∀ (rs:List ResultVar) {k:List V->AI} {lg:List Fp},run (resA P e rs k) h nx lg=some r ->
 ∃ vs xs lg',(rs.mapM (m:=Sem) fun
  | .tmp i=>Pure.pure (t.getD i undef)
  | .cell i T=>do loadVar T (<- Go.asAddr (t.getD i undef))).run P w= .ok xs w/\tvs ρ vs=some xs/\run (k vs) h nx lg'=some r
 | [],k,lg,q=>⟨[],[],lg,by simp_all,rfl,q⟩
 | rv :: rs,k,lg,q=>by
  obtain⟨v,x,lg1,h1,h2,q1⟩:=res1_run (k:=fun v=>resA P e rs fun vs=>k (v :: vs)) he R q
  obtain⟨vs,xs,lg2,h3,h4,q2⟩:=aFi he R rs q1;refine⟨v :: vs,x :: xs,lg2,?_,(by grind [tvs]),q2⟩
  simp_all
theorem oneOf_tv {vs:List V} {xs:List Value} (h:tvs ρ vs=some xs):tv ρ (nJ vs)=some (if h:xs.toArray.size=1 then xs.toArray[0] else .tuple xs.toArray):=by
 have hl:=sX h
 match vs,xs with
 | [],[]=>simp [nJ,tv,tvs]
 | [v],[x]=>
  obtain⟨y,ys,h1,_,h2⟩:=dR.1 h
  grind [nJ]
 | v :: u :: vs,x :: y :: xs=>
  have:nJ (v :: u :: vs)= .tup (v :: u :: vs):=rfl
  grind [tv]
 | [],_ :: _=>simp at hl
 | _ :: _,[]=>simp at hl
 | [_],_ :: _ :: _=>simp at hl
 | _ :: _ :: _,[_]=>simp at hl
theorem aG5 {fn:Func} {t:Array Value} {k:List V->AI} (he:bN ρ e n t) (R:Rel g ρ h nx w) (q:run (resA P e fn.results.toList k) h nx lg=some r):
 ∃ vs x lg',(results fn t).run P w= .ok x w/\tv ρ (nJ vs)=some x/\run (k vs) h nx lg'=some r:=by
 obtain⟨vs,xs,lg',h1,h2,q1⟩:=aFi he R fn.results.toList q
 refine⟨vs,_,lg',?_,oneOf_tv h2,q1⟩
 unfold results
 have hm:(fn.results.mapM (m:=Sem) fun
  | .tmp i=>Pure.pure (t.getD i undef)
  | .cell i T=>do loadVar T (<- Go.asAddr (t.getD i undef))).run P w= .ok xs.toArray w:=by
  rw [<- Array.toArray_toList (xs:=fn.results),List.mapM_toArray,map_eq_pure_bind,a1B]
  simp_all
 rw [a1B]
 exact Eq.trans (congrArg (fun z=>Result.andThen z fun (vs:Array Value) w'=>Sem.run P (Pure.pure (if h:vs.size=1 then vs[0] else .tuple vs)) w') hm) rfl
def fmR (ρ:Rho):FM->FrameMode->Prop
 | .ret, .returning=>True
 | .pan ch, .panicking ch'=>gG ρ ch ch'
 | _,_=>False
theorem fmR.mono {ρ ρ':Rho} (hl:ρ.le ρ') {u:FM} {u':FrameMode} (r:fmR ρ u u'):fmR ρ' u u':=by
 cases u <;> cases u' <;> first
  | exact r
  | exact gG.mono hl r
theorem aCP {ρ:Rho}:∀ {a b:List PE} {c d:List PanicEntry},gG ρ a c->gG ρ b d->gG ρ (a++b) (c++d)
 | [],_,[],_,_,h=>h
 | _ :: _,_,_ :: _,_,h1,h2=>⟨h1.1,aCP h1.2 h2⟩
 | [],_,_ :: _,_,h,_=>h.elim
 | _ :: _,_,[],_,h,_=>h.elim
theorem aCS {ρ:Rho}:∀ {a:List PE} {c:List PanicEntry},gG ρ a c->c.dropWhile (fun p=>!p.goexit)=[]
 | [],[],_=>rfl
 | _ :: _,q :: qs,h=>by
  rw [List.dropWhile_cons];simp only [h.1.2.2,Bool.not_false,if_true];exact aCS h.2
 | [],_ :: _,h=>h.elim
 | _ :: _,[],h=>h.elim
theorem aFp {u:FM} {u':FrameMode} (hu:fmR ρ u u'):fmR ρ (vV u) (settle u'):=by
 cases u with
 | ret=>cases u' <;> first | exact hu | exact hu.elim
 | pan ch=>
  cases u' with
  | returning=>exact hu.elim
  | run=>exact hu.elim
  | panicking ch'=>
   match ch,ch',hu with
   | [],[],_=>exact trivial
   | ⟨v,true⟩ :: ps,q :: qs,hu=>
    obtain⟨qv,qr,qg⟩:=q;have h1:qr=true:=hu.1.2.1;subst h1;have:=aCS hu.2;simp only [vV,settle,this];trivial
   | ⟨v,false⟩ :: ps,q :: qs,hu=>
    obtain⟨qv,qr,qg⟩:=q;have h1:qr=false:=hu.1.2.1;subst h1;exact hu
theorem aFF {u:FM} {u':FrameMode} {ch:List PE} {ch':List PanicEntry} (hu:fmR ρ u u') (hc:gG ρ ch ch'):fmR ρ (aBt u ch) (raised u' ch'):=by
 cases u with
 | ret=>cases u' <;> first | exact hc | exact hu.elim
 | pan old=>
  cases u' <;> first
   | exact hu.elim
   | (show gG ρ (ap ch old) _;rw [jD];exact aCP hc hu)
theorem fmR_run {u:FM} {u':FrameMode} (hu:fmR ρ u u'):u'≠ .run:=fun e=>by subst e;cases u <;> exact hu.elim
end
end
open RowKit (Below)
noncomputable section
section
variable {P:Program} {a:Act} {w:World} {g:G} {ρ:Rho} {r:O × S} {e:Tr V} {n:Nat} {h:Tr Blk} {nx:Nat} {lg:List Fp} {ex:Ex} {rr:Option Nat}
theorem aDY {d:Option Nat} {v:V} {x:Value} {k:Tr V->AI} (he:bN ρ e n a.tmps) (hv:tv ρ v=some x) (q:run (insE d v e n k) h nx lg=some r):∃ e',run (k e') h nx lg=some r/\bN ρ e' n (a.put d x).tmps:=by
 cases d with
 | none=>exact⟨e,q,he⟩
 | some t=>
  have q':run (Bool.rec .fail (pp e (some v) (pa t) k) (Nat.blt t n):AI) h nx lg=some r:=q;cases hb:Nat.blt t n with
  | false=>rw [hb]at q';cases q'
  | true=>
   rw [hb]at q';have q2:run (pp e (some v) (pa t) k) h nx lg=some r:=q';rw [lO]at q2;rw [a1i]at hb;exact⟨_,q2,he.put hb hv⟩
theorem aDz {d:Option Nat} {ac:Ac} {v:V} {x:Value} {k:Ac->AI} (hA:AcR ρ ac a) (hv:tv ρ v=some x) (q:run (insK d ac v k) h nx lg=some r):∃ ac',run (k ac') h nx lg=some r/\AcR ρ ac' (a.put d x)/\ac'.ro=ac.ro:=by
 obtain⟨e,n,ds,ro⟩:=ac
 obtain⟨e',q1,h1⟩:=aDY (k:=fun e=>k ⟨e,n,ds,ro⟩) hA.env hv q
 exact⟨_,q1,⟨h1,by cases d <;> exact hA.ds⟩,rfl⟩
theorem rcv_R {u:FM} {u':FrameMode} {c₀:Frame} {cs:List Frame} (hu:fmR ρ u u') (hm:c₀.mode=u'):
 ∃ v u2 cs',(match recoverD (c₀ :: cs)with | some p=>p | none=>(Value.nilIface,c₀ :: cs))=(v,cs')/\tv ρ (rcv u).1=some v/\cs'={ c₀ with mode:=u2 } :: cs/\fmR ρ (rcv u).2 u2:=by
 obtain⟨f0,t0,td0,d0,m0,k0,r0⟩:=c₀
 simp only at hm
 subst hm
 cases u with
 | ret=>cases m0 <;> first | exact hu.elim | exact⟨.nilIface,_,_,rfl,rfl,rfl,hu⟩
 | pan ch=>
  cases m0 with
  | run=>exact hu.elim
  | returning=>exact hu.elim
  | panicking ch'=>
   match ch,ch',hu with
   | [],[],hu=>exact⟨.nilIface,_,_,rfl,rfl,rfl,hu⟩
   | ⟨v,true⟩ :: ps,⟨qv,qr,qg⟩ :: qs,hu=>
    have h1:qr=true:=hu.1.2.1;subst h1;exact⟨.nilIface,_,_,rfl,rfl,rfl,hu⟩
   | ⟨v,false⟩ :: ps,⟨qv,qr,qg⟩ :: qs,hu=>
    have h1:qr=false:=hu.1.2.1;have h2:qg=false:=hu.1.2.2;subst h1 h2;exact⟨qv, .panicking ({ v:=qv,recovered:=true } :: qs),_,rfl,hu.1.1,rfl,⟨hu.1.1,rfl,rfl⟩,hu.2⟩
theorem aFL {o:Oper} {d:Nat} (hh:mP o=some d):o.guard=none/\o.op= .call { callee:= .builtin .recover,args:=#[],argTypes:=(match o.op with | .call c=>c.argTypes | _=>#[]) }/\o.dst=some d:=by
 unfold mP at hh
 split at hh
 ·cases hh
 ·rename_i hg;split at hh
  ·rename_i c ho;split at hh
   ·rename_i hc;split at hh
    ·rename_i ha;refine⟨hg,?_,hh⟩;rw [ho];obtain⟨cl,az9,ts⟩:=c;simp only at hc ha
     subst hc;have:az9=#[]:=by apply Array.ext';exact ha
     subst this;rfl
    ·cases hh
   ·cases hh
  ·cases hh
theorem isAsg_eq {o:Oper} {d e:Nat} (hh:wD d o=some e):o.guard=none/\o.op= .assign (.tmp d)/\o.dst=some e:=by
 unfold wD at hh
 split at hh
 ·cases hh
 ·rename_i hg;split at hh
  ·rename_i t ho;split at hh
   ·rename_i ht;have:=a1j ht;subst this;exact⟨hg,ho,hh⟩
   ·cases hh
  ·cases hh
theorem recB_eq {c y:Code} {d:Nat} {e':Option Nat} (hh:recB c=some (d,e',y)):∃ id ops,c= .seq (.region id ops false) y/\((∃ o,ops=#[o]/\mP o=some d/\e'=none)\/∃ o p e2,ops=#[o,p]/\mP o=some d/\wD d p=some e2/\e'=some e2):=by
 unfold recB at hh
 split at hh
 ·rename_i id ops y';split at hh
  ·rename_i o p hops;split at hh
   ·rename_i d' hd;split at hh
    ·rename_i e2 he2;cases hh;exact⟨id,ops,rfl, .inr ⟨o,p,e2,by apply Array.ext';exact hops,hd,he2,rfl⟩⟩
    ·cases hh
   ·cases hh
  ·rename_i o hops;split at hh
   ·rename_i d' hd;cases hh;exact⟨id,ops,rfl, .inl ⟨o,by apply Array.ext';exact hops,hd,rfl⟩⟩
   ·cases hh
  ·cases hh
 ·cases hh
theorem aFv {o:Oper} (ho:o.op= .call { callee:= .builtin .recover,args:=#[],argTypes:=(match o.op with | .call c=>c.argTypes | _=>#[]) }) (ρ':Operand->Value):(execOp ρ' o).run P w= .ok .recover w:=by
 generalize hts:(match o.op with | .call c=>c.argTypes | _=>#[])=ts at ho
 simp [execOp,ho,resolve,invoke,builtin,a1B,Sem.run,Pure.pure]
theorem wp_rec {id:Nat} {ops:Array Oper} {y:Code} {d:Nat} {e':Option Nat} {S:Exit->Act->List Frame->World->Prop} {cs cs':List Frame} {v:Value} (hn:d<a.tmps.size)
 (hops:(∃ o,ops=#[o]/\mP o=some d/\e'=none)\/∃ o p e2,ops=#[o,p]/\mP o=some d/\wD d p=some e2/\e'=some e2)
 (hr:(match recoverD cs with | some p=>p | none=>(Value.nilIface,cs))=(v,cs')) (hy:y.wpSIn (SX.fw none) 0 P S ((a.put (some d) v).put e' v) cs' w):(Code.seq (.region id ops false) y).wpSIn (SX.fw none) 0 P S a cs w:=by
 refine wpSIn_seq (wpSIn_region ?_)
 rcases hops with⟨o,rfl,h1,rfl⟩ | ⟨o,p,e2,rfl,h1,h2,rfl⟩
 ·obtain⟨g0,o0,d0⟩:=aFL h1;have hl:List.range (#[o]:Array Oper).size=[0]:=rfl;have i0:(#[o]:Array Oper)[0]? =some o:=rfl;have w0:Region.wanted o (yielded #[o] a.tmps)=true:=by simp [Region.wanted,g0]
  have hfin:wpOpsSIn (SX.fw none) 0 P #[o] (Exit.thenS (y.wpSIn (SX.fw none) 0 P S) S) [] (a.put o.dst v) cs' w:=by rw [d0];exact hy
  rw [hl,wpOpsSIn];simp only [i0,w0,if_true,aFv o0];refine⟨fun _ _=>a1I,?_⟩
  cases hrec:recoverD cs with
  | none=>rw [hrec]at hr;cases hr;exact hfin
  | some p=>rw [hrec]at hr;obtain⟨v',cs''⟩:=p;cases hr;exact hfin
 ·obtain⟨g0,o0,d0⟩:=aFL h1;obtain⟨g1,o1,d1⟩:=isAsg_eq h2;have hl:List.range (#[o,p]:Array Oper).size=[0,1]:=rfl;have i0:(#[o,p]:Array Oper)[0]? =some o:=rfl;have i1:(#[o,p]:Array Oper)[1]? =some p:=rfl;have w0:Region.wanted o (yielded #[o,p] a.tmps)=true:=by simp [Region.wanted,g0]
  have w1:Region.wanted p (yielded #[o,p] (a.put (some d) v).tmps)=true:=by simp [Region.wanted,g1]
  have hev:(a.put (some d) v).eval (.tmp d)=v:=by simp [Act.eval,Act.put,a0a,hn]
  have he1:∀ w,(execOp (a.put (some d) v).eval p).run P w= .ok (.value v) w:=fun w=>by simp [execOp,o1,hev,Sem.run,Pure.pure]
  have hfin:wpOpsSIn (SX.fw none) 0 P #[o,p] (Exit.thenS (y.wpSIn (SX.fw none) 0 P S) S) [1] (a.put o.dst v) cs' w:=by
   rw [d0];simp only [wpOpsSIn,i1,w1,if_true,he1];rw [d1];exact⟨fun _ _=>trivial,hy⟩
  rw [hl,wpOpsSIn];simp only [i0,w0,if_true,aFv o0];refine⟨fun _ _=>a1I,?_⟩
  cases hrec:recoverD cs with
  | none=>rw [hrec]at hr;cases hr;exact hfin
  | some p=>rw [hrec]at hr;obtain⟨v',cs''⟩:=p;cases hr;exact hfin
theorem aC0 {x:X} {ds:List Df} {u u2:FM} {exi:Exit} {dd:List Deferred} (hq:after x ds u=some u2) (hx:xR ρ x exi) (hd:kD ρ ds dd):
 dd=[]/\(((exi= .normal\/exi= .ret)/\u2=vV u)\/∃ ch ch',exi= .panic ch'/\gG ρ ch ch'/\u2=aBt u ch):=by
 cases ds with
 | cons=>cases hq
 | nil=>
  have hdd:dd=[]:=by cases dd <;> first | rfl | exact hd.elim
  refine⟨hdd,?_⟩;cases x with
  | normal=>cases exi <;> first | exact hx.elim | (cases hq;exact .inl ⟨.inl rfl,rfl⟩)
  | ret=>cases exi <;> first | exact hx.elim | (cases hq;exact .inl ⟨.inr rfl,rfl⟩)
  | exit=>cases hq
  | panic ch=>cases exi <;> first | exact hx.elim | (cases hq;exact .inr ⟨_,_,rfl,hx,rfl⟩)
theorem mY (SC:SimC P ex) {fn:Func} {t:Array Value} {k:O->AI} {ρ0:Rho}:∀ (ds:List Df) (ds':List Deferred) (u:FM) (u':FrameMode) (ρ:Rho) (h:Tr Blk) (nx:Nat) (lg:List Fp) (w:World),ρ0.le ρ->kD ρ ds ds'->fmR ρ u u'->bN ρ e n t ->
 Rel g ρ h nx w->r.2.nx<=g.hi->run (kB P ex fn e k ds u) h nx lg=some r->LeavesInM (SX.fw none) 0 P fn t (CR g ρ0 k r) ds' u' w
 | [],ds',u,u',ρ,h,nx,lg,w,h0,hd,hu,he,R,hi,q=>by
  cases ds' with
  | cons=>exact hd.elim
  | nil=>
   cases u with
   | ret=>
    cases u' <;> first | exact hu.elim | skip
    obtain⟨vs,x,lg',h1,h2,q1⟩:=aG5 (k:=fun l=>k (.val (nJ l))) he R q
    exact⟨x,h1,nJ vs,ρ,h,nx,lg',h0,R,h2,q1⟩
   | pan ch=>
    cases u' <;> first | exact hu.elim | skip
    exact⟨ch,ρ,h,nx,lg,h0,R,hu,q⟩
 | d :: ds,ds',u,u',ρ,h,nx,lg,w,h0,hd,hu,he,R,hi,q=>by
  cases ds' with
  | nil=>exact hd.elim
  | cons d' ds'=>
   obtain⟨hd1,hd2⟩:=hd;have q0:run (defer1 P ex d u (kB P ex fn e k ds)) h nx lg=some r:=q;refine⟨fmR_run hu,?_⟩;cases d with
   | col rb=>
    obtain⟨x,hx,rfl⟩:=hd1;have q1:run (.getO rb fun o=>match o with
     | .dfr true=> .setO rb (.dfr false) (kB P ex fn e k ds u)
     | _=> .fail) h nx lg=some r:=q0
    rw [kP]at q1;obtain⟨ob,h1,n1,l1,e1,q2⟩:=cZ q1;obtain⟨y,o',k1,k2,k3,_,k5,k6⟩:=lL R e1;subst k5 k6;rw [hx]at k1;cases k1
    cases ob with
    | map=>cases q2
    | loop=>cases q2
    | dfr b=>
     cases b with
     | false=>cases q2
     | true=>
      have q3:run (.setO rb (.dfr false) (kB P ex fn e k ds u)) h1 n1 (l1++lg)=some r:=q2;rw [sL]at q3;obtain⟨_,h2,n2,l2,e2,q4⟩:=cZ q3;cases o' <;> first
       | exact k3.elim
       | skip
      have hk3:_=some []:=k3;subst hk3;have hR2:=tE R e2 hx (o1:= .deferred none) rfl;exact .inl ⟨x.1,_,rfl,run_takeDeferred k2,mY SC ds ds' u u' ρ h2 n2 _ _ h0 hd2 hu he hR2 hi q4⟩
   | fn f args cap=>
    obtain⟨xs,ys,hxs,hys,rfl⟩:=hd1;obtain⟨p,hp,q1⟩:=bI (o:=bod P f) q0;obtain⟨hnr,q2⟩:=cC q1;obtain⟨hf,hb,hcal⟩:=bod_eq hp;have hall:tvs ρ (ap args cap)=some (xs++ys):=by rw [jD];exact lS.2 ⟨_,_,hxs,hys,rfl⟩
    obtain⟨ac,q3,hro,hA,hacn⟩:=aDO hall q2;have hres:p.1.results=#[]:=by
     cases hl:p.1.results.toList with
     | nil=>apply Array.ext';exact hl
     | cons a l=>rw [hl]at hnr;cases hnr
    have hresr:∀ t w,(results p.1 t).run P w= .ok (.tuple #[]) w:=fun t w=>by simp [results,hres,Sem.run,Pure.pure]
    have e1:(⟨xs⟩++⟨ys⟩:Array Value)=⟨xs++ys⟩:=by apply Array.ext';simp
    refine .inr ⟨(fun h=>by cases h), .func f,⟨ys⟩,f,⟨xs++ys⟩,rfl,?_,fun _ _=>a1I,?_⟩
    ·simp only [invoke];rw [e1];exact SX.run_callFunc hcal _ w
    ·cases hrb:recB p.2 with
     | none=>
      rw [hrb]at q3;have hbody:=SC p.2 g ρ ac _ h nx lg w _ r none hA R hi (by rw [hro];trivial) q3
      refine CallsDIn.mono (callsDIn_of_wp (n:=0) (F:=SX.fw none) (u:=u') (R:=fun e w'=>match e with
       | .returned _=>LeavesInM (SX.fw none) 0 P fn t (CR g ρ0 k r) ds' (settle u') w'
       | .panicked chain=>LeavesInM (SX.fw none) 0 P fn t (CR g ρ0 k r) ds' (raised u' chain) w'
       | .outgrown=>False) hf hb trivial (Code.wpIn_mono ?_ hbody)) ?_
      ·intro exi a2 w2 hk;obtain⟨x,ac2,ρ2,h2,nx2,lg2,m1,m2,m3,m4,m5,m6⟩:=hk;obtain⟨u3,hu3,q4⟩:=bI (o:=after x ac2.ds u) (f:=kB P ex fn e k ds) m6;obtain⟨hdd,hcase⟩:=aC0 hu3 m2 m3.ds;rcases hcase with⟨hn,rfl⟩ | ⟨ch,ch',rfl,hch,rfl⟩
       ·have:=mY SC ds ds' _ _ ρ2 h2 nx2 lg2 w2 (Rho.le_trans h0 m1) (hd2.mono m1) (aFp (hu.mono m1)) (he.mono m1) m5 hi q4;rcases hn with rfl | rfl
        ·exact⟨hdd,_,hresr _ _,this⟩
        ·exact⟨hdd,_,hresr _ _,this⟩
       ·exact⟨hdd,mY SC ds ds' _ _ ρ2 h2 nx2 lg2 w2 (Rho.le_trans h0 m1) (hd2.mono m1) (aFF (hu.mono m1) hch) (he.mono m1) m5 hi q4⟩
      ·intro e2 u2 w2 hh;obtain⟨rfl,hh⟩:=hh;cases e2 <;> first | exact hh | exact hh.elim
     | some tr=>
      obtain⟨d,e',y⟩:=tr;rw [hrb]at q3;obtain⟨id,ops,hcode,hops⟩:=recB_eq hrb;refine callsDIn_of_wpSIn (n:=0) (F:=SX.fw none) hf hb a1I fun c₀ cs hm=>?_
      rw [hcode];obtain⟨v,u2,cs',r1,r2,r3,r4⟩:=rcv_R (cs:=cs) hu hm;obtain⟨ac1,q4,hA1,hro1⟩:=aDz (k:=fun a=>insK e' a (rcv u).1 fun a=>ex y a fun x a=>oo (after x a.ds (rcv u).2) (kB P ex fn e k ds)) hA r2 q3
      have hdn:d<ac.n:=by
       obtain⟨ee,nn,dds,roo⟩:=ac;have q3':run (Bool.rec .fail (pp ee (some (rcv u).1) (pa d) fun e2=>insK e' ⟨e2,nn,dds,roo⟩ (rcv u).1 fun a=>ex y a fun x a=>oo (after x a.ds (rcv u).2) (kB P ex fn e k ds)) (Nat.blt d nn):AI) h nx lg=some r:=q3
       cases hb:Nat.blt d nn with
       | false=>rw [hb]at q3';cases q3'
       | true=>rw [a1i]at hb;exact hb
      obtain⟨ac2,q5,hA2,hro2⟩:=aDz (k:=fun a=>ex y a fun x a=>oo (after x a.ds (rcv u).2) (kB P ex fn e k ds)) hA1 r2 q4
      have hbody:=SC y g ρ ac2 _ h nx lg w _ r none hA2 R hi (by rw [hro2,hro1,hro];trivial) q5
      refine wp_rec (by have:=hA.env.size;omega) hops r1 (wpSIn_of_wpIn rfl (Code.wpIn_mono ?_ hbody))
      intro exi a2 w2 hk;obtain⟨x,ac3,ρ2,h2,nx2,lg2,m1,m2,m3,m4,m5,m6⟩:=hk;obtain⟨u3,hu3,q6⟩:=bI (o:=after x ac3.ds (rcv u).2) (f:=kB P ex fn e k ds) m6;obtain⟨hdd,hcase⟩:=aC0 hu3 m2 m3.ds;rcases hcase with⟨hn,rfl⟩ | ⟨ch,ch',rfl,hch,rfl⟩
      ·have:=mY SC ds ds' _ _ ρ2 h2 nx2 lg2 w2 (Rho.le_trans h0 m1) (hd2.mono m1) (aFp (r4.mono m1)) (he.mono m1) m5 hi q6;rcases hn with rfl | rfl
       ·exact⟨hdd,u2,r3,_,hresr _ _,this⟩
       ·exact⟨hdd,u2,r3,_,hresr _ _,this⟩
      ·exact⟨hdd,u2,r3,mY SC ds ds' _ _ ρ2 h2 nx2 lg2 w2 (Rho.le_trans h0 m1) (hd2.mono m1) (aFF (r4.mono m1) hch) (he.mono m1) m5 hi q6⟩
theorem aAS (SC:SimC P ex):SimA P ex:=fun f args xs g ρ h nx lg w k r hx R hi q=>by
 obtain⟨p,hp,q1⟩:=bI (o:=bod P f) q
 obtain⟨hf,hb,hcal⟩:=bod_eq hp
 obtain⟨ac,q2,hro,hA,_⟩:=aDO hx q1
 have hbody:=SC p.2 g ρ ac _ h nx lg w _ r none hA R hi (by rw [hro];trivial) q2
 refine⟨hcal,callsIn_of_wp_marks hf hb a1I (Code.wpIn_mono ?_ hbody)⟩
 intro exi a2 w2 hk
 obtain⟨x,ac2,ρ2,h2,nx2,lg2,m1,m2,m3,m4,m5,m6⟩:=hk
 obtain⟨e,n,ds,ro⟩:=ac2
 obtain⟨u,hu,q3⟩:=bI (o:=left x) (f:=fun u=>kB P ex p.1 e k ds u) m6
 cases x with
 | normal=>cases exi <;> first | exact m2.elim | (cases hu;exact mY SC ds _ _ _ ρ2 h2 nx2 lg2 w2 m1 m3.ds (by trivial) m3.env m5 hi q3)
 | ret=>cases exi <;> first | exact m2.elim | (cases hu;exact mY SC ds _ _ _ ρ2 h2 nx2 lg2 w2 m1 m3.ds (by trivial) m3.env m5 hi q3)
 | exit=>cases hu
 | panic ch=>cases exi <;> first | exact m2.elim | (cases hu;exact mY SC ds _ (.pan ch) _ ρ2 h2 nx2 lg2 w2 m1 m3.ds m2 m3.env m5 hi q3)
end
end
open RowKit (Below)
noncomputable section
section
variable {P:Program} {a:Act} {w:World} {g:G} {ρ:Rho} {r:O × S} {e:Tr V} {n:Nat} {h:Tr Blk} {nx:Nat} {lg:List Fp} {ex:Ex} {rr:Option Nat}
theorem aAR (ops:List Oper) (j:Nat):jU ops j=ops[j]?.bind (·.dst):=by
 unfold jU;rw [mC];cases ops[j]? <;> rfl
theorem aCL {v:V} {f:Bool->AI} {no:AI} (q:run (asBool v f no) h nx lg=some r):(∃ b,v= .bool b/\run (f b) h nx lg=some r)\/((∀ b,v≠ .bool b)/\run no h nx lg=some r):=by
 cases v <;> first
  | exact .inl ⟨_,rfl,q⟩
  | exact .inr ⟨(by intro b hb;cases hb),q⟩
theorem aD3 {v:V} {x:Value} (hv:∀ b,v≠ .bool b) (e:tv ρ v=some x):∀ b,x≠ .bool b:=by
 intro b hb
 subst hb
 cases v with
 | bool c=>exact hv c rfl
 | fn _ _ _=>simp only [tv]at e;split at e <;> (try split at e) <;> cases e
 | iface _ _=>simp only [tv]at e;split at e <;> cases e
 | agg _=>simp only [tv]at e;split at e <;> (try split at e) <;> cases e
 | tup _=>simp only [tv]at e;split at e <;> cases e
 | _=>first
  | cases e
  | (simp only [tv,a1v]at e;obtain⟨_,_,h⟩:=e;cases h)
theorem aIm {all:Array Oper} {o:Oper} {yes no:AI} (he:bN ρ e n a.tmps) (q:run (opG o.guard all.toList e yes no) h nx lg=some r):
 (Region.wanted o (yielded all a.tmps)=true/\run yes h nx lg=some r)\/(Region.wanted o (yielded all a.tmps)=false/\run no h nx lg=some r):=by
 cases hg:o.guard with
 | none=>rw [hg]at q;exact .inl ⟨by simp [Region.wanted,hg],q⟩
 | some p=>
  obtain⟨j,want⟩:=p;rw [hg]at q;have q1:run (aB1 all.toList j want e yes no) h nx lg=some r:=q;have hw:Region.wanted o (yielded all a.tmps)=(yielded all a.tmps j==some want):=by simp [Region.wanted,hg]
  rw [hw];rcases iU (o:=jU all.toList j) q1 with⟨hd,q2⟩ | ⟨d,hd,q2⟩
  ·rw [aAR,a0d]at hd
   grind [yielded]
  ·rw [aAR,a0d]at hd;obtain⟨v,hv,q3⟩:=bI (o:=gp e (pa d)) q2;obtain⟨x,hx1,hx2⟩:=he.get d v hv;rcases aCL q3 with⟨b,rfl,q4⟩ | ⟨hnb,q4⟩
   ·cases hx2;have hy:yielded all a.tmps j=some b:=by simp [yielded,hd,hx1]
    rw [hy];cases b <;> cases want <;> first
     | exact .inl ⟨rfl,q4⟩
     | exact .inr ⟨rfl,q4⟩
   ·have hnx:=aD3 hnb hx2
    grind [yielded]
theorem aFS (SA:SimA P ex) (SY:SimY P ex) {all:Array Oper} {ρ0:Rho} {k:KX} (hi:r.2.nx<=g.hi):∀ (l:List Oper) (ρ:Rho) (ac:Ac) (a:Act) (h:Tr Blk) (nx:Nat) (lg:List Fp) (w:World),ρ0.le ρ->AcR ρ ac a->Rel g ρ h nx w->roR ρ ac.ro rr ->
 run (opsA all.toList P ex l ac k) h nx lg=some r->wpListIn (SX.fw rr) 0 P all (KQ g ρ0 ac.ro k r) l a w
 | [],ρ,ac,a,h,nx,lg,w,h0,hA,R,hr,q=>⟨.normal,ac,ρ,h,nx,lg,h0,trivial,hA,rfl,R,q⟩
 | o :: l,ρ,ac,a,h,nx,lg,w,h0,hA,R,hr,q=>by
  obtain⟨e,n,ds,ro⟩:=ac;have q0:run (opG o.guard all.toList e (opH o.op P ex e (fin o.dst e n ds ro (opsA all.toList P ex l) k) (pan k ⟨e,n,ds,ro⟩) (dfr o.dst e n ds ro (opsA all.toList P ex l) k)) (fin o.dst e n ds ro (opsA all.toList P ex l) k dY)) h nx lg=some r:=q;have put:∀ {ρ':Rho} {h':Tr Blk} {nx':Nat} {lg':List Fp} {w':World} {a':Act} {ds':List Df} {v:V} {x:Value},ρ.le ρ'->Rel g ρ' h' nx' w'->a'.tmps=a.tmps->kD ρ' ds' a'.defers->tv ρ' v=some x ->
   run (fin o.dst e n ds' ro (opsA all.toList P ex l) k v) h' nx' lg'=some r->wpListIn (SX.fw rr) 0 P all (KQ g ρ0 ro k r) l (a'.put o.dst x) w':=by
   intro ρ' h' nx' lg' w' a' ds' v x hle R' hta hds hv q';obtain⟨e',q1,hE⟩:=aDY (k:=fun e=>opsA all.toList P ex l ⟨e,n,ds',ro⟩ k) (a:=a') (by rw [hta];exact hA.env.mono hle) hv q'
   exact aFS SA SY hi l ρ' ⟨e',n,ds',ro⟩ _ _ _ _ _ (Rho.le_trans h0 hle) ⟨hE,by cases o.dst <;> exact hds⟩ R' (hr.mono hle) q1
  unfold wpListIn;rcases aIm hA.env q0 with⟨hw,q1⟩ | ⟨hw,q1⟩
  ·rw [a1H hw];refine op_sim SA SY hA.env R hi q1 (fun v x ρ' h' nx' lg' w' h1 h2 h3 h4=>put h1 h2 rfl (hA.ds.mono h1) h3 h4) (fun ch ch' ρ' h' nx' lg' w' h1 h2 h3 h4=>⟨.panic ch,_,ρ',h',nx',lg',Rho.le_trans h0 h1,h3,hA.mono h1,rfl,h2,h4⟩) fun d d' lg' hdf h4=>?_
   rcases iU (o:=ro) h4 with⟨hn,h5⟩ | ⟨_,_,h5⟩
   ·subst hn;refine⟨by cases rr <;> first | rfl | exact hr.elim,?_⟩
    have h6:run (fin o.dst e n (d :: ds) none (opsA all.toList P ex l) k dY) h nx lg'=some r:=h5;exact put (a':={ a with defers:=d' :: a.defers }) (ds':=d :: ds) (Rho.le_refl ρ) R rfl (show kD ρ (d :: ds) (d' :: a.defers)from⟨hdf,hA.ds⟩) rfl h6
   ·cases h5
  ·rw [a1G (by rw [hw];simp)];exact⟨fun _ _=>trivial,put (Rho.le_refl ρ) R rfl hA.ds rfl q1⟩
theorem aFY:∀ (ps:List Nat) (vs:List V) (xs:List Value) (e:Tr V) (t:Array Value) {k:Tr V->AI},bN ρ e n t->tvs ρ vs=some xs->run (putPs ps n vs e k) h nx lg=some r ->
 ps.length=xs.length/\∃ e',run (k e') h nx lg=some r/\bN ρ e' n ((ps.zip xs).foldl (fun tmps (t,a)=>tmps.setIfInBounds t a) t)
 | [],[],xs,e,t,k,he,hx,q=>by rw [lC]at hx;subst hx;exact⟨rfl,e,q,he⟩
 | [],_ :: _,_,_,_,_,_,_,q=>by cases q
 | _ :: _,[],_,_,_,_,_,_,q=>by cases q
 | p :: ps,v :: vs,xs,e,t,k,he,hx,q=>by
  obtain⟨x,ys,h1,h2,rfl⟩:=dR.1 hx;obtain⟨hb,q1⟩:=cC (b:=Nat.blt p n) (p:=pp e (some v) (pa p) fun e=>putPs ps n vs e k) q
  rw [lO]at q1;rw [a1i]at hb;obtain⟨h3,e',q2,h4⟩:=aFY ps vs ys _ _ (bN.put (a:={ tmps:=t,defers:=[] }) he hb h1) h2 q1;exact⟨by simp [h3],e',q2,h4⟩
theorem pend_inv {x:X} {ds:List Df} {j:Option Code} {exi:Exit} (hq:pendOf x ds=some j) (hx:xR ρ x exi):(exi= .normal/\j=none)\/(exi= .ret/\j=some .ret)\/∃ i,exi= .exit i/\j=some (.exit i):=by
 cases ds with
 | cons=>cases hq
 | nil=>
  cases x with
  | normal=>cases exi <;> first | exact hx.elim | (cases hq;exact .inl ⟨rfl,rfl⟩)
  | ret=>cases exi <;> first | exact hx.elim | (cases hq;exact .inr (.inl ⟨rfl,rfl⟩))
  | exit i=>
   cases exi <;> first
    | exact hx.elim
    | (have:i=_:=hx;subst this;cases hq;exact .inr (.inr ⟨_,rfl,rfl⟩))
  | panic ch=>cases hq
theorem xQ {st:LoopState} {p:Option Code} {f:Nat} {ps:List Nat} {sg bd:Code} {d:Nat} {o':Obj} (ho:obR ρ (.loop st p f e n ps sg bd d) o'):∃ rec,o'= .loop rec/\rec.state=st/\rec.pending=p/\bN ρ e n rec.tmps/\rec.params.toList=ps/\rec.assign=sg/\rec.body=bd/\∃ x,ρ d=some x/\rec.defers=x.1:=by
 cases o' <;> first
  | exact ho.elim
  | exact⟨_,rfl,ho⟩
theorem aFM (SC:SimC P ex):SimY P ex:=fun l args xs g ρ h nx lg w k r hx R hi q=>by
 unfold aA9 at q
 rw [kP]at q
 obtain⟨ob,h1,n1,l1,e1,q1⟩:=cZ q
 obtain⟨x,o',hl,hw,ho,_,rfl,rfl⟩:=lL R e1
 cases ob with
 | map=>cases q1
 | dfr=>cases q1
 | loop st p f e n ps sg bd d=>
 cases st with
 | busy=>cases q1
 | done=>cases q1
 | exhausted=>cases q1
 | ready=>
 obtain⟨rec,rfl,r1,r2,r3,r4,r5,r6,xd,r7,r8⟩:=xQ ho
 obtain⟨hlen,e',q2,hE⟩:=aFY ps args xs e rec.tmps r3 hx q1
 refine⟨x,rec.fn,(rec.params.zip (⟨xs⟩:Array Value)).foldl (fun tmps (t,a)=>tmps.setIfInBounds t a) rec.tmps,sg,bd,hl,?_,?_⟩
 ·grind [run_yield]
 ·have hT:(rec.params.zip (⟨xs⟩:Array Value)).foldl (fun tmps (t,a)=>tmps.setIfInBounds t a) rec.tmps=(ps.zip xs).foldl (fun tmps (t,a)=>tmps.setIfInBounds t a) rec.tmps:=by
   grind [Array.toList_zip]
  rw [hT];refine roundIn_of_wpIn a1I (Go.wpIn_mono (SC sg g ρ ⟨e',n,[],some l⟩ { tmps:=_,defers:=[] } _ _ _ w _ r (some x.1) ⟨hE,a1I⟩ R hi ⟨x,hl,rfl⟩ q2) ?_);intro exi a2 w2 hk;obtain⟨x2,ac2,ρ2,h2,nx2,lg2,m1,m2,m3,m4,m5,m6⟩:=hk;cases x2 with
  | exit=>cases m6
  | ret=>cases m6
  | panic=>cases m6
  | normal=>
  cases exi <;> first
   | exact m2.elim
   | skip
  have m7:run (.getO l _) h2 nx2 lg2=some r:=m6;rw [kP]at m7;obtain⟨ob,h3,n3,l3,e3,q3⟩:=cZ m7;obtain⟨y,o2,hl2,hw2,ho2,_,rfl,rfl⟩:=lL m5 e3;rw [m1 _ _ hl]at hl2;cases hl2;cases ob with
  | map=>cases q3
  | dfr=>cases q3
  | loop st p2 f2 e2 n2 ps2 sg2 bd2 d2=>
  cases st with
  | busy=>cases q3
  | done=>cases q3
  | exhausted=>cases q3
  | ready=>
  obtain⟨rec2,rfl,s1,s2,s3,s4,s5,s6,s7⟩:=xQ ho2;have q4:run (.setO l (.loop .busy p2 f2 e2 n2 ps2 sg2 bd2 d2) _) _ _ _=some r:=q3;rw [sL]at q4;obtain⟨_,h4,n4,l4,e4,q5⟩:=cZ q4;have R4:=tE m5 e4 (m1 _ _ hl) (o1:= .loop { rec2 with state:= .busy }) ⟨rfl,s2,s3,s4,s5,s6,s7⟩
  refine⟨_,run_beginRound hw2 s1,Go.wpIn_mono (SC bd g ρ2 ac2 a2 _ _ _ _ _ r (some x.1) m3 R4 hi (by rw [m4];exact⟨x,m1 _ _ hl,rfl⟩) q5) ?_⟩
  intro exi a5 w5 hk;obtain⟨x5,ac5,ρ5,h5,nx5,lg5,t1,t2,t3,t4,t5,t6⟩:=hk;obtain⟨j,hj,q6⟩:=bI t6;rw [kP]at q6;obtain⟨ob,h6,n6,l6,e6,q7⟩:=cZ q6;obtain⟨y,o3,hl3,hw3,ho3,_,rfl,rfl⟩:=lL t5 e6;rw [t1 _ _ (m1 _ _ hl)]at hl3;cases hl3;cases ob with
  | map=>cases q7
  | dfr=>cases q7
  | loop st3 p3 f3 e3 n3 ps3 sg3 bd3 d3=>
  obtain⟨rec3,rfl,u1,u2,u3,u4,u5,u6,u7⟩:=xQ ho3;have q8:run (.setO l (.loop (stOf j) j f3 e3 n3 ps3 sg3 bd3 d3) (k (.val (.bool j.isNone)))) _ _ _=some r:=q7;rw [sL]at q8;obtain⟨_,h8,n8,l8,e8,q9⟩:=cZ q8;have R8:=tE t5 e8 (t1 _ _ (m1 _ _ hl)) (o1:= .loop { rec3 with state:=if j.isNone then .ready else .done,pending:=j }) ⟨by cases j <;> rfl,rfl,u3,u4,u5,u6,u7⟩
  have hfin:CR g ρ k r (.returned (.bool j.isNone)) (w5.putObj x.1 (.loop { rec3 with state:=if j.isNone then .ready else .done,pending:=j })):=⟨.bool j.isNone,ρ5,h8,n8,_,Rho.le_trans m1 t1,R8,rfl,q9⟩
  rcases pend_inv hj t2 with⟨rfl,rfl⟩ | ⟨rfl,rfl⟩ | ⟨i,rfl,rfl⟩
  ·exact⟨_,_,run_endRound none hw3,hfin⟩
  ·exact⟨_,_,run_endRound (some .ret) hw3,hfin⟩
  ·exact⟨_,_,run_endRound (some (.exit i)) hw3,hfin⟩
end
end
open RowKit (Below)
noncomputable section
section
variable {P:Program} {a:Act} {w:World} {g:G} {ρ:Rho} {r:O × S} {e:Tr V} {n:Nat} {h:Tr Blk} {nx:Nat} {lg:List Fp} {ex:Ex} {rr:Option Nat}
theorem KQ.mono {ρ':Rho} {ro:Option Nat} {k:KX} {exi:Exit} {a:Act} {w:World} (hle:ρ.le ρ') (q:KQ g ρ' ro k r exi a w):KQ g ρ ro k r exi a w:=by
 obtain⟨x,ac,ρ2,h,nx,lg,m1,m⟩:=q
 exact⟨x,ac,ρ2,h,nx,lg,Rho.le_trans hle m1,m⟩
theorem aEU {F:Fence} {m:Nat} {c:Code} {Q Q':Exit->Act->World->Prop} (hq:∀ e a w,Q e a w->Q' e a w):∀ (i:Nat) (a:Act) (w:World),Code.roundsIn F m P c Q i a w->Code.roundsIn F m P c Q' i a w
 | 0,_,_,q=>q
 | i+1,a,w,q=>Go.wpIn_mono (show c.wpIn F m P (Exit.then (Code.roundsIn F m P c Q i) Q) a w from q) fun e a w k=>by
  cases e <;> first
   | exact aEU hq i _ _ k
   | exact hq _ _ _ k
theorem aEw (SA:SimA P ex) {fO:Operand} {ps:Array Tmp} {sg bd:Code} {fv:V} {ac ac':Ac} {a':Act} {k:KX} {d:Nat} {xd:Nat × Nat} {ρ0:Rho} (fn:Nat) {obj:Obj} (hobj:Obj.loop { state:= .ready,pending:=none,fn,tmps:=a.tmps,params:=ps,assign:=sg,body:=bd,defers:=xd.1 }=obj) (hle:ρ0.le ρ) (hev:tv ρ fv=some (a.eval fO)) (hE:bN ρ ac.e ac.n a.tmps) (hA:AcR ρ ac' a') (hd:ρ d=some xd) (R:Rel g ρ h nx w) (hi:r.2.nx<=g.hi)
 (q:run (.newO (.loop .ready none 0 ac.e ac.n ps.toList sg bd d) fun l=>asFn fv (fun g first cap=>sV P ex g (ap first (ap [.yld l] cap)) fun o=>isVal o (aFw l fun x=>k x ac') (fun ch=>k (.panic ch) ac')) fun _=> .fail) h nx lg=some r):
 ∃ (df:Deferred) (f:FuncId) (args:Array Value),(resolve a.eval (rangeCall fO w.heap.size) 0).run P (w.alloc obj)= .ok df (w.alloc obj) /\
  (invoke df.target df.args).run P (w.alloc obj)= .ok (.enter f args) (w.alloc obj) /\
  CallsIn (SX.fw rr) 0 P f args (w.alloc obj) (rangePost (SX.fw rr) 0 P w.heap.size (KQ g ρ0 ac'.ro k r) a'):=by
 rw [aAQ]at q
 obtain⟨b,h1,n1,l1,e1,q1⟩:=cZ q
 have hn:=pH q1
 have hn1:n1=nx+1:=by unfold iS at e1;split at e1 <;> cases e1;rfl
 have hnone:ρ nx=none:=R.fresh nx (a1l _) (by omega)
 obtain⟨rfl,hle1,R1⟩:=yG R e1 (by omega) 0 obj (by
  rw [<- hobj];exact⟨rfl,rfl,hE.mono (Rho.le_ins hnone),rfl,rfl,rfl,xd,Rho.le_ins hnone _ _ hd,rfl⟩)
 generalize hρ1:ρ.ins b (w.heap.size,0)=ρ1 at hle1 R1
 have hb:ρ1 b=some (w.heap.size,0):=by rw [<- hρ1];exact Rho.ins_self
 have hfv:=lP hle1 _ hev
 rcases aCg q1 with⟨gf,first,cap,rfl,q2⟩ | ⟨l,rfl,q2⟩
 ·simp only [tv]at hfv;cases hf1:tvs ρ1 first with
  | none=>rw [hf1]at hfv;cases hfv
  | some xs=>
   rw [hf1]at hfv;simp only at hfv
   cases hf2:tvs ρ1 cap with
   | none=>rw [hf2]at hfv;cases hfv
   | some ys=>
    rw [hf2]at hfv;have hX:a.eval fO= .func (.func gf) ⟨xs⟩ ⟨ys⟩:=(a1y hfv).symm;rw [jD,jD]at q2;have hy:tv ρ1 (.yld b)=some (.func (.yield w.heap.size) #[] #[]):=by simp only [tv,hb,a1w]
    have hall:tvs ρ1 (first++([.yld b]++cap))=some (xs++([.func (.yield w.heap.size) #[] #[]]++ys)):=lS.2 ⟨_,_,hf1,lS.2 ⟨_,_,dR.2 ⟨_,_,hy,rfl,rfl⟩,hf2,rfl⟩,rfl⟩;obtain⟨hcall,hC⟩:=SA gf _ _ g ρ1 h1 n1 _ _ _ r hall R1 hi q2;have e2:(⟨xs⟩++#[.func (.yield w.heap.size) #[] #[]]++⟨ys⟩:Array Value)=⟨xs++([.func (.yield w.heap.size) #[] #[]]++ys)⟩:=by apply Array.ext';simp
    have hC':CallsIn (SX.fw rr) 0 P gf ⟨xs++([.func (.yield w.heap.size) #[] #[]]++ys)⟩ (w.alloc obj) _:=aCI (rr:=rr) hC;refine⟨{ target:= .fn (.func gf) ⟨ys⟩,args:=⟨xs⟩++#[.func (.yield w.heap.size) #[] #[]] },gf,⟨xs++([.func (.yield w.heap.size) #[] #[]]++ys)⟩,?_,?_,?_⟩
    ·have h5:resolve a.eval (rangeCall fO w.heap.size) 0=Sem.pure { target:= .fn (.func gf) ⟨ys⟩,args:=⟨xs⟩++#[.func (.yield w.heap.size) #[] #[]] }:=by
      have h6:(rangeCall fO w.heap.size).args.map a.eval=#[.func (.yield w.heap.size) #[] #[]]:=by
       simp [rangeCall,Act.eval]
      show Deferred.ofValue (a.eval fO) ((rangeCall fO w.heap.size).args.map a.eval)=_
      rw [hX,h6];rfl
     rw [h5];rfl
    ·simp only [invoke];rw [e2];exact SX.run_callFunc hcall _ _
    ·refine CallsIn.mono (R':=rangePost (SX.fw rr) 0 P w.heap.size (KQ g ρ0 ac'.ro k r) a') hC' ?_;intro e' w' hq;cases e' with
     | outgrown=>exact hq.elim
     | panicked ch'=>
      obtain⟨ch,ρ',h',nx',lg',k1,k2,k3,k4⟩:=hq;exact⟨.panic ch,ac',ρ',h',nx',lg',Rho.le_trans hle (Rho.le_trans hle1 k1),k3,hA.mono (Rho.le_trans hle1 k1),rfl,k2,k4⟩
     | returned v=>
      obtain⟨u,ρ',h',nx',lg',k1,k2,k3,k4⟩:=hq;have k5:run (.getO b _) h' nx' lg'=some r:=k4;rw [kP]at k5;obtain⟨ob,h3,n3,l3,e3,q3⟩:=cZ k5;obtain⟨y,o2,hl2,hw2,ho2,_,rfl,rfl⟩:=lL k2 e3;rw [k1 _ _ hb]at hl2;cases hl2;cases ob with
      | map=>cases q3
      | dfr=>cases q3
      | loop st p2 f2 e2 n2 ps2 sg2 bd2 d2=>
      obtain⟨rec2,rfl,s1,s2,s3,s4,s5,s6,s7⟩:=xQ ho2;have hnb:st≠ .busy:=by intro hs;subst hs;cases q3
      have q4:run (.setO b (.loop .exhausted p2 f2 e2 n2 ps2 sg2 bd2 d2) (oo (jumpX p2) fun x=>k x ac')) h3 n3 (l3++lg')=some r:=by cases st <;> first | exact(hnb rfl).elim | exact q3
      rw [sL]at q4;obtain⟨_,h4,n4,l4,e4,q5⟩:=cZ q4;have R4:=tE k2 e4 (k1 _ _ hb) (o1:= .loop { rec2 with state:= .exhausted }) ⟨rfl,s2,s3,s4,s5,s6,s7⟩
      obtain⟨x,hx,q6⟩:=bI q5;have hE2:∃ jump w4,(Instr.endLoop w.heap.size).run P w'= .ok jump w4/\jump=rec2.pending/\w4=w'.putObj w.heap.size (.loop { rec2 with state:= .exhausted }):=⟨_,_,run_endLoop hw2 (by rw [s1];exact hnb),rfl,rfl⟩
      obtain⟨jump,w4,g1,g2,g3⟩:=hE2;have hQ:∀ exi,xR ρ' x exi->KQ g ρ0 ac'.ro k r exi a' w4:=fun exi hxi=>by rw [g3];exact⟨x,ac',ρ',h4,n4,_,Rho.le_trans hle (Rho.le_trans hle1 k1),hxi,hA.mono (Rho.le_trans hle1 k1),rfl,R4,q6⟩
      rw [<- s2,<- g2]at hx;refine⟨jump,w4,g1,?_⟩;cases jump with
      | none=>cases hx;exact hQ .normal trivial
      | some c=>
       cases c with
       | ret=>cases hx;exact wpIn_ret (hQ .ret trivial)
       | exit i=>cases hx;exact wpIn_exit (hQ (.exit i) rfl)
       | _=>cases hx
 ·cases q2
theorem aHU (SA:SimA P ex) {fO:Operand} {ps:Array Tmp} {sg bd:Code} {ac:Ac} {k:KX} (hA:AcR ρ ac a) (R:Rel g ρ h nx w) (hi:r.2.nx<=g.hi) (hr:roR ρ ac.ro rr) (q:run (rangeA fO ps sg bd P ex ac k) h nx lg=some r):
 (Code.rangeFunc fO ps sg bd).wpIn (SX.fw rr) 0 P (KQ g ρ ac.ro k r) a w:=by
 obtain⟨e,n,ds,ro⟩:=ac
 obtain⟨fv,h1,q1⟩:=fH q
 have hfv:=cJ hA.env h1
 refine wpIn_rangeFunc fun fn _=>?_
 rcases iU (o:=ro) q1 with⟨hn,q2⟩ | ⟨l0,hn,q2⟩
 ·subst hn;have hrr:rr=none:=by cases rr <;> first | rfl | exact hr.elim
  subst hrr;rw [aAQ]at q2;obtain⟨b,h2,n2,l2,e2,q3⟩:=cZ q2;have hnl:=pH q3;obtain⟨rfl,hle1,R1⟩:=yG R e2 (by omega) 0 (.deferred (some [])) rfl
  generalize hρ1:ρ.ins b (w.heap.size,0)=ρ1 at hle1 R1
  have hb:ρ1 b=some (w.heap.size,0):=by rw [<- hρ1];exact Rho.ins_self
  obtain⟨df,f,args,k1,k2,k3⟩:=aEw (rr:=none) (ac:=⟨e,n, .col b :: ds,none⟩) (ac':=⟨e,n, .col b :: ds,none⟩) (a:=a) (a':={ a with defers:=[{ target:= .collected w.heap.size,args:=#[] }]++a.defers }) SA fn rfl hle1 (lP hle1 _ hfv) (hA.env.mono hle1) ⟨hA.env.mono hle1,⟨_,hb,rfl⟩,hA.ds.mono hle1⟩ hb R1 hi q3
  rw [World.size_alloc]at k1 k3;exact⟨_,_,_,df,_,f,args,_,run_enterLoop_outer fn a.tmps ps sg bd,k1,fun _ _=>trivial,k2,(fun h=>by cases h),k3⟩
 ·subst hn;have q2':run (.getO l0 _) h nx lg=some r:=q2;rw [kP]at q2';obtain⟨ob,h3,n3,l3,e3,q3⟩:=cZ q2';obtain⟨y,o2,hl2,hw2,ho2,_,rfl,rfl⟩:=lL R e3;cases ob with
  | map=>cases q3
  | dfr=>cases q3
  | loop st p2 f2 e2 n2 ps2 sg2 bd2 d2=>
  obtain⟨rec2,rfl,s1,s2,s3,s4,s5,s6,xd,s7,s8⟩:=xQ ho2;cases rr with
  | none=>exact hr.elim
  | some l0'=>
  obtain⟨y',hy',rfl⟩:=hr;rw [hl2]at hy';cases hy';obtain⟨df,f,args,k1,k2,k3⟩:=aEw (rr:=some y.1) (ac:=⟨e,n,ds,some l0⟩) (ac':=⟨e,n,ds,some l0⟩) (a:=a) (a':=a) SA fn rfl (Rho.le_refl ρ) hfv hA.env hA s7 R hi q3;rw [<- s8]at k1 k2 k3;exact⟨_,_,_,df,_,f,args,_,run_enterLoop_inner hw2 fn a.tmps ps sg bd,k1,fun _ _=>trivial,k2,(fun h=>by cases h),k3⟩
def SimD (P:Program) (ex:Ex):Prop:=∀ (id:Nat) (ops:Array Oper) (g:G) (ρ:Rho) (ac:Ac) (a:Act) (h:Tr Blk) (nx:Nat) (lg:List Fp) (w:World) (k:KX) (r:O × S) (rr:Option Nat),
 AcR ρ ac a->Rel g ρ h nx w->r.2.nx<=g.hi->roR ρ ac.ro rr->run (aEZ ops true P ex ac k) h nx lg=some r->(Code.region id ops true).wpIn (SX.fw rr) 0 P (KQ g ρ ac.ro k r) a w
def LoopS (P:Program) (ex:Ex) (m:Nat):Prop:=∀ (c:Code) (g:G) (ρ:Rho) (ac:Ac) (a:Act) (h:Tr Blk) (nx:Nat) (lg:List Fp) (w:World) (k:KX) (r:O × S) (rr:Option Nat),
 AcR ρ ac a->Rel g ρ h nx w->r.2.nx<=g.hi->roR ρ ac.ro rr->run (ex (.loop c) ac k) h nx lg=some r->Code.roundsIn (SX.fw rr) 0 P c (KQ g ρ ac.ro k r) m a w
theorem aFm {m:Nat} (LS:LoopS P ex m) {b:Code}
 (ih:∀ (g:G) (ρ:Rho) (ac:Ac) (a:Act) (h:Tr Blk) (nx:Nat) (lg:List Fp) (w:World) (k:KX) (r:O × S) (rr:Option Nat),AcR ρ ac a->Rel g ρ h nx w->r.2.nx<=g.hi->roR ρ ac.ro rr->run (nX P ex b ac k) h nx lg=some r->b.wpIn (SX.fw rr) 0 P (KQ g ρ ac.ro k r) a w)
 {ac:Ac} {k:KX} (hA:AcR ρ ac a) (R:Rel g ρ h nx w) (hi:r.2.nx<=g.hi) (hr:roR ρ ac.ro rr) (q:run (nX P ex (.loop b) ac k) h nx lg=some r):Code.roundsIn (SX.fw rr) 0 P b (KQ g ρ ac.ro k r) (m+1) a w:=by
 have q1:run (nX P ex b ac fun x=>seqX x (ex (.loop b)) k) h nx lg=some r:=q
 refine Go.wpIn_mono (ih g ρ ac a h nx lg w _ r rr hA R hi hr q1) fun exi a2 w2 hk=>?_
 obtain⟨x,ac2,ρ2,h2,nx2,lg2,m1,m2,m3,m4,m5,m6⟩:=hk
 cases x with
 | normal=>
  cases exi <;> first | exact m2.elim | skip
  have:=LS b g ρ2 ac2 a2 h2 nx2 lg2 w2 k r rr m3 m5 hi (by rw [m4];exact hr.mono m1) m6
  rw [m4]at this;exact aEU (fun _ _ _=>KQ.mono m1) m _ _ this
 | exit i=>cases exi <;> first | exact m2.elim | exact⟨.exit i,ac2,ρ2,h2,nx2,lg2,m1,m2,m3,m4,m5,m6⟩
 | ret=>cases exi <;> first | exact m2.elim | exact⟨.ret,ac2,ρ2,h2,nx2,lg2,m1,m2,m3,m4,m5,m6⟩
 | panic ch=>cases exi <;> first | exact m2.elim | exact⟨.panic ch,ac2,ρ2,h2,nx2,lg2,m1,m2,m3,m4,m5,m6⟩
theorem aE4 {m:Nat} (SC:SimC P ex) (SD:SimD P ex) (LS:LoopS P ex m) (c:Code):∀ (g:G) (ρ:Rho) (ac:Ac) (a:Act) (h:Tr Blk) (nx:Nat) (lg:List Fp) (w:World) (k:KX) (r:O × S) (rr:Option Nat),
 AcR ρ ac a->Rel g ρ h nx w->r.2.nx<=g.hi->roR ρ ac.ro rr->run (nX P ex c ac k) h nx lg=some r->c.wpIn (SX.fw rr) 0 P (KQ g ρ ac.ro k r) a w:=by
 induction c with
 | skip=>intro g ρ ac a h nx lg w k r rr hA R hi hr q;exact wpIn_skip ⟨.normal,ac,ρ,h,nx,lg,Rho.le_refl ρ,trivial,hA,rfl,R,q⟩
 | label l=>intro g ρ ac a h nx lg w k r rr hA R hi hr q;exact wpIn_label ⟨.normal,ac,ρ,h,nx,lg,Rho.le_refl ρ,trivial,hA,rfl,R,q⟩
 | exit i=>intro g ρ ac a h nx lg w k r rr hA R hi hr q;exact wpIn_exit ⟨.exit i,ac,ρ,h,nx,lg,Rho.le_refl ρ,rfl,hA,rfl,R,q⟩
 | ret=>intro g ρ ac a h nx lg w k r rr hA R hi hr q;exact wpIn_ret ⟨.ret,ac,ρ,h,nx,lg,Rho.le_refl ρ,trivial,hA,rfl,R,q⟩
 | scope b ih=>intro g ρ ac a h nx lg w k r rr hA R hi hr q;exact SW.wpIn_scope (Code.wpIn_mono (fun e a' w' hk=>by obtain⟨x,ac2,ρ2,h2,nx2,lg2,m1,m2,m3⟩:=hk;cases e <;> first | exact⟨x,ac2,ρ2,h2,nx2,lg2,m1,m2,m3⟩ | (cases x <;> exact m2.elim)) (ih g ρ ac a h nx lg w k r rr hA R hi hr q))
 | goto l=>intro g ρ ac a h nx lg w k r rr hA R hi hr q;cases q
 | refuse s=>intro g ρ ac a h nx lg w k r rr hA R hi hr q;cases q
 | region id ops draw=>
  intro g ρ ac a h nx lg w k r rr hA R hi hr q;cases draw with
  | true=>exact SD id ops g ρ ac a h nx lg w k r rr hA R hi hr q
  | false=>exact wpIn_region_list (aFS (aAS SC) (aFM SC) hi ops.toList ρ ac a h nx lg w (Rho.le_refl ρ) hA R hr q)
 | seq x y ihx ihy=>
  intro g ρ ac a h nx lg w k r rr hA R hi hr q;have q1:run (nX P ex x ac fun x=>seqX x (nX P ex y) k) h nx lg=some r:=q
  refine wpIn_seq (Go.wpIn_mono (ihx g ρ ac a h nx lg w _ r rr hA R hi hr q1) fun exi a2 w2 hk=>?_)
  obtain⟨x,ac2,ρ2,h2,nx2,lg2,m1,m2,m3,m4,m5,m6⟩:=hk;cases x with
  | normal=>
   cases exi <;> first | exact m2.elim | skip
   have:=ihy g ρ2 ac2 a2 h2 nx2 lg2 w2 k r rr m3 m5 hi (by rw [m4];exact hr.mono m1) m6
   rw [m4]at this;exact Go.wpIn_mono this fun _ _ _=>KQ.mono m1
  | exit i=>cases exi <;> first | exact m2.elim | exact⟨.exit i,ac2,ρ2,h2,nx2,lg2,m1,m2,m3,m4,m5,m6⟩
  | ret=>cases exi <;> first | exact m2.elim | exact⟨.ret,ac2,ρ2,h2,nx2,lg2,m1,m2,m3,m4,m5,m6⟩
  | panic ch=>cases exi <;> first | exact m2.elim | exact⟨.panic ch,ac2,ρ2,h2,nx2,lg2,m1,m2,m3,m4,m5,m6⟩
 | cond c x y ihx ihy=>
  intro g ρ ac a h nx lg w k r rr hA R hi hr q;obtain⟨v,hv,q1⟩:=fH q;have hx:=cJ hA.env hv;cases v with
  | bool b=>
   have hb:a.eval c= .bool b:=(a1y hx).symm;cases b with
   | true=>exact wpIn_cond_true hb (ihx g ρ ac a h nx lg w k r rr hA R hi hr q1)
   | false=>exact wpIn_cond_false hb (ihy g ρ ac a h nx lg w k r rr hA R hi hr q1)
  | _=>cases q1
 | block id b ih=>
  intro g ρ ac a h nx lg w k r rr hA R hi hr q;have q1:run (nX P ex b ac fun x=>blkX x id k) h nx lg=some r:=q
  refine wpIn_block (Go.wpIn_mono (ih g ρ ac a h nx lg w _ r rr hA R hi hr q1) fun exi a2 w2 hk=>?_)
  obtain⟨x,ac2,ρ2,h2,nx2,lg2,m1,m2,m3,m4,m5,m6⟩:=hk;cases x with
  | normal=>cases exi <;> first | exact m2.elim | exact⟨.normal,ac2,ρ2,h2,nx2,lg2,m1,m2,m3,m4,m5,m6⟩
  | ret=>cases exi <;> first | exact m2.elim | exact⟨.ret,ac2,ρ2,h2,nx2,lg2,m1,m2,m3,m4,m5,m6⟩
  | panic ch=>cases exi <;> first | exact m2.elim | exact⟨.panic ch,ac2,ρ2,h2,nx2,lg2,m1,m2,m3,m4,m5,m6⟩
  | exit i=>
   cases exi <;> first
    | exact m2.elim
    | skip
   have hii:i=_:=m2;subst hii;have q2:run (ife (Nat.beq i id) (k .normal) (k (.exit i)) ac2) h2 nx2 lg2=some r:=m6;show if i=id then _ else _
   cases hb:Nat.beq i id with
   | true=>
    rw [hb]at q2;rw [a1H (a1j hb)];exact⟨.normal,ac2,ρ2,h2,nx2,lg2,m1,trivial,m3,m4,m5,q2⟩
   | false=>
    rw [hb]at q2;rw [a1G (Nat.ne_of_beq_eq_false hb)];exact⟨.exit i,ac2,ρ2,h2,nx2,lg2,m1,rfl,m3,m4,m5,q2⟩
 | loop b ih=>intro g ρ ac a h nx lg w k r rr hA R hi hr q;exact wpIn_loop_rounds (m+1) (aFm LS ih hA R hi hr q)
 | rangeFunc f ps sg bd _ _=>intro g ρ ac a h nx lg w k r rr hA R hi hr q;exact aHU (aAS SC) hA R hi hr q
theorem aCM (SD:∀ ex,SimC P ex->SimD P ex):∀ n,SimC P (exec P n)/\LoopS P (exec P n) n
 | 0=>⟨(fun c g ρ ac a h nx lg w k r rr _ _ _ _ q=>by cases q),(fun c g ρ ac a h nx lg w k r rr _ _ _ _ q=>by cases q)⟩
 | n+1=>
  have ⟨SC,LS⟩:=aCM SD n
  ⟨fun c g ρ ac a h nx lg w k r rr hA R hi hr q=>aE4 SC (SD _ SC) LS c g ρ ac a h nx lg w k r rr hA R hi hr q,
   fun c g ρ ac a h nx lg w k r rr hA R hi hr q=>aFm LS (aE4 SC (SD _ SC) LS c) hA R hi hr q⟩
end
end
open RowKit (Below)
noncomputable section
def Sep (l k:List Fp):Prop:=∀ b i,(T l b i->¬ W k b i)/\(W l b i->¬ T k b i)
theorem Sep.symm {l k:List Fp} (h:Sep l k):Sep k l:=by grind [Sep]
theorem aCJ {f g:Fp} (h:fpAp f g=true):∀ b i,(f.t b i->¬ g.w b i)/\(f.w b i->¬ g.t b i):=by
 intro c i
 cases f with
 | cell b lo hi w=>
  cases g with
  | cell b' lo' hi' w'=>
   have h':Bool.rec (motive:=fun _=>Bool) true (Bool.rec (motive:=fun _=>Bool) (Bool.rec (motive:=fun _=>Bool) (Bool.rec (motive:=fun _=>Bool) (Bool.not w') false w) true (Nat.ble hi' lo)) true (Nat.ble hi lo')) (Nat.beq b b')=true:=h
   cases h1:Nat.beq b b' with
   | false=>
    grind [Nat.ne_of_beq_eq_false,Fp.t,Fp.w]
   | true=>
    rw [h1]at h';cases h2:Nat.ble hi lo' with
    | true=>
     have:=a1k h2
     grind [Fp.t,Fp.w]
    | false=>
     rw [h2]at h';cases h3:Nat.ble hi' lo with
     | true=>
      have:=a1k h3
      grind [Fp.t,Fp.w]
     | false=>
      rw [h3]at h';rcases w with _ | _ <;> rcases w' with _ | _
      ·grind [Fp.w]
      all_goals cases h'
  | fresh n0 n1=>
   have h':Bool.rec (motive:=fun _=>Bool) (Nat.ble n1 b) true (Nat.blt b n0)=true:=h
   have key:b<n0\/n1<=b:=by
    cases h1:Nat.blt b n0 with
    | true=>simp_all
    | false=>simp_all
   grind [Fp.t,Fp.w]
 | fresh n0 n1=>
  cases g with
  | cell b lo hi w=>
   have h':Bool.rec (motive:=fun _=>Bool) (Nat.ble n1 b) true (Nat.blt b n0)=true:=h
   have key:b<n0\/n1<=b:=by
    cases h1:Nat.blt b n0 with
    | true=>simp_all
    | false=>simp_all
   grind [Fp.t,Fp.w]
  | fresh m0 m1=>
   have h':Bool.rec (motive:=fun _=>Bool) (Nat.ble m1 n0) true (Nat.ble n1 m0)=true:=h
   have key:m1<=n0\/n1<=m0:=by
    cases h1:Nat.ble n1 m0 with
    | true=>simp_all
    | false=>simp_all
   grind [Fp.t,Fp.w]
theorem aBU (f:Fp):∀ (l:List Fp),ap1 f l=true->∀ g∈l,fpAp f g=true
 | [],_,_,hg=>by cases hg
 | g :: l,h,x,hx=>by
  have h':Bool.rec (motive:=fun _=>Bool) false (ap1 f l) (fpAp f g)=true:=h
  cases hq:fpAp f g with
  | false=>rw [hq]at h';cases h'
  | true=>
   rw [hq]at h';rcases a0S.1 hx with rfl | hx
   ·exact hq
   ·exact aBU f l h' x hx
theorem aBJ:∀ (l m:List Fp),apL l m=true->∀ f∈l,ap1 f m=true
 | [],_,_,_,hf=>by cases hf
 | f :: l,m,h,x,hx=>by
  have h':Bool.rec (motive:=fun _=>Bool) false (apL l m) (ap1 f m)=true:=h
  cases hq:ap1 f m with
  | false=>rw [hq]at h';cases h'
  | true=>
   rw [hq]at h';rcases a0S.1 hx with rfl | hx
   ·exact hq
   ·exact aBJ l m h' x hx
theorem apL_sep {l m:List Fp} (h:apL l m=true):Sep l m:=fun b i=>
 ⟨fun ⟨f,hf,t⟩ ⟨g,hg,w⟩=>(aCJ (aBU f m (aBJ l m h f hf) g hg) b i).1 t w,fun ⟨f,hf,w⟩ ⟨g,hg,t⟩=>(aCJ (aBU f m (aBJ l m h f hf) g hg) b i).2 w t⟩
theorem aBZ {anc:Nat} {lg:List Fp}:∀ {l:List (Nat × List Fp)},apart anc lg l=true->∀ p∈l,has anc p.1=true\/Sep lg p.2
 | [],_,_,hp=>by cases hp
 | q :: l,h,p,hp=>by
  have h':Bool.rec (motive:=fun _=>Bool) (Bool.rec (motive:=fun _=>Bool) false (apart anc lg l) (apL lg q.2)) (apart anc lg l) (has anc q.1)=true:=h
  cases h1:has anc q.1 with
  | true=>
   rw [h1]at h';rcases a0S.1 hp with rfl | hp
   ·exact .inl h1
   ·exact aBZ h' p hp
  | false=>
   rw [h1]at h';cases h2:apL lg q.2 with
   | false=>rw [h2]at h';cases h'
   | true=>
    rw [h2]at h';rcases a0S.1 hp with rfl | hp
    ·exact .inr (apL_sep h2)
    ·exact aBZ h' p hp
theorem commute {α β:Type} {p:Pr α} {q:Pr β} (hp:iB p) (hq:iB q) {h h1 h2:Tr Blk} {n0 n1 m0 m1:Nat} {l k:List Fp} {x:α} {y:β} (e1:p h n0=some (x,h1,n1,l)) (e2:q h1 m0=some (y,h2,m1,k)) (hs:Sep l k):
 ∃ g1 g2,q h m0=some (y,g1,m1,k)/\p g1 n0=some (x,g2,n1,l)/\∀ b i,cv g2 b i=cv h2 b i:=by
 obtain⟨g1,f1,d1⟩:=hq.loc e2 h fun b i t=>(hp.out e1 b i fun w=>(hs b i).2 w t).symm
 obtain⟨g2,f2,d2⟩:=hp.loc e1 g1 fun b i t=>d1.out b i ((hs b i).1 t)
 refine⟨g1,g2,f1,f2,fun b i=>?_⟩
 by_cases w:W l b i
 ·rw [d2.inn b i w,hq.out e2 b i ((hs b i).1 w.t)]
 ·rw [d2.out b i w];by_cases w2:W k b i
  ·exact d1.inn b i w2
  ·rw [d1.out b i w2,hq.out e2 b i w2,hp.out e1 b i w]
theorem same_run {α:Type} {p:Pr α} (hp:iB p) {h g h1:Tr Blk} {n0 n1:Nat} {l:List Fp} {x:α} (e1:p h n0=some (x,h1,n1,l)) (hs:∀ b i,cv g b i=cv h b i):∃ g1,p g n0=some (x,g1,n1,l)/\∀ b i,cv g1 b i=cv h1 b i:=by
 obtain⟨g1,f1,d1⟩:=hp.loc e1 g fun b i _=>hs b i
 refine⟨g1,f1,fun b i=>?_⟩
 by_cases w:W l b i
 ·exact d1.inn b i w
 ·rw [d1.out b i w,hp.out e1 b i w,hs b i]
end
open RowKit (Below)
noncomputable section
section
variable {P:Program} {ex:Ex} {e e':Tr V}
theorem oW:∀ {l:List Operand},(∀ x∈l,ev x e=ev x e')->evs l e=evs l e'
 | [],_=>rfl
 | x :: l,h=>by
  show(Option.rec none (fun v=>Option.rec none (fun vs=>some (v :: vs)) (evs l e)) (ev x e):Option (List V))=Option.rec none (fun v=>Option.rec none (fun vs=>some (v :: vs)) (evs l e')) (ev x e')
  rw [h x (.head _),oW fun y hy=>h y (.tail _ hy)]
theorem evO_c {x:Option Operand} (h:∀ y,x=some y->ev y e=ev y e'):evO x e=evO x e':=by
 cases x with
 | none=>rfl
 | some x=>simp only [evO,h x rfl]
theorem aCm:∀ {ps:List (Nat × Operand)} {x:Operand},x∈prt ps->x∈ps.map (·.2)
 | [],_,h=>by cases h
 | (n,y) :: ps,x,h=>by
  rcases a0S.1 h with rfl | h
  ·exact .head _
  ·exact .tail _ (aCm h)
theorem aGf {op:Op} (h:∀ x∈op.operands.toList,ev x e=ev x e'):opH op P ex e=opH op P ex e':=by
 funext k kp kd
 cases op
 case move x=>
  have h0:=h x (by simp [Op.operands])
  show mF x P ex e k kp kd=mF x P ex e' k kp kd
  simp only [mF,bZ,dM,dZ,h0]
 case assign x=>
  have h0:=h x (by simp [Op.operands])
  show mF x P ex e k kp kd=mF x P ex e' k kp kd
  simp only [mF,bZ,dM,dZ,h0]
 case pick c x y=>
  have h0:=h c (by simp [Op.operands])
  have h1:=h x (by simp [Op.operands])
  have h2:=h y (by simp [Op.operands])
  show xM c x y P ex e k kp kd=xM c x y P ex e' k kp kd
  simp only [xM,bZ,dM,dZ,h0,h1,h2]
 case load t x=>
  have h0:=h x (by simp [Op.operands])
  show yM t x P ex e k kp kd=yM t x P ex e' k kp kd
  simp only [yM,bZ,dM,dZ,h0]
 case store t x y=>
  have h0:=h x (by simp [Op.operands])
  have h1:=h y (by simp [Op.operands])
  show wA t x y P ex e k kp kd=wA t x y P ex e' k kp kd
  simp only [wA,bZ,dM,dZ,h0,h1]
 case alloc t=>
  show yX t P ex e k kp kd=yX t P ex e' k kp kd
  rfl
 case box t x=>
  have h0:=h x (by simp [Op.operands])
  show hBox t x P ex e k kp kd=hBox t x P ex e' k kp kd
  simp only [hBox,bZ,dM,dZ,h0]
 case nilCheck x=>
  have h0:=h x (by simp [Op.operands])
  show hNil x P ex e k kp kd=hNil x P ex e' k kp kd
  simp only [hNil,bZ,dM,dZ,h0]
 case binOp op t x y z=>
  have h0:=h x (by simp [Op.operands])
  have h1:=h y (by simp [Op.operands])
  show hBin op t x y P ex e k kp kd=hBin op t x y P ex e' k kp kd
  simp only [hBin,bZ,dM,dZ,h0,h1]
 case unOp op t x=>
  have h0:=h x (by simp [Op.operands])
  show hUn op t x P ex e k kp kd=hUn op t x P ex e' k kp kd
  simp only [hUn,bZ,dM,dZ,h0]
 case convert s t x=>
  have h0:=h x (by simp [Op.operands])
  show xZ s t x P ex e k kp kd=xZ s t x P ex e' k kp kd
  simp only [xZ,bZ,dM,dZ,h0]
 case makeInterface t x=>
  have h0:=h x (by simp [Op.operands])
  show hMkI t x P ex e k kp kd=hMkI t x P ex e' k kp kd
  simp only [hMkI,bZ,dM,dZ,h0]
 case makeMap t r=>
  show hMapN t r P ex e k kp kd=hMapN t r P ex e' k kp kd
  rfl
 case makeSlice t x y=>
  have h0:=h x (by simp [Op.operands])
  have h1:=h y (by simp [Op.operands])
  show hMks t x y P ex e k kp kd=hMks t x y P ex e' k kp kd
  simp only [hMks,bZ,dM,dZ,h0,h1]
 case fieldAddr t x f=>
  have h0:=h x (by simp [Op.operands])
  show xU t x f P ex e k kp kd=xU t x f P ex e' k kp kd
  simp only [xU,bZ,dM,dZ,h0]
 case field t x f=>
  have h0:=h x (by simp [Op.operands])
  show yB t x f P ex e k kp kd=yB t x f P ex e' k kp kd
  simp only [yB,bZ,dM,dZ,h0]
 case indexAddr t x i=>
  have h0:=h x (by simp [Op.operands])
  have h1:=h i (by simp [Op.operands])
  show xS t x i P ex e k kp kd=xS t x i P ex e' k kp kd
  simp only [xS,bZ,dM,dZ,h0,h1]
 case index t x i=>
  have h0:=h x (by simp [Op.operands])
  have h1:=h i (by simp [Op.operands])
  show hIdx t x i P ex e k kp kd=hIdx t x i P ex e' k kp kd
  simp only [hIdx,bZ,dM,dZ,h0,h1]
 case lookup t x y ok=>
  have h0:=h x (by simp [Op.operands])
  have h1:=h y (by simp [Op.operands])
  show uP t x y ok P ex e k kp kd=uP t x y ok P ex e' k kp kd
  simp only [uP,bZ,dM,dZ,h0,h1]
 case mapUpdate t x y z=>
  have h0:=h x (by simp [Op.operands])
  have h1:=h y (by simp [Op.operands])
  have h2:=h z (by simp [Op.operands])
  show hUpd t x y z P ex e k kp kd=hUpd t x y z P ex e' k kp kd
  simp only [hUpd,bZ,dM,dZ,h0,h1,h2]
 case insert t x y z=>
  have h0:=h x (by simp [Op.operands])
  have h1:=h y (by simp [Op.operands])
  have h2:=h z (by simp [Op.operands])
  show hUpd t x y z P ex e k kp kd=hUpd t x y z P ex e' k kp kd
  simp only [hUpd,bZ,dM,dZ,h0,h1,h2]
 case typeAssert x t T ok=>
  have h0:=h x (by simp [Op.operands])
  show hTa x t T ok P ex e k kp kd=hTa x t T ok P ex e' k kp kd
  simp only [hTa,bZ,dM,dZ,h0]
 case extract x i=>
  have h0:=h x (by simp [Op.operands])
  show hExt x i P ex e k kp kd=hExt x i P ex e' k kp kd
  simp only [hExt,bZ,dM,dZ,h0]
 case panic x=>
  have h0:=h x (by simp [Op.operands])
  show aAB x P ex e k kp kd=aAB x P ex e' k kp kd
  simp only [aAB,bZ,dM,dZ,h0]
 case build t ps=>
  have h0:evs (prt ps.toList) e=evs (prt ps.toList) e':=oW fun x hx=>h x (by simpa [Op.operands] using aCm hx)
  show yD t ps P ex e k kp kd=yD t ps P ex e' k kp kd
  simp only [yD,dV,h0]
 case buildSlice t n ps=>
  have h0:evs (prt ps.toList) e=evs (prt ps.toList) e':=oW fun x hx=>h x (by simpa [Op.operands] using aCm hx)
  show uN t n ps P ex e k kp kd=uN t n ps P ex e' k kp kd
  simp only [uN,dV,h0]
 case makeFunc fn f c=>
  have h0:evs f.toList e=evs f.toList e':=by grind [oW,Op.operands]
  have h1:evs c.toList e=evs c.toList e':=by grind [oW,Op.operands]
  show hMkF fn f c P ex e k kp kd=hMkF fn f c P ex e' k kp kd
  simp only [hMkF,dV,h0,h1]
 case slice t x lo hi mx=>
  have h0:=h x (by simp [Op.operands])
  have h1:evO lo e=evO lo e':=by grind [evO_c,Op.operands]
  have h2:evO hi e=evO hi e':=by grind [evO_c,Op.operands]
  have h3:evO mx e=evO mx e':=by grind [evO_c,Op.operands]
  show uV t x lo hi mx P ex e k kp kd=uV t x lo hi mx P ex e' k kp kd
  simp only [uV,bZ,xN,h0,h1,h2,h3]
 case call c=>
  have ha:evs c.args.toList e=evs c.args.toList e':=oW fun x hx=>h x (by
   have:x∈c.operands.toList:=by grind [Call.operands]
   simpa [Op.operands] using this)
  show hCal c.callee c P ex e k kp kd=hCal c.callee c P ex e' k kp kd
  cases hc:c.callee with
  | value f=>
   have h0:=h f (by have:f∈c.operands.toList:=by grind [Call.operands]
                    simpa [Op.operands] using this)
   show zU f c P ex e k kp kd=zU f c P ex e' k kp kd
   simp only [zU,bZ,dV,h0,ha]
  | invoke x name=>
   have h0:=h x (by have:x∈c.operands.toList:=by grind [Call.operands]
                    simpa [Op.operands] using this)
   show hInv x name c P ex e k kp kd=hInv x name c P ex e' k kp kd
   simp only [hInv,bZ,dV,h0,ha]
  | builtin b=>
   cases b
   case append=>show uY c P ex e k kp kd=uY c P ex e' k kp kd;simp only [uY,dV,ha]
   case len=>show hLen c P ex e k kp kd=hLen c P ex e' k kp kd;simp only [hLen,dV,ha]
   case min=>show hMm true c P ex e k kp kd=hMm true c P ex e' k kp kd;simp only [hMm,dV,ha]
   case max=>show hMm false c P ex e k kp kd=hMm false c P ex e' k kp kd;simp only [hMm,dV,ha]
   case clear=>show wQ c P ex e k kp kd=wQ c P ex e' k kp kd;simp only [wQ,dV,ha]
   case unsafeSliceData=>show hSlD c P ex e k kp kd=hSlD c P ex e' k kp kd;simp only [hSlD,dV,ha]
   case unsafeString=>show vI c P ex e k kp kd=vI c P ex e' k kp kd;simp only [vI,dV,ha]
   all_goals rfl
 case defer c=>
  have ha:evs c.args.toList e=evs c.args.toList e':=oW fun x hx=>h x (by
   have:x∈c.operands.toList:=by grind [Call.operands]
   simpa [Op.operands] using this)
  show sQ c P ex e k kp kd=sQ c P ex e' k kp kd
  cases hc:c.callee with
  | value f=>
   have h0:=h f (by have:f∈c.operands.toList:=by grind [Call.operands]
                    simpa [Op.operands] using this)
   unfold sQ;rw [hc];show bZ f e _=bZ f e' _
   simp only [bZ,dV,h0,ha]
  | invoke x name=>unfold sQ;rw [hc];rfl
  | builtin b=>unfold sQ;rw [hc];rfl
 all_goals rfl
end
end
open RowKit (Below)
noncomputable section
def gdV (w:Bool) (v:Option V):Option Bool:=match v with
 | none=>none
 | some (.bool b)=>some (b==w)
 | some _=>some false
def gd (all:List Oper) (g:Option (Nat × Bool)) (e:Tr V):Option Bool:=match g with
 | none=>some true
 | some p=>match jU all p.1 with
  | none=>some false
  | some d=>gdV p.2 (at_ e d)
def rdS (all:List Oper) (o:Oper) (t:Nat):Prop:= .tmp t∈o.op.operands.toList\/∃ j w,o.guard=some (j,w)/\jU all j=some t
def ins (d:Option Nat) (v:V) (e:Tr V):Tr V:=match d with
 | none=>e
 | some t=>pu e t (some v)
theorem mU {d:Option Nat} {v:V} {e:Tr V} {t:Nat}:at_ (ins d v e) t=if d=some t then some v else at_ e t:=by
 cases d with
 | none=>rfl
 | some s=>
  show at_ (pu e s (some v)) t=_
  grind [fG]
theorem aBy {all:List Oper} {o:Oper} {e e':Tr V} (h:∀ t,rdS all o t->at_ e t=at_ e' t):gd all o.guard e=gd all o.guard e':=by
 cases hg:o.guard with
 | none=>rfl
 | some p=>
  obtain⟨j,w⟩:=p;cases hd:jU all j with
  | none=>simp only [gd,hd]
  | some d=>simp only [gd,hd,h d (.inr ⟨j,w,hg,hd⟩)]
theorem aCr {P:Program} {ex:Ex} {all:List Oper} {o:Oper} {e e':Tr V} (h:∀ t,rdS all o t->at_ e t=at_ e' t):opH o.op P ex e=opH o.op P ex e':=aGf fun x hx=>by
 cases x with
 | tmp t=>exact h t (.inl hx)
 | const c=>rfl
 | global _=>rfl
 | func _=>rfl
theorem opG_gd {all:List Oper} {g:Option (Nat × Bool)} {e:Tr V} {yes no:AI} {h:Tr Blk} {nx:Nat} {lg:List Fp} {r:O × S} (q:run (opG g all e yes no) h nx lg=some r):(gd all g e=some true/\run yes h nx lg=some r)\/(gd all g e=some false/\run no h nx lg=some r):=by
 cases g with
 | none=>exact .inl ⟨rfl,q⟩
 | some p=>
  obtain⟨j,w⟩:=p;have q1:run (aB1 all j w e yes no) h nx lg=some r:=q;rcases iU (o:=jU all j) q1 with⟨hd,q2⟩ | ⟨d,hd,q2⟩
  ·grind [gd]
  ·obtain⟨v,hv,q3⟩:=bI (o:=gp e (pa d)) q2;have hv':at_ e d=some v:=hv;have hgd:gd all (some (j,w)) e=gdV w (some v):=by simp only [gd,hd,hv']
   rw [hgd];rcases aCL q3 with⟨b,rfl,q4⟩ | ⟨hnb,q4⟩
   ·cases b <;> cases w <;> first
     | exact .inl ⟨rfl,q4⟩
     | exact .inr ⟨rfl,q4⟩
   ·right
    refine⟨?_,q4⟩;cases v <;> first
     | exact(hnb _ rfl).elim
     | rfl
theorem aHN {all:Array Oper} {o:Oper} {e:Tr V} {n:Nat} {a:Act} {ρ:Rho} {b:Bool} (he:bN ρ e n a.tmps) (h:gd all.toList o.guard e=some b):Region.wanted o (yielded all a.tmps)=b:=by
 cases hg:o.guard with
 | none=>rw [hg]at h;cases h;simp [Region.wanted,hg]
 | some p=>
  obtain⟨j,w⟩:=p;rw [hg]at h;have hw:Region.wanted o (yielded all a.tmps)=(yielded all a.tmps j==some w):=by simp [Region.wanted,hg]
  rw [hw];cases hd:jU all.toList j with
  | none=>
   simp only [gd,hd]at h;cases h
   rw [aAR,a0d]at hd
   grind [yielded]
  | some d=>
   have hgd:gd all.toList (some (j,w)) e=gdV w (at_ e d):=by simp only [gd,hd]
   rw [hgd]at h;rw [aAR,a0d]at hd;cases hv:at_ e d with
   | none=>rw [hv]at h;cases h
   | some v=>
    rw [hv]at h;obtain⟨x,hx1,hx2⟩:=he.get d v hv;by_cases hb:∃ c,v= .bool c
    ·obtain⟨c,rfl⟩:=hb;cases hx2;cases h
     grind [yielded]
    ·have hnb:∀ c,v≠ .bool c:=fun c hc=>hb ⟨c,hc⟩
     have hnx:=aD3 hnb hx2;have hy:yielded all a.tmps j=none:=by
      grind [yielded]
     rw [hy];cases v <;> first
      | exact(hnb _ rfl).elim
      | (cases h;rfl)
def pOp (b:Bool) (p:St):Pr (V × List Fp):=match b with
 | true=>kF p
 | false=>fun h nx=>some ((dY,[]),h,nx,[])
theorem zB {b:Bool} {p:St} (hp:Loc p):iB (pOp b p):=by
 cases b with
 | true=>exact aDg hp
 | false=>
  refine⟨fun {h nx x h1 n1 l} e=>?_,fun {h nx x h1 n1 l} e b i hn=>?_,fun {h nx x h1 n1 l} e g ha=>?_⟩
  ·cases e;exact a1l _
  ·cases e;rfl
  ·cases e;exact⟨g,rfl,(by grind [W]),fun b i _=>rfl⟩
section
variable (all:List Oper) (P:Program) (ex:Ex)
def St1 (o:Oper) (n0 n1:Nat) (L:List Fp) (h:Tr Blk) (e:Tr V) (h':Tr Blk) (e':Tr V):Prop:=
 ∃ b v,gd all o.guard e=some b/\pOp b (run (opH o.op P ex e retV noPan noDfr)) h n0=some ((v,L),h',n1,L)/\e'=ins o.dst v e
structure xI (o o':Oper) (L L':List Fp):Prop where
 sep:Sep L L'
 r1:∀ t,rdS all o t->o'.dst≠some t
 r2:∀ t,rdS all o' t->o.dst≠some t
 w:∀ t,o.dst=some t->o'.dst≠some t
def Eqv (h:Tr Blk) (e:Tr V) (g:Tr Blk) (f:Tr V):Prop:=(∀ b i,cv g b i=cv h b i)/\∀ t,at_ f t=at_ e t
end
section
variable {all:List Oper} {P:Program} {ex:Ex} {o o':Oper} {L L':List Fp} {n0 n1 m0 m1:Nat} {h h1 h2 g:Tr Blk} {e e1 e2 f:Tr V}
theorem Eqv.refl:Eqv h e h e:=by grind [Eqv]
theorem Eqv.trans (p:Eqv h e h1 e1) (q:Eqv h1 e1 h2 e2):Eqv h e h2 e2:=by grind [Eqv]
theorem aHy (s1:St1 all P ex o n0 n1 L h e h1 e1) (s2:St1 all P ex o' m0 m1 L' h1 e1 h2 e2) (I:xI all o o' L L'):
 ∃ g1 f1 g2 f2,St1 all P ex o' m0 m1 L' h e g1 f1/\St1 all P ex o n0 n1 L g1 f1 g2 f2/\Eqv h2 e2 g2 f2:=by
 obtain⟨b,v,k1,k2,rfl⟩:=s1
 obtain⟨b',v',k3,k4,rfl⟩:=s2
 have c1:∀ t,rdS all o' t->at_ (ins o.dst v e) t=at_ e t:=fun t ht=>by rw [mU,a1G (I.r2 t ht)]
 have c2:∀ t,rdS all o t->at_ e t=at_ (ins o'.dst v' e) t:=fun t ht=>by rw [mU,a1G (I.r1 t ht)]
 rw [aBy c1]at k3
 rw [aCr (P:=P) (ex:=ex) c1]at k4
 obtain⟨g1,g2,j1,j2,j3⟩:=commute (zB (gM _)) (zB (gM _)) k2 k4 I.sep
 rw [aBy c2]at k1
 rw [aCr (P:=P) (ex:=ex) c2]at j2
 refine⟨g1,_,g2,_,⟨b',v',k3,j1,rfl⟩,⟨b,v,k1,j2,rfl⟩,j3,fun t=>?_⟩
 rw [mU,mU,mU,mU]
 grind [xI.w]
theorem st_eqv (s:St1 all P ex o n0 n1 L h e h1 e1) (q:Eqv h e g f):∃ g1 f1,St1 all P ex o n0 n1 L g f g1 f1/\Eqv h1 e1 g1 f1:=by
 obtain⟨b,v,k1,k2,rfl⟩:=s
 have c1:∀ t,rdS all o t->at_ e t=at_ f t:=fun t _=>(q.2 t).symm
 rw [aBy c1]at k1
 rw [aCr (P:=P) (ex:=ex) c1]at k2
 obtain⟨g1,j1,j2⟩:=same_run (zB (gM _)) k2 q.1
 exact⟨g1,_,⟨b,v,k1,j1,rfl⟩,j2,fun t=>by rw [mU,mU,q.2 t]⟩
end
end
open RowKit (Below)
noncomputable section
section
variable (P:Program) (ex:Ex) (ops:Array Oper) (N0:Nat->Nat) (L:Nat->List Fp) (hN:Tr Blk) (eN:Tr V)
def Ok:Nat->Array Bool->Tr Blk->Tr V->Prop
 | 0,listed,h,e=>Region.ready .any ops listed=[]/\Eqv hN eN h e
 | f+1,listed,h,e=>(Region.ready .any ops listed=[]->Eqv hN eN h e)/\∀ i∈Region.ready .any ops listed,∀ o,ops[i]? =some o ->
  ∃ h' e',St1 ops.toList P ex o (N0 i) (N0 (i+1)) (L i) h e h' e'/\Ok f (listed.setIfInBounds i true) h' e'
end
section
variable {P:Program} {ex:Ex} {ops:Array Oper} {N0:Nat->Nat} {L:Nat->List Fp} {hN:Tr Blk} {eN:Tr V} {anc:Nat->Nat->Prop}
theorem Ok.eqv:∀ (f:Nat) (listed:Array Bool) {h g:Tr Blk} {e e':Tr V},Ok P ex ops N0 L hN eN f listed h e->Eqv h e g e'->Ok P ex ops N0 L hN eN f listed g e'
 | 0,_,_,_,_,_,k,q=>⟨k.1,k.2.trans q⟩
 | f+1,listed,_,_,_,_,k,q=>⟨fun hr=>(k.1 hr).trans q,fun i hi o ho=>by
  obtain⟨h',e',s,k2⟩:=k.2 i hi o ho;obtain⟨g1,f1,s2,q2⟩:=st_eqv s q;exact⟨g1,f1,s2,Ok.eqv f _ k2 q2⟩⟩
theorem aEN {l:Array Bool} {i:Nat} (h:l.getD i true=false) (k:l.getD i false=true):False:=by
 grind
def kH (anc:Nat->Nat->Prop) (listed:Array Bool):Prop:=∀ m,listed.getD m false=true->∀ q,anc m q->listed.getD q false=true
def xD (ops:Array Oper) (anc:Nat->Nat->Prop):Prop:=∀ (j:Nat) (oj:Oper),ops[j]? =some oj->∀ q,anc j q->∃ e∈oj.after,Region.binds .any e=true/\(q=e.on\/anc e.on q)
theorem aBs (ha:xD ops anc) {listed:Array Bool} (hc:kH anc listed) {j:Nat} (hj:j∈Region.ready .any ops listed) {q:Nat} (hq:anc j q):listed.getD q false=true:=by
 obtain⟨_,oj,hoj,hall⟩:=mem_ready.1 hj
 obtain⟨e,he,hb,rfl | h2⟩:=ha j oj hoj q hq
 ·exact hall e he hb
 ·exact hc _ (hall e he hb) q h2
theorem kH.set (ha:xD ops anc) {listed:Array Bool} (hc:kH anc listed) {j:Nat} (hj:j∈Region.ready .any ops listed):kH anc (listed.setIfInBounds j true):=fun m hm q hq=>by
 refine getD_set_true ?_
 by_cases hjm:j=m
 ·grind [aBs]
 ·rw [getD_set_ne false hjm]at hm;exact hc m hm q hq
theorem aDD (ha:xD ops anc) (hind:∀ (i j:Nat) (oi oj:Oper),ops[i]? =some oi->ops[j]? =some oj->i≠j->¬ anc j i->¬ anc i j->xI ops.toList oi oj (L i) (L j)) {i:Nat} {oi:Oper} (hi:ops[i]? =some oi):
 ∀ (f:Nat) (listed:Array Bool) (h:Tr Blk) (e:Tr V) (h1:Tr Blk) (e1:Tr V),kH anc listed->i∈Region.ready .any ops listed->St1 ops.toList P ex oi (N0 i) (N0 (i+1)) (L i) h e h1 e1 ->
  Ok P ex ops N0 L hN eN f (listed.setIfInBounds i true) h1 e1->Ok P ex ops N0 L hN eN (f+1) listed h e
 | 0,listed,h,e,h1,e1,hc,hr,s,H=>⟨(by grind),fun j hj oj hoj=>by
  by_cases hji:j=i
  ·grind
  ·have:=ready_mono hj hji;rw [H.1]at this;cases this⟩
 | f+1,listed,h,e,h1,e1,hc,hr,s,H=>⟨(by grind),fun j hj oj hoj=>by
  by_cases hji:j=i
  ·grind
  ·obtain⟨h2,e2,s2,k2⟩:=H.2 j (ready_mono hj hji) oj hoj;have nji:¬ anc j i:=fun hq=>aEN (mem_ready.1 hr).1 (aBs ha hc hj hq)
   have nij:¬ anc i j:=fun hq=>aEN (mem_ready.1 hj).1 (aBs ha hc hr hq)
   obtain⟨g1,f1,g2,f2,t1,t2,t3⟩:=aHy s s2 (by grind)
   refine⟨g1,f1,t1,aDD ha hind hi f (listed.setIfInBounds j true) g1 f1 g2 f2 (hc.set ha hj) (ready_mono hr (Ne.symm hji)) t2 ?_⟩;rw [Array.setIfInBounds_comm _ _ hji];exact Ok.eqv f _ k2 t3⟩
def upTo (n:Nat):Nat->Array Bool
 | 0=>Array.replicate n false
 | k+1=>(upTo n k).setIfInBounds k true
theorem vC {n:Nat} (d:Bool):∀ (k:Nat),k<=n->∀ j,(upTo n k).getD j d=if j<k then true else if j<n then false else d
 | 0,_,j=>by
  show(Array.replicate n false).getD j d=_
  simp_all [Array.getD]
 | k+1,hk,j=>by
  show((upTo n k).setIfInBounds k true).getD j d=_
  by_cases h:k=j
  ·subst h;have hs:∀ m,(upTo n m).size=n:=fun m=>by induction m with
    | zero=>simp [upTo]
    | succ m ih=>simp [upTo,ih]
   have:=hs k;simp [a0a,this,show k<n from hk]
  ·rw [getD_set_ne d h,vC d k (by omega) j]
   grind
theorem ok_all (ha:xD ops anc) (hlt:∀ i q,anc i q->q<i) (hed:∀ (i:Nat) (o:Oper),ops[i]? =some o->∀ e∈o.after,Region.binds .any e=true->e.on<i)
 (hind:∀ (i j:Nat) (oi oj:Oper),ops[i]? =some oi->ops[j]? =some oj->i≠j->¬ anc j i->¬ anc i j->xI ops.toList oi oj (L i) (L j)) (hs:Nat->Tr Blk) (es:Nat->Tr V)
 (hst:∀ (i:Nat) (o:Oper),ops[i]? =some o->St1 ops.toList P ex o (N0 i) (N0 (i+1)) (L i) (hs i) (es i) (hs (i+1)) (es (i+1))):
 ∀ (m k:Nat),k+m=ops.size->Ok P ex ops N0 L (hs ops.size) (es ops.size) m (upTo ops.size k) (hs k) (es k)
 | 0,k,hk=>by
  have:k=ops.size:=by omega
  subst this;refine⟨List.eq_nil_iff_forall_not_mem.2 fun j hj=>?_,Eqv.refl⟩
  obtain⟨h0,o,ho,_⟩:=mem_ready.1 hj;have hj:j<ops.size:=(a0b.1 ho).1;rw [vC true _ (a1l _),a1H hj]at h0;cases h0
 | m+1,k,hk=>by
  have hkl:k<ops.size:=by omega
  have ho:ops[k]? =some ops[k]:=Array.getElem?_eq_getElem hkl;refine aDD ha hind ho m _ _ _ _ _ (fun q hq p hp=>?_) (mem_ready.2 ⟨?_,_,ho,fun e he hb=>?_⟩) (hst k _ ho) (ok_all ha hlt hed hind hs es hst m (k+1) (by omega))
  ·rw [vC false _ (by omega)]at hq ⊢
   grind
  ·rw [vC true _ (by omega),a1G (by omega),a1H hkl]
  ·rw [vC false _ (by omega),a1H (hed k _ ho e he hb)]
end
end
open RowKit (Below)
noncomputable section
section
variable {P:Program} {ex:Ex} {ops:Array Oper} {N0:Nat->Nat} {L:Nat->List Fp} {hN:Tr Blk} {eN:Tr V} {g:G} {ρ0:Rho} {n:Nat} {ds:List Df} {ro rr:Option Nat} {k:KX} {lgN:List Fp} {r:O × S}
theorem cut_inv {p:St} {h h1:Tr Blk} {nx n1:Nat} {v:V} {l l':List Fp} (e:kF p h nx=some ((v,l),h1,n1,l')):∃ lg,p h nx []=some (.val v,⟨h1,n1,lg⟩):=by
 unfold kF at e
 split at e
 ·rename_i v s hs;cases e;exact⟨_,hs⟩
 ·cases e
theorem bN.ins {ρ:Rho} {e:Tr V} {a:Act} {o:Oper} (he:bN ρ e n a.tmps) (hd:∀ d,o.dst=some d->d<n) {v:V} {x:Value} (hv:tv ρ v=some x):bN ρ (BX.ins o.dst v e) n (a.put o.dst x).tmps:=by
 cases hq:o.dst with
 | none=>exact he
 | some t=>exact he.put (hd t hq) hv
structure DInv (ops:Array Oper) (N0:Nat->Nat) (g:G) (ρ0:Rho) (n:Nat) (ds:List Df) (listed:Array Bool) (ρ:Rho) (h:Tr Blk) (e:Tr V) (a:Act) (w:World):Prop where
 env:bN ρ e n a.tmps
 dfs:kD ρ ds a.defers
 core:Rel ⟨g.w,0,0,ρ⟩ ρ h 0 w
 none:∀ j,j<ops.size->listed.getD j true=false->∀ b,N0 j<=b->b<N0 (j+1)->ρ b=Option.none
 rest:∀ b,N0 ops.size<=b->b<g.hi->ρ b=Option.none
 le:g.ρ.le ρ
 le0:ρ0.le ρ
 out:∀ b,b<g.lo\/g.hi<=b->ρ b=g.ρ b
theorem ok_wp (SA:SimA P ex) (SY:SimY P ex) (hmono:∀ i j,i<=j->N0 i<=N0 j) (hlo:g.lo<=N0 0) (hhi:N0 ops.size<=g.hi) (hdst:∀ (i:Nat) (o:Oper),ops[i]? =some o->∀ d,o.dst=some d->d<n)
 (hend:run (k .normal ⟨eN,n,ds,ro⟩) hN (N0 ops.size) lgN=some r):∀ (f:Nat) (listed:Array Bool) (ρ:Rho) (h:Tr Blk) (e:Tr V) (a:Act) (w:World),DInv ops N0 g ρ0 n ds listed ρ h e a w->Ok P ex ops N0 L hN eN f listed h e ->
  wpAnyIn (SX.fw rr) 0 P .any ops (KQ g ρ0 ro k r) f listed a w:=by
 have done:∀ {listed:Array Bool} {ρ:Rho} {h:Tr Blk} {e:Tr V} {a:Act} {w:World},DInv ops N0 g ρ0 n ds listed ρ h e a w->Eqv hN eN h e->KQ g ρ0 ro k r .normal a w:=by
  intro listed ρ h e a w D q;have hat:∀ b,at_ hN b=at_ h b:=fun b=>cvB_ext fun i=>(q.1 b i).symm
  refine⟨.normal,⟨eN,n,ds,ro⟩,ρ,hN,N0 ops.size,lgN,D.le0,trivial,⟨⟨D.env.size,fun t v ht=>D.env.get t v (by rw [q.2 t];exact ht)⟩,D.dfs⟩,rfl,?_,hend⟩
  have R:=D.core.ext hat;exact⟨R.blk,R.inj,R.new,R.below,a1m hlo (hmono _ _ (a1r _)),D.rest,D.le,D.out⟩
 have step:∀ {f:Nat} (ih:∀ (listed:Array Bool) (ρ:Rho) (h:Tr Blk) (e:Tr V) (a:Act) (w:World),DInv ops N0 g ρ0 n ds listed ρ h e a w->Ok P ex ops N0 L hN eN f listed h e->wpAnyIn (SX.fw rr) 0 P .any ops (KQ g ρ0 ro k r) f listed a w)
  {listed:Array Bool} {ρ:Rho} {h:Tr Blk} {e:Tr V} {a:Act} {w:World} {i:Nat} {o:Oper} {h':Tr Blk} {e':Tr V},DInv ops N0 g ρ0 n ds listed ρ h e a w->i∈Region.ready .any ops listed->ops[i]? =some o ->
  St1 ops.toList P ex o (N0 i) (N0 (i+1)) (L i) h e h' e'->Ok P ex ops N0 L hN eN f (listed.setIfInBounds i true) h' e'->wpOpIn (SX.fw rr) 0 P ops (KQ g ρ0 ro k r) i (wpAnyIn (SX.fw rr) 0 P .any ops (KQ g ρ0 ro k r) f (listed.setIfInBounds i true)) a w:=by
  intro f ih listed ρ h e a w i o h' e' D hr ho s K;have hil:i<ops.size:=(a0b.1 ho).1;obtain⟨b,v,k1,k2,rfl⟩:=s;have hw:=aHN D.env k1;have hun:∀ j,(listed.setIfInBounds i true).getD j true=false->listed.getD j true=false/\j≠i:=fun j hj=>by
   by_cases hji:i=j
   ·simp_all
   simp_all [Ne.symm]
  unfold wpOpIn;rw [ho];simp only
  cases b with
  | true=>
   rw [a1H hw];obtain⟨lg,q⟩:=cut_inv k2;have R:Rel ⟨g.w,N0 i,N0 (i+1),ρ⟩ ρ h (N0 i) w:=⟨D.core.blk,D.core.inj,D.core.new,D.core.below,a1l _,D.none i hil (mem_ready.1 hr).1,Rho.le_refl ρ,fun _ _=>rfl⟩
   refine op_sim SA SY D.env R (a1l _) q (fun v' x ρ' h2 n2 l2 w' m1 m2 m3 m4=>?_) (fun ch ch' ρ' h2 n2 l2 w' m1 m2 m3 m4=>by cases m4) (fun d d' l2 m1 m2=>by cases m2)
   have m4':some ((.val v':O),(⟨h2,n2,l2⟩:S))=some (.val v,⟨h',N0 (i+1),lg⟩):=m4;cases m4';refine ih _ ρ' _ _ _ _ ⟨(D.env.mono m1).ins (hdst i o ho) m3,?_,⟨m2.blk,m2.inj,m2.new,m2.below,a1l _,(by grind),Rho.le_refl _,fun _ _=>rfl⟩,fun j hj hjl b hb1 hb2=>?_,fun b hb1 hb2=>?_,Rho.le_trans D.le m1,Rho.le_trans D.le0 m1,fun b hb=>?_⟩ K
   ·have:=D.dfs.mono m1;cases o.dst <;> exact this
   ·obtain⟨h3,h4⟩:=hun j hjl;rw [m2.out b ?_]
    ·grind [DInv.none]
    grind [_root_.Nat.le_trans]
   ·rw [m2.out b (.inr (a1m (hmono _ _ hil) hb1))];exact D.rest b hb1 hb2
   ·rw [m2.out b ?_]
    ·exact D.out b hb
    grind [_root_.Nat.le_trans]
  | false=>
   rw [a1G (by rw [hw];simp)];have k3:some (((dY,[]),h,N0 i,[]):(V × List Fp) × Tr Blk × Nat × List Fp)=some ((v,L i),h',N0 (i+1),L i):=k2;simp only [a1z,Prod.mk.injEq]at k3;obtain⟨⟨rfl,_⟩,rfl,_,_⟩:=k3;refine⟨fun _ _=>a1I,ih _ ρ _ _ _ _ ⟨D.env.ins (hdst i o ho) rfl,?_,D.core,(by grind [DInv.none]),D.rest,D.le,D.le0,D.out⟩ K⟩
   have:=D.dfs;cases o.dst <;> exact this
 intro f
 induction f with
 | zero=>intro listed ρ h e a w D K;exact⟨K.1,done D K.2⟩
 | succ f ih=>
  intro listed ρ h e a w D K;refine⟨fun hr=>done D (K.1 hr),fun i hi=>?_⟩
  obtain⟨_,o,ho,_⟩:=mem_ready.1 hi;obtain⟨h',e',s,K2⟩:=K.2 i hi o ho
  grind
end
end
open RowKit (Below)
noncomputable section
section
variable {all:List Oper} {P:Program} {ex:Ex} {n:Nat} {ds:List Df} {ro:Option Nat} {k:KX} {r:O × S}
theorem aFE {d:Option Nat} {v:V} {e:Tr V} {k:Tr V->AI} {h:Tr Blk} {nx:Nat} {lg:List Fp} (q:run (insE d v e n k) h nx lg=some r):(∀ t,d=some t->t<n)/\run (k (ins d v e)) h nx lg=some r:=by
 cases d with
 | none=>exact⟨(fun t ht=>by cases ht),q⟩
 | some t=>
  have q':run (Bool.rec .fail (pp e (some v) (pa t) k) (Nat.blt t n):AI) h nx lg=some r:=q;cases hb:Nat.blt t n with
  | false=>rw [hb]at q';cases q'
  | true=>
   rw [hb]at q';have q2:run (pp e (some v) (pa t) k) h nx lg=some r:=q';rw [lO]at q2;rw [a1i]at hb;exact⟨(by grind),q2⟩
theorem aC8 {l:List Fp}:Sep [] l:=fun b i=>⟨(fun ⟨_,h,_⟩=>by cases h),(fun ⟨_,h,_⟩=>by cases h)⟩
theorem aF3 {l:List Fp}:Sep l []:=aC8.symm
theorem pSub_log {p:St} {h h1:Tr Blk} {nx n1:Nat} {x:V × List Fp} {l:List Fp} (e:kF p h nx=some (x,h1,n1,l)):x.2=l:=by
 unfold kF at e
 grind
def DRun (all:List Oper) (P:Program) (ex:Ex) (n:Nat) (ds:List Df) (ro:Option Nat) (k:KX) (r:O × S) (l:List Oper) (is:List Inf) (i:Nat) (lg:List (Nat × List Fp)) (e:Tr V) (h:Tr Blk) (nx:Nat):Prop:=
 ∃ (N0:Nat->Nat) (L:Nat->List Fp) (hs:Nat->Tr Blk) (es:Nat->Tr V) (lgN:List Fp),N0 i=nx/\hs i=h/\es i=e/\(∀ j,j<l.length->N0 (i+j)<=N0 (i+j+1)) /\
  (∀ (j:Nat) (o:Oper),l[j]? =some o->(∀ d,o.dst=some d->d<n)/\St1 all P ex o (N0 (i+j)) (N0 (i+j+1)) (L (i+j)) (hs (i+j)) (es (i+j)) (hs (i+j+1)) (es (i+j+1))) /\
  (∀ (j:Nat) (x:Inf),is[j]? =some x->j<l.length->(∀ p∈lg,has x.anc p.1=true\/Sep (L (i+j)) p.2)/\∀ j',j'<j->has x.anc (i+j')=true\/Sep (L (i+j)) (L (i+j'))) /\
  run (k .normal ⟨es (i+l.length),n,ds,ro⟩) (hs (i+l.length)) (N0 (i+l.length)) lgN=some r
theorem aDj:∀ (l:List Oper) (is:List Inf) (i:Nat) (lg:List (Nat × List Fp)) (e:Tr V) (h:Tr Blk) (nx:Nat) (lgr:List Fp),run (opsD all P ex l is i lg ⟨e,n,ds,ro⟩ k) h nx lgr=some r ->
 DRun all P ex n ds ro k r l is i lg e h nx
 | [],is,i,lg,e,h,nx,lgr,q=>⟨fun _=>nx,fun _=>[],fun _=>h,fun _=>e,lgr,rfl,rfl,rfl,(fun _ _=>a1l _),(fun j o ho=>by cases ho),(by grind),q⟩
 | o :: l,[],i,lg,e,h,nx,lgr,q=>by cases q
 | o :: l,x :: is,i,lg,e,h,nx,lgr,q=>by
  have q0:run (opG o.guard all e (.sub (opH o.op P ex e retV noPan noDfr) fun v m=>cB (apart x.anc m lg) (insE o.dst v e n fun e=>opsD all P ex l is (i+1) ((i,m) :: lg) ⟨e,n,ds,ro⟩ k)) (insE o.dst dY e n fun e=>opsD all P ex l is (i+1) lg ⟨e,n,ds,ro⟩ k)) h nx lgr=some r:=q
  have key:∀ (b:Bool) (v:V) (m:List Fp) (h1:Tr Blk) (n1:Nat) (lg1:List (Nat × List Fp)) (lgr1:List Fp),gd all o.guard e=some b->pOp b (run (opH o.op P ex e retV noPan noDfr)) h nx=some ((v,m),h1,n1,m)->(∀ t,o.dst=some t->t<n) ->
   (∀ p∈lg,has x.anc p.1=true\/Sep m p.2)->(∀ p∈lg,p∈lg1)->((i,m)∈lg1\/m=[])->run (opsD all P ex l is (i+1) lg1 ⟨ins o.dst v e,n,ds,ro⟩ k) h1 n1 lgr1=some r->DRun all P ex n ds ro k r (o :: l) (x :: is) i lg e h nx:=by
   intro b v m h1 n1 lg1 lgr1 hg hp hd hap hsub hmem q1;obtain⟨N',L',hs',es',lgN,a1,a2,a3,a4,a5,a6,a7⟩:=aDj l is (i+1) lg1 _ h1 n1 lgr1 q1;have ne:∀ j,i+(j+1)≠i:=fun j=>by omega
   have e1:∀ j,i+(j+1)=i+1+j:=fun j=>by omega
   have e2:∀ j,i+(j+1)+1=i+1+j+1:=fun j=>by omega
   refine⟨fun j=>if j=i then nx else N' j,fun j=>if j=i then m else L' j,fun j=>if j=i then h else hs' j,fun j=>if j=i then e else es' j,lgN,by simp,by simp,by simp,fun j hj=>?_,fun j o' ho'=>?_,fun j y hy hj=>?_,?_⟩
   ·cases j with
    | zero=>
     simp only [Nat.add_zero,a1H,a1G (show i+1≠i by omega),a1];exact(zB (gM _)).mono hp
    | succ j=>
     grind
   ·cases j with
    | zero=>
     simp only [a0A,a1z]at ho';subst ho';refine⟨hd,?_⟩
     grind [St1]
    | succ j=>
     grind
   ·cases j with
    | zero=>
     grind
    | succ j=>
     simp only [a0z]at hy;obtain⟨c1,c2⟩:=a6 j y hy (by simp at hj;omega)
     simp only [a1G (ne j)];rw [e1];refine⟨fun p hp=>c1 p (hsub p hp),fun j' hj'=>?_⟩
     cases j' with
     | zero=>
      grind [aF3]
     | succ j'=>
      grind
   grind
  rcases opG_gd q0 with⟨hg,q1⟩ | ⟨hg,q1⟩
  ·rw [aDf]at q1;obtain⟨⟨v,m⟩,h1,n1,m',p1,q2⟩:=cZ q1;have hm:m=m':=pSub_log p1;subst hm;obtain⟨hap,q3⟩:=cC q2;obtain⟨hd,q4⟩:=aFE (k:=fun e=>opsD all P ex l is (i+1) ((i,m) :: lg) ⟨e,n,ds,ro⟩ k) q3
   exact key true v m h1 n1 ((i,m) :: lg) _ hg p1 hd (aBZ hap) (fun p hp=> .tail _ hp) (.inl (.head _)) q4
  ·obtain⟨hd,q4⟩:=aFE (k:=fun e=>opsD all P ex l is (i+1) lg ⟨e,n,ds,ro⟩ k) q1
   exact key false dY [] h nx lg _ hg rfl hd (fun p _=> .inr aC8) (fun p hp=>hp) (.inr rfl) q4
end
end
open RowKit (Below)
noncomputable section
theorem sW {m i:Nat}:has m i=m.testBit i:=by
 show Nat.beq ((m >>> i) &&& 1) 1=_
 rw [Nat.and_one_is_mod,Nat.shiftRight_eq_div_pow,Nat.testBit_eq_decide_div_mod_eq]
 grind [Nat.beq]
theorem aBL {n t:Nat}:has (bit n) t=true ↔ n=t:=by
 rw [sW]
 show(1 <<< n).testBit t=true ↔ _
 grind [Nat.one_shiftLeft]
theorem rU {a b t:Nat}:has (Nat.lor a b) t=true ↔ has a t=true\/has b t=true:=by
 simp_all [sW]
theorem has_zero {t:Nat}:has 0 t=false:=by rw [sW];simp
theorem aCx {a b t:Nat} (h:dis a b=true) (ha:has a t=true) (hb:has b t=true):False:=by
 have h0:a &&& b=0:=a1j h
 rw [sW]at ha hb
 have:(a &&& b).testBit t=true:=by grind
 grind
theorem aCN:∀ {l:List Operand} {t:Nat},Operand.tmp t∈l->has (lN l) t=true
 | [],_,h=>by cases h
 | x :: l,t,h=>by
  show has (Nat.lor (opTmp x) (lN l)) t=true
  rw [rU];rcases a0S.1 h with rfl | h
  ·exact .inl (aBL.2 rfl)
  ·exact .inr (aCN h)
theorem wZ {d:Option Nat} {t:Nat} (h:d=some t):has (mS d) t=true:=by subst h;exact aBL.2 rfl
theorem has_rd {all:List Oper} {o:Oper} {t:Nat} (h:rdS all o t):has (Nat.lor (lN o.op.operands.toList) (gBit all o.guard)) t=true:=by
 rw [rU]
 rcases h with h | ⟨j,w,h1,h2⟩
 ·exact .inl (aCN h)
 ·right
  rw [h1];show has (mS (jU all j)) t=true
  exact wZ h2
theorem aBk {ds:List Nat} {n:Nat}:∀ {l:List Edge} {m:Nat},nZ ds n l=some m->(∀ e∈l,Region.binds .any e=true->e.on<n)/\∀ q,has m q=true->∃ e∈l,Region.binds .any e=true/\(q=e.on\/∃ x,ds[n - 1 - e.on]? =some x/\has x q=true)
 | [],m,h=>by
  cases h
  grind [has_zero]
 | e :: l,m,h=>by
  have h':(Option.rec none (fun m=>Bool.rec (some m) (Bool.rec none (Option.rec none (fun x=>eA (Nat.lor (Nat.lor (bit e.on) x) m) none some) (nth ds (Nat.sub (Nat.sub n 1) e.on))) (Nat.blt e.on n)) (Region.binds .any e)) (nZ ds n l):Option Nat)=some m:=h
  cases h0:nZ ds n l with
  | none=>rw [h0]at h';cases h'
  | some m0=>
   rw [h0]at h';obtain⟨i1,i2⟩:=aBk h0;cases hb:Region.binds .any e with
   | false=>
    simp_all
   | true=>
    rw [hb]at h';cases hl:Nat.blt e.on n with
    | false=>rw [hl]at h';cases h'
    | true=>
     rw [hl]at h';cases hn:nth ds (Nat.sub (Nat.sub n 1) e.on)with
     | none=>rw [hn]at h';cases h'
     | some x=>
      rw [hn]at h';have h2:eA (Nat.lor (Nat.lor (bit e.on) x) m0) none some=some m:=h';rw [vH]at h2;have hm:m=Nat.lor (Nat.lor (bit e.on) x) m0:=(a1y h2).symm;rw [a1i]at hl;refine⟨fun e' he' hb'=>?_,fun q hq=>?_⟩
      ·grind
      ·rw [hm,rU,rU,aBL]at hq
       grind [mC]
end
open RowKit (Below)
noncomputable section
theorem aCU {all:List Oper}:∀ (l:List Oper) (ds:List Nat) (nn:Nat) (k:List Inf->Option (List Inf)) {res:List Inf},infs all l ds nn k=some res->∃ xs,k xs=some res/\xs.length=l.length/\∀ (j:Nat) (o:Oper),l[j]? =some o ->
 ∃ x,xs[j]? =some x/\x.tr=Nat.lor (lN o.op.operands.toList) (gBit all o.guard)/\x.tw=mS o.dst/\∃ dsj,nZ dsj (nn+j) o.after.toList=some x.anc/\(∀ i y,i<j->xs[i]? =some y->dsj[j - 1 - i]? =some y.anc)/\∀ i:Nat,dsj[j+i]? =ds[i]?
 | [],ds,nn,k,res,h=>⟨[],h,rfl,fun j o ho=>by cases ho⟩
 | o :: l,ds,nn,k,res,h=>by
  have h':(Option.rec none (fun x=>Bool.rec none (eA (Nat.lor (lN o.op.operands.toList) (gBit all o.guard)) none fun tr=>eA (mS o.dst) none fun tw=>infs all l (x :: ds) (Nat.succ nn) fun l=>k (⟨x,tr,tw⟩ :: l)) (plain? o.op)) (nZ ds nn o.after.toList):Option (List Inf))=some res:=h
  cases ha:nZ ds nn o.after.toList with
  | none=>rw [ha]at h';cases h'
  | some x=>
   rw [ha]at h';cases hp:plain? o.op with
   | false=>rw [hp]at h';cases h'
   | true=>
    rw [hp]at h';have h2:(eA (Nat.lor (lN o.op.operands.toList) (gBit all o.guard)) none fun tr=>eA (mS o.dst) none fun tw=>infs all l (x :: ds) (Nat.succ nn) fun l=>k (⟨x,tr,tw⟩ :: l))=some res:=h'
    rw [vH,vH]at h2;obtain⟨xs,k1,k2,k3⟩:=aCU l (x :: ds) (nn+1) _ h2;refine⟨_ :: xs,k1,by simp [k2],fun j o' ho'=>?_⟩
    cases j with
    | zero=>
     simp only [a0A,a1z]at ho';subst ho';exact⟨_,rfl,rfl,rfl,ds,ha,fun i y hi=>absurd hi (Nat.not_lt_zero i),fun i=>by rw [a1q]⟩
    | succ j=>
     simp only [a0z]at ho';obtain⟨y,c1,c2,c3,dsj,c4,c5,c6⟩:=k3 j o' ho';refine⟨y,c1,c2,c3,dsj,by grind,fun i z hi hz=>?_,fun i=>?_⟩
     ·cases i with
      | zero=>
       simp only [a0A,a1z]at hz;subst hz;have:=c6 0;simpa using this
      | succ i=>
       grind
     ·have:=c6 (i+1)
      grind
def TA (x y:Inf):Prop:=dis x.tw (Nat.lor y.tr y.tw)=true/\dis y.tw x.tr=true
theorem aBj {x:Inf}:∀ (l:List Inf) (n:Nat),sB x l n=true->∀ (i:Nat) (y:Inf),l[i]? =some y->has x.anc (n - i)=true\/TA x y
 | [],_,_,_,_,h=>by cases h
 | y :: l,n,h,i,z,hz=>by
  have h':(Bool.rec (Bool.rec false (Bool.rec false (sB x l (Nat.sub n 1)) (dis y.tw x.tr)) (dis x.tw (Nat.lor y.tr y.tw))) (sB x l (Nat.sub n 1)) (has x.anc n):Bool)=true:=h;cases h1:has x.anc n with
  | true=>
   rw [h1]at h';cases i with
   | zero=>exact .inl h1
   | succ i=>
    have:=aBj l (n - 1) h' i z hz
    grind
  | false=>
   rw [h1]at h';cases h2:dis x.tw (Nat.lor y.tr y.tw)with
   | false=>rw [h2]at h';cases h'
   | true=>
    rw [h2]at h';cases h3:dis y.tw x.tr with
    | false=>rw [h3]at h';cases h'
    | true=>
     rw [h3]at h';cases i with
     | zero=>cases hz;exact .inr ⟨h2,h3⟩
     | succ i=>
      have:=aBj l (n - 1) h' i z hz
      grind
theorem aFT:∀ (l:List Inf) (n:Nat) (done:List Inf),xY l n done=true->∀ (j:Nat) (x:Inf),l[j]? =some x ->
 (∀ (i:Nat) (y:Inf),done[i]? =some y->has x.anc (n - 1 - i)=true\/TA x y)/\∀ (i:Nat) (y:Inf),i<j->l[i]? =some y->has x.anc (n+i)=true\/TA x y
 | [],_,_,_,_,_,h=>by cases h
 | x0 :: l,n,done,h,j,x,hx=>by
  have h':(Bool.rec false (xY l (Nat.succ n) (x0 :: done)) (sB x0 done (Nat.sub n 1)):Bool)=true:=h;cases h1:sB x0 done (Nat.sub n 1)with
  | false=>rw [h1]at h';cases h'
  | true=>
   rw [h1]at h';cases j with
   | zero=>cases hx;exact⟨aBj done (n - 1) h1,(by omega)⟩
   | succ j=>
    obtain⟨c1,c2⟩:=aFT l (n+1) (x0 :: done) h' j x hx;refine⟨fun i y hy=>?_,fun i y hi hy=>?_⟩
    ·grind
    ·cases i with
     | zero=>
      have:=c1 0 y hy;simpa using this
     | succ i=>
      grind
end
open RowKit (Below)
noncomputable section
section
variable {P:Program} {ex:Ex}
theorem aAW {l:List Oper} {is:List Inf} (hd:drawn l=some is):xY is 0 []=true/\is.length=l.length/\∀ (j:Nat) (o:Oper),l[j]? =some o ->
 ∃ x,is[j]? =some x/\x.tr=Nat.lor (lN o.op.operands.toList) (gBit l o.guard)/\x.tw=mS o.dst/\∃ dsj,nZ dsj j o.after.toList=some x.anc/\∀ i y,i<j->is[i]? =some y->dsj[j - 1 - i]? =some y.anc:=by
 obtain⟨xs,k1,k2,k3⟩:=aCU l [] 0 _ hd
 cases ht:xY xs 0 []with
 | false=>rw [ht]at k1;cases k1
 | true=>
  rw [ht]at k1;have:xs=is:=a1y k1
  grind
def ancR (is:List Inf) (i j:Nat):Prop:=∃ x,is[i]? =some x/\has x.anc j=true
theorem aA1 {ops:Array Oper} {is:List Inf} (hd:drawn ops.toList=some is):xD ops (ancR is)/\∀ (i:Nat) (o:Oper),ops[i]? =some o->∀ e∈o.after,Region.binds .any e=true->e.on<i:=by
 obtain⟨_,hl,hs⟩:=aAW hd
 refine⟨fun j oj hj q hq=>?_,fun i o ho e he hb=>?_⟩
 ·obtain⟨x,hx,hq⟩:=hq;obtain⟨y,c1,_,_,dsj,c4,c5⟩:=hs j oj (by grind)
  rw [hx]at c1;cases c1
  obtain⟨s1,s2⟩:=aBk c4;obtain⟨e,he,hb,h⟩:=s2 q hq;refine⟨e,by simpa using he,hb,?_⟩
  rcases h with h | ⟨m,hm,hq2⟩
  ·exact .inl h
  ·right
   grind [ancR]
 ·obtain⟨y,_,_,_,dsj,c4,_⟩:=hs i o (by grind)
  grind [aBk]
theorem drawn_lt {ops:Array Oper} {is:List Inf} (hd:drawn ops.toList=some is):∀ (i q:Nat),ancR is i q->q<i:=by
 intro i
 induction i using Nat.strongRecOn with
 | _ i ih=>
  intro q hq;have hil:i<ops.size:=by
   obtain⟨x,hx,_⟩:=hq;have h1:=(a0C.1 hx).1;have h2:=(aAW hd).2.1;simp at h2;omega
  have ho:ops[i]? =some ops[i]:=Array.getElem?_eq_getElem hil;obtain⟨e,he,hb,h⟩:=(aA1 hd).1 i _ ho q hq;have hlt:=(aA1 hd).2 i _ ho e he hb;rcases h with rfl | h
  ·exact hlt
  ·have:=ih e.on hlt q h;omega
theorem aDm {ops:Array Oper} {is:List Inf} (hd:drawn ops.toList=some is) {i j:Nat} {oi oj:Oper} (hi:ops[i]? =some oi) (hj:ops[j]? =some oj) (hlt:j<i) (hn:¬ ancR is i j):
 (∀ t,rdS ops.toList oi t->oj.dst≠some t)/\(∀ t,rdS ops.toList oj t->oi.dst≠some t)/\∀ t,oi.dst=some t->oj.dst≠some t:=by
 obtain⟨ht,hl,hs⟩:=aAW hd
 obtain⟨x,x1,x2,x3,_⟩:=hs i oi (by grind)
 obtain⟨y,y1,y2,y3,_⟩:=hs j oj (by grind)
 rcases(aFT is 0 [] ht i x x1).2 j y hlt y1 with h | ⟨h1,h2⟩
 ·rw [a1q]at h;exact(hn ⟨x,x1,h⟩).elim
 ·refine⟨fun t hr hw=>aCx h2 (by rw [y3];exact wZ hw) (by rw [x2];exact has_rd hr),fun t hr hw=>aCx h1 (by rw [x3];exact wZ hw) (rU.2 (.inl (by rw [y2];exact has_rd hr))),fun t hw hw2=>aCx h1 (by rw [x3];exact wZ hw) (rU.2 (.inr (by rw [y3];exact wZ hw2)))⟩
end
end
open RowKit (Below)
noncomputable section
section
variable {P:Program} {ex:Ex}
theorem aHh (hm:P.follows .mixedOrders=true) (SC:SimC P ex):SimD P ex:=fun id ops g ρ ac a h nx lg w k r rr hA R hi hr q=>by
 obtain⟨e,n,ds,ro⟩:=ac
 obtain⟨is,hd,q1⟩:=bI (o:=drawn ops.toList) (f:=fun is=>opsD ops.toList P ex ops.toList is 0 [] ⟨e,n,ds,ro⟩ k) q
 obtain⟨N0,L,hs,es,lgN,a1,a2,a3,a4,a5,a6,a7⟩:=aDj ops.toList is 0 [] e h nx lg q1
 simp only [a1q,a0e]at a4 a5 a6 a7
 have hend:=pH a7
 let M:Nat->Nat:=fun j=>N0 (min j ops.size)
 have hMe:∀ j,j<=ops.size->M j=N0 j:=by grind
 have hM1:∀ i,M i<=M (i+1):=fun i=>by
  by_cases hl:i<ops.size
  ·grind
  grind [Nat.min_eq_right]
 have hM:∀ i j,i<=j->M i<=M j:=fun i j hij=>by
  induction hij with
  | refl=>exact a1l _
  | step _ ih=>grind
 have hM0:M 0=nx:=by grind
 have hMN:M ops.size=N0 ops.size:=hMe _ (a1l _)
 have hhi:M ops.size<=g.hi:=by omega
 have hst:∀ (i:Nat) (o:Oper),ops[i]? =some o->St1 ops.toList P ex o (M i) (M (i+1)) (L i) (hs i) (es i) (hs (i+1)) (es (i+1)):=fun i o ho=>by
  grind
 have pair:∀ i j,j<i->i<ops.size->¬ ancR is i j->Sep (L i) (L j):=fun i j hji hl hn=>by
  have hli:i<is.length:=by have:=(aAW hd).2.1;simp at this;omega
  rcases(a6 i _ (a0B hli) hl).2 j hji with h1 | h1
  ·exact(hn ⟨_,a0B hli,h1⟩).elim
  ·exact h1
 have hind:∀ (i j:Nat) (oi oj:Oper),ops[i]? =some oi->ops[j]? =some oj->i≠j->¬ ancR is j i->¬ ancR is i j->xI ops.toList oi oj (L i) (L j):=fun i j oi oj h1 h2 hne n1 n2=>by
  have l1:i<ops.size:=(a0b.1 h1).1;have l2:j<ops.size:=(a0b.1 h2).1;rcases Nat.lt_or_gt_of_ne hne with hlt | hlt
  ·obtain⟨s1,s2,s3⟩:=aDm hd h2 h1 hlt n1;exact⟨(pair j i hlt l2 n1).symm,s2,s1,fun t w1 w2=>s3 t w2 w1⟩
  ·obtain⟨s1,s2,s3⟩:=aDm hd h1 h2 hlt n2;exact⟨pair i j hlt l1 n2,s1,s2,s3⟩
 have hok:=ok_all (aA1 hd).1 (drawn_lt hd) (aA1 hd).2 hind hs es hst ops.size 0 (a1q _)
 rw [a2,a3]at hok
 refine wpIn_region_any hm (ok_wp (aAS SC) (aFM SC) hM (by rw [hM0];exact R.lo) hhi (fun i o ho=>(a5 i o (by grind)).1) (by rw [hMN];exact a7) ops.size _ ρ h e a _ ⟨hA.env,hA.ds,⟨R.blk,R.inj,R.new,⟨R.below.os,R.below.tape,R.below.output,R.below.size,R.below.block⟩,a1l _,(by grind),Rho.le_refl _,fun _ _=>rfl⟩,fun j hj _ b hb1 hb2=>?_,fun b hb1 hb2=>?_,R.le,Rho.le_refl _,R.out⟩ hok)
 ·exact R.fresh b (a1m (by rw [<- hM0];exact hM 0 j (a1r _)) hb1) (a1n hb2 (a1m (hM _ _ hj) hhi))
 ·exact R.fresh b (by grind) hb2
theorem sound (hm:P.follows .mixedOrders=true) (n:Nat):SimA P (exec P n):=aAS (aCM (fun _ SC=>aHh hm SC) n).1
end
end
open RowKit (Below)
noncomputable section
theorem aGa {P:Program} (hm:P.follows .mixedOrders=true) {n f:Nat} {v:V} {x:Value} {s:S} (hv:tv (fun _=>none) v=some x) (hk:run0 P n f=some (.val v,s)) (w:World):
 SX.Af P f/\CallsIn (SX.fw none) 0 P f #[] w (fun e w'=>e= .returned x/\Below w.heap.size w w'):=by
 have R:Rel ⟨w,0,s.nx,fun _=>none⟩ (fun _=>none) .leaf 0 w:=⟨(by grind [xE]),fun b b' x x' h=>(h (xE _)).elim,(fun b x h=>by cases h),⟨rfl,rfl,rfl,a1l _,fun _ _=>rfl⟩,a1l _,fun _ _ _=>rfl,fun _ _ h=>h,fun _ _=>rfl⟩
 obtain⟨h1,h2⟩:=sound hm n f [] [] _ _ _ _ _ w .ret (.val v,s) rfl R (a1l _) hk
 refine⟨h1,CallsIn.mono h2 fun e w' hc=>?_⟩
 cases e with
 | outgrown=>exact hc.elim
 | panicked ch=>
  obtain⟨c,ρ',h,nx,lg,k1,k2,k3,k4⟩:=hc;cases k4
 | returned y=>
  obtain⟨u,ρ',h,nx,lg,k1,k2,k3,k4⟩:=hc;have k5:some ((.val u:O),(⟨h,nx,lg⟩:S))=some (.val v,s):=k4;cases k5;rw [lP (ρ:=fun _=>none) (ρ':=ρ') (fun _ _ h=>by cases h) v hv]at k3
  cases k3;exact⟨rfl,k2.below⟩
end
open Go.SX Go.SW
theorem aCV {P:Program} (hm:P.follows .mixedOrders=true) {n f:Nat} {v:V} {x:Value} {s:S} (hv:tv (fun _=>none) v=some x) (hk:run0 P n f=some (.val v,s)):
 FnS P f [] [] (fEq x) (fun _=>[]):=by
 intro m L vs hv' hL w hS
 have h1:vs=[]:=by grind [aU]
 have h2:L=[]:=hL
 subst h1;subst h2
 have hc:=callsIn_wide.1 (aGa hm hv hk w).2
 refine hc.mono fun e w' ⟨he,hb⟩=>⟨m,[],?_,x,he,rfl,rfl⟩
 have hlt:∀ b o,w.heap[b]? =some o->b<w.heap.size:=fun b o h=>by
  grind
 exact⟨fun b o h=>(hb.block b (hlt b o (hS.mem b o h))).trans (hS.mem b o h),fun x h=>(by cases h),fun x h=>(by cases h),List.nodup_nil,Mem.le_refl _,fun _ h=>absurd rfl h,fun x h=>(by cases h),hb.size,fun b h _=>hb.block b h,hb.os,hb.output,hb.tape⟩
theorem run_true {P:Program} {n f:Nat} (h:okB (run0 P n f) true=true):∃ s,run0 P n f=some (.val (.bool true),s):=by
 revert h
 generalize run0 P n f=r
 intro h
 match r,h with
 | some (.val (.bool true),s),_=>exact⟨s,rfl⟩
end Go.BX
namespace Go.Proofs.YtpbeacokfapklaaGreatDoor
open Go.SX Go.SW Go.BX Go.Dt
def valR (r:R):Option V:=match r with
 | some (.val u,_)=>some u
 | _=>none
theorem val_run {r:R} {v:V} (h:valR r=some v):∃ s,r=some (.val v,s):=by
 unfold valR at h
 split at h
 ·cases h;exact⟨_,rfl⟩
 ·cases h
def code_kinds_V:V:= .agg [.str ⟨#[]⟩, .int .i64 0, .nilf, .str { data:=#[105,110,116] }, .int .i64 1, .fn 64 [] [], .str { data:=#[103,101,116] }, .int .i64 1, .fn 65 [] [], .str { data:=#[97,100,100] }, .int .i64 0, .fn 66 [] [], .str { data:=#[115,117,98] }, .int .i64 0, .fn 66 [] [], .str { data:=#[109,117,108] }, .int .i64 0, .fn 66 [] [], .str { data:=#[108,101,115,115] }, .int .i64 0, .fn 66 [] [], .str { data:=#[115,97,109,101] }, .int .i64 0, .fn 66 [] [], .str { data:=#[115,101,110,100] }, .int .i64 2, .fn 67 [] [], .str { data:=#[101,108,115,101] }, .int .i64 1, .fn 66 [] [], .str { data:=#[106,117,109,112] }, .int .i64 1, .fn 66 [] [], .str { data:=#[100,101,102] }, .int .i64 1, .fn 68 [] [], .str { data:=#[100,114,111,112] }, .int .i64 1, .fn 65 [] [], .str { data:=#[103,111] }, .int .i64 2, .fn 69 [] [], .str { data:=#[115,116,111,112] }, .int .i64 0, .fn 66 [] [], .str { data:=#[119,97,116,99,104] }, .int .i64 2, .fn 71 [] [], .str { data:=#[101,110,100] }, .int .i64 0, .fn 66 [] []]
def aD5:List Value:=[.string ⟨#[]⟩, .int .i64 0, .nilFunc, .string { data:=#[105,110,116] }, .int .i64 1, .func (.func 64) #[] #[], .string { data:=#[103,101,116] }, .int .i64 1, .func (.func 65) #[] #[], .string { data:=#[97,100,100] }, .int .i64 0, .func (.func 66) #[] #[], .string { data:=#[115,117,98] }, .int .i64 0, .func (.func 66) #[] #[], .string { data:=#[109,117,108] }, .int .i64 0, .func (.func 66) #[] #[], .string { data:=#[108,101,115,115] }, .int .i64 0, .func (.func 66) #[] #[], .string { data:=#[115,97,109,101] }, .int .i64 0, .func (.func 66) #[] #[], .string { data:=#[115,101,110,100] }, .int .i64 2, .func (.func 67) #[] #[], .string { data:=#[101,108,115,101] }, .int .i64 1, .func (.func 66) #[] #[], .string { data:=#[106,117,109,112] }, .int .i64 1, .func (.func 66) #[] #[], .string { data:=#[100,101,102] }, .int .i64 1, .func (.func 68) #[] #[], .string { data:=#[100,114,111,112] }, .int .i64 1, .func (.func 65) #[] #[], .string { data:=#[103,111] }, .int .i64 2, .func (.func 69) #[] #[], .string { data:=#[115,116,111,112] }, .int .i64 0, .func (.func 66) #[] #[], .string { data:=#[119,97,116,99,104] }, .int .i64 2, .func (.func 71) #[] #[], .string { data:=#[101,110,100] }, .int .i64 0, .func (.func 66) #[] #[]]
theorem aHZ:valR (run0 Tryz.prog 1000 29)=some code_kinds_V:=by kernel_rfl
def pD:Option Unit:=some ()
theorem aF8:Ent (fEq (.agg aD5.toArray)) (dW (gI.AY ())):=fun m v h=>gV (aG.cons .rfl (aG.cons .rfl (aG.cons (gH (v:= .nilFunc) trivial) (aG.cons .rfl (aG.cons .rfl (aG.cons (gH (v:= .func (.func 64) #[] #[]) trivial) (aG.cons .rfl (aG.cons .rfl (aG.cons (gH (v:= .func (.func 65) #[] #[]) trivial) (aG.cons .rfl (aG.cons .rfl (aG.cons (gH (v:= .func (.func 66) #[] #[]) trivial) (aG.cons .rfl (aG.cons .rfl (aG.cons (gH (v:= .func (.func 66) #[] #[]) trivial) (aG.cons .rfl (aG.cons .rfl (aG.cons (gH (v:= .func (.func 66) #[] #[]) trivial) (aG.cons .rfl (aG.cons .rfl (aG.cons (gH (v:= .func (.func 66) #[] #[]) trivial) (aG.cons .rfl (aG.cons .rfl (aG.cons (gH (v:= .func (.func 66) #[] #[]) trivial) (aG.cons .rfl (aG.cons .rfl (aG.cons (gH (v:= .func (.func 67) #[] #[]) trivial) (aG.cons .rfl (aG.cons .rfl (aG.cons (gH (v:= .func (.func 66) #[] #[]) trivial) (aG.cons .rfl (aG.cons .rfl (aG.cons (gH (v:= .func (.func 66) #[] #[]) trivial) (aG.cons .rfl (aG.cons .rfl (aG.cons (gH (v:= .func (.func 68) #[] #[]) trivial) (aG.cons .rfl (aG.cons .rfl (aG.cons (gH (v:= .func (.func 65) #[] #[]) trivial) (aG.cons .rfl (aG.cons .rfl (aG.cons (gH (v:= .func (.func 69) #[] #[]) trivial) (aG.cons .rfl (aG.cons .rfl (aG.cons (gH (v:= .func (.func 66) #[] #[]) trivial) (aG.cons .rfl (aG.cons .rfl (aG.cons (gH (v:= .func (.func 71) #[] #[]) trivial) (aG.cons .rfl (aG.cons .rfl (aG.cons (gH (v:= .func (.func 66) #[] #[]) trivial) aG.nil))))))))))))))))))))))))))))))))))))))))))))))))))) m v (uJ _ m v h)
theorem aCB (r:Unit) (H:pD=some r):FnS Tryz.prog 29 [] [] (fSt gI ()) (fun _=>[]):=by
 obtain⟨s,h⟩:=val_run aHZ
 exact FnS.ent (aCV (x:= .agg aD5.toArray) (by kernel_rfl) rfl h) aF8
end Go.Proofs.YtpbeacokfapklaaGreatDoor
