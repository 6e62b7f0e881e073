/- Parts of the proof: lemmas, and the steps through the program. -/
import Derived.Test.YtpbeacokfapklaaGreatDoorCb0
import Derived.Laws.StructEq
import Derived.Test.YtpbeacokfapklaaGreatDoorRows
import Derived.DefersIn
import Derived.Below
set_option linter.unusedVariables false
set_option linter.unusedSimpArgs false
set_option maxRecDepth 100000
set_option maxHeartbeats 2000000
namespace Go.SW
open Go.SX
structure bP (Q:Prop):Prop where
 h:Q
def tb:List (Nat × Nat)->Nat->Option Nat
 | [],_=>none
 | (a,b) :: l,t=>bif Nat.beq a t then some b else tb l t
theorem uQ:∀ {l:List (Nat × Nat)} {t k:Nat},tb l t=some k->(t,k)∈l
 | (a,b) :: l,t,k,h=>by
  unfold tb at h;cases e:Nat.beq a t with
  | true=>simp_all
  | false=>rw [e]at h;exact .tail _ (uQ h)
def tb3:List (Nat × Nat × Nat)->Nat->Nat->Option Nat
 | [],_,_=>none
 | (a,b,c) :: l,s,f=>bif Nat.beq a s && Nat.beq b f then some c else tb3 l s f
theorem aCX:∀ {l:List (Nat × Nat × Nat)} {s f k:Nat},tb3 l s f=some k->(s,f,k)∈l
 | (a,b,c) :: l,s,f,k,h=>by
  unfold tb3 at h;cases e:Nat.beq a s && Nat.beq b f with
  | true=>
   simp_all
  | false=>rw [e]at h;exact .tail _ (aCX h)
def onb (x:Option Nat) (n:Nat):Bool:=match x with | some m=>Nat.beq m n | none=>false
theorem aAn {x:Option Nat} {n:Nat} (h:onb x n=true):x=some n:=by
 cases x with
 | none=>cases h
 | some m=>rw [a1j h]
section
variable {P:Program}
def slB (P:Program) (t:TypeId):Option Nat:=match P.underlying t with | some (.slice e)=>some e | _=>none
theorem us_of {l:List (Nat × Nat)} (h:(l.all fun p=>onb (slB P p.1) p.2)=true) {t e:Nat} (k:tb l t=some e):pU P t (.slice e):=by
 have:=aAn (a0o.1 h _ (uQ k))
 unfold slB at this
 split at this
 ·rename_i q;cases this;exact q
 ·cases this
theorem el_of {l:List (Nat × Nat)} (h:(l.all fun p=>onb (qD P p.1) p.2)=true) {t e:Nat} (k:tb l t=some e):kI P t e:=aAn (by simp_all [uQ])
theorem sz_of {l:List (Nat × Nat)} (h:(l.all fun p=>onb (oI P p.1) p.2)=true) {t e:Nat} (k:tb l t=some e):jJ P t e:=aAn (by simp_all [uQ])
theorem ag_of {l:List (Nat × Nat)} (h:(l.all fun p=>aggB P p.1 p.2)=true) {t e:Nat} (k:tb l t=some e):jA P t e:=a0o.1 h _ (uQ k)
theorem sc_of {l:List Nat} (h:(l.all fun p=>scalB P p)=true) {t:Nat} (k:(l.any fun p=>Nat.beq p t)=true):iX P t:=by
 grind [_root_.Nat.eq_of_beq_eq_true,iX]
theorem cb_of {l:List Nat} (h:(l.all fun p=>callB P p)=true) {t:Nat} (k:(l.any fun p=>Nat.beq p t)=true):Af P t:=by
 grind [_root_.Nat.eq_of_beq_eq_true,Af]
theorem fa_of {l:List (Nat × Nat × Nat)} (h:(l.all fun p=>onb (aAw P p.1 p.2.1) p.2.2)=true) {s f k:Nat} (e:tb3 l s f=some k):qG P s f k:=aAn (by simp_all [aCX])
def tb4:List (Nat × Nat × Nat × Nat)->Nat->Option (Nat × Nat × Nat)
 | [],_=>none
 | (a,b) :: l,t=>bif Nat.beq a t then some b else tb4 l t
theorem aFD:∀ {l:List (Nat × Nat × Nat × Nat)} {t:Nat} {k:Nat × Nat × Nat},tb4 l t=some k->(t,k)∈l
 | (a,b) :: l,t,k,h=>by
  unfold tb4 at h;cases e:Nat.beq a t with
  | true=>simp_all
  | false=>rw [e]at h;exact .tail _ (aFD h)
theorem et_of {l:List (Nat × Nat × Nat × Nat)} (h:(l.all fun p=>elB P p.1 p.2.1 p.2.2.1 p.2.2.2)=true) {t e s b:Nat} (k:tb4 l t=some (e,s,b)):ElT P t e s b:=a0o.1 h _ (aFD k)
end
theorem o_nilP {α:Type} {P:Program} {Γ:Ctx} {o:Oper} {t:Ty α} {y:α} {x:Operand} (ho:o.op= .nilCheck x) (hx:Has Γ x (bV t y)):OpT P Γ [] o (bV t y):=aD4 ho hx (fun _ _ ⟨p,h,_⟩=>⟨p,h⟩)
theorem o_nilE {P:Program} {Γ:Ctx} {o:Oper} {p:Addr} {x:Operand} (ho:o.op= .nilCheck x) (hx:Has Γ x (fEq (.pointer (some p)))):OpT P Γ [] o (fEq (.pointer (some p))):=aD4 ho hx (fun _ _ h=>⟨_,h⟩)
theorem cc {b w:Bool} (h:b=w:=by first | with_reducible assumption | exact rfl | exact not_t (by with_reducible assumption) | exact not_f (by with_reducible assumption)):b=w:=h
theorem ct {b:Bool} (h:b=true:=by first | with_reducible assumption | exact rfl | exact not_f (by with_reducible assumption)):b=true:=h
theorem cf {b:Bool} (h:b=false:=by first | with_reducible assumption | exact rfl | exact not_t (by with_reducible assumption)):b=false:=h
theorem cn {b w:Bool} (h:b≠w:=by first | exact ne_ft ct | exact ne_tf cf):b≠w:=h
section
variable {P:Program} {β:bA} {n:Nat} {ds:List Deferred} {Γ:Ctx} {Δ:List Tk} {r:Option Nat} {Q Q':Exit->Act->World->Prop} {N F:Act->World->Prop} {ops:Array Oper} {o:Oper} {rest:List Oper}
theorem hl {xs:List Operand} {φs:List AF} (h:aM Γ xs φs:=by repeat (first | exact aM.nil | apply aM.cons (has rfl))):aM Γ xs φs:=h
theorem Tc {g:Operand} {args:List Operand} {ts:Array TypeId} {f:FuncId} {first captured:Array Value} {φs ψs:List AF} {Δi Δr Δo:List Tk} {Φ:AF} {d:Option Nat} (hc:FnS P f ψs Δi Φ (fun _=>Δo)) (k:T β n ds (putG d Φ Γ) (Δo++Δr) (wpListIn (fw r) 0 P ops Q rest))
 (hw:bX ops Γ o:=by first | exact trivial | exact⟨_,_,rfl,rfl,cc⟩) (ho:o.op= .call { callee:= .value g,args:=args.toArray,argTypes:=ts }:=by exact rfl) (hd:o.dst=d:=by exact rfl) (hn:dstOk d n=true:=by exact rfl) (hg:Has Γ g (fEq (.func (.func f) first captured)):=by exact has rfl)
 (hargs:aM Γ args φs:=by exact hl) (hall:first.toList.map fEq++φs++captured.toList.map fEq=ψs:=by exact rfl) (hf:Af P f:=by exact cb rfl) (hΔ:Δ=Δi++Δr:=by exact rfl):T β n ds Γ Δ (wpListIn (fw r) 0 P ops Q (o :: rest)):=by grind [T_call]
theorem Tp {g:Operand} {args:List Operand} {ts:Array TypeId} {f:FuncId} {first captured:Array Value} {φs ψs:List AF} {Δi Δr:List Tk} {c:List PanicEntry} (hc:FnP P f ψs Δi c) (k:T β n ds Γ Δr (Q (.panic c))) (hw:bX ops Γ o:=by first | exact trivial | exact⟨_,_,rfl,rfl,cc⟩)
 (ho:o.op= .call { callee:= .value g,args:=args.toArray,argTypes:=ts }:=by exact rfl) (hg:Has Γ g (fEq (.func (.func f) first captured)):=by exact has rfl) (hargs:aM Γ args φs:=by exact hl) (hall:first.toList.map fEq++φs++captured.toList.map fEq=ψs:=by exact rfl) (hf:Af P f:=by exact cb rfl)
 (hΔ:Δ=Δi++Δr:=by exact rfl):T β n ds Γ Δ (wpListIn (fw r) 0 P ops Q (o :: rest)):=by grind [T_callP]
def AllE (Γ:Ctx) (v:Value):List Nat->Prop
 | []=>True
 | s :: ss=>lk Γ s=some (fEq v)/\AllE Γ v ss
theorem AllE.all {v:Value}:∀ {ss:List Nat},AllE Γ v ss->∀ s∈ss,lk Γ s=some (fEq v)
 | _ :: _,h,_, .head _=>h.1
 | _ :: _,h,s, .tail _ k=>AllE.all h.2 s k
theorem fz {v:Value} {ss:List Nat} (h:AllE Γ v ss:=by repeat (first | exact trivial | refine⟨by exact rfl,?_⟩)):∀ s∈ss,lk Γ s=some (fEq v):=h.all
theorem Tn {d:Nat} {f:Nat->Value} {τ:Nat->Tk} (h:OpN P Γ o f τ) (k:∀ b,T β n ds ((d,fEq (f b)) :: Γ) (τ b :: Δ) (wpListIn (fw r) 0 P ops Q rest)) (hw:bX ops Γ o:=by first | exact trivial | exact⟨_,_,rfl,rfl,cc⟩) (hd:o.dst=some d:=by exact rfl) (hn:Nat.ble (d+1) n=true:=by exact rfl):
 T β n ds Γ Δ (wpListIn (fw r) 0 P ops Q (o :: rest)):=T_new hw hd hn h k
theorem sb {Γ' Γ:Ctx} (h:gC Γ' Γ:=by repeat (first | exact gC.nil | refine Sc ?_)):gC Γ' Γ:=h
theorem Tm {ι:Type} {ok:ι->Prop} {Γf:ι->Ctx} {Δf:ι->List Tk} (i:ι) (h:ok i) (hs:gC (Γf i) Γ:=by exact sb) (hd:Δ=Δf i:=by exact rfl):T β n ds Γ Δ (fun a w=>∃ i,ok i/\AtT β n ds (Γf i) (Δf i) a w):=T_meet i h hs hd
theorem ij {α:Type} {a b:α} (h:some a=some b):b=a:=(a1y h).symm
theorem ls {n:Nat}:n<n+1:=Nat.lt_succ_self n
theorem To {fn:Func} {Φ:AF} {Δ':List Tk} {t:Nat} (hr:fn.results=#[.tmp t]:=by exact rfl) (hv:jS Γ t Φ:=by exact cM rfl) (hd:Δ=Δ':=by exact rfl):T β n [] Γ Δ (bodyPost P fn (eE β Φ (fun _=>Δ')) .ret):=T_out1 hr hv hd
theorem Zy {d:Nat} {φ:AF} (hw:bX ops Γ o) (h:OpT P Γ [] o φ) (hd:o.dst=some d) (hn:Nat.ble (d+1) n=true) (k:T β n ds ((d,φ) :: Γ) Δ (wpListIn (fw r) 0 P ops Q rest)):T β n ds Γ Δ (wpListIn (fw r) 0 P ops Q (o :: rest)):=T_y hw hd hn h k
theorem Zg {d:Nat} {φ:AF} {c want:Bool} (hg:GW ops Γ o c want) (hc:c=want) (h:OpT P Γ [] o φ) (hd:o.dst=some d) (hn:Nat.ble (d+1) n=true) (k:T β n ds ((d,φ) :: Γ) Δ (wpListIn (fw r) 0 P ops Q rest)):
 T β n ds Γ Δ (wpListIn (fw r) 0 P ops Q (o :: rest)):=T_y (hg.wants hc) hd hn h k
theorem Zk {d:Nat} {c want:Bool} (hg:GW ops Γ o c want) (hc:c≠want) (hd:o.dst=some d) (hn:Nat.ble (d+1) n=true) (k:T β n ds ((d,fEq undef) :: Γ) Δ (wpListIn (fw r) 0 P ops Q rest)):
 T β n ds Γ Δ (wpListIn (fw r) 0 P ops Q (o :: rest)):=bF (hg.unwants hc) hd hn k
theorem Zo {d:Nat} {φ:AF} {τ:Tk} (i:Nat) (hw:bX ops Γ o) (hτ:Δ[i]? =some τ) (h:OpT P Γ [τ] o φ) (hd:o.dst=some d) (hn:Nat.ble (d+1) n=true) (k:T β n ds ((d,φ) :: Γ) Δ (wpListIn (fw r) 0 P ops Q rest)):
 T β n ds Γ Δ (wpListIn (fw r) 0 P ops Q (o :: rest)):=T_o1 i hw hτ hd hn h k
theorem Zh {d:Nat} {φ:AF} {τ:Tk} {c want:Bool} (i:Nat) (hg:GW ops Γ o c want) (hc:c=want) (hτ:Δ[i]? =some τ) (h:OpT P Γ [τ] o φ) (hd:o.dst=some d) (hn:Nat.ble (d+1) n=true) (k:T β n ds ((d,φ) :: Γ) Δ (wpListIn (fw r) 0 P ops Q rest)):
 T β n ds Γ Δ (wpListIn (fw r) 0 P ops Q (o :: rest)):=T_o1 i (hg.wants hc) hτ hd hn h k
end
section
variable {P:Program} {r:Option Nat} {ops:Array Oper} {β:bA} {n:Nat} {ds:List Deferred} {Γ:Ctx} {Δ:List Tk} {o:Oper} {l:List NO} {e:Env'} {i:Nat} {G:Env'->Cf->(Nat->Tk)->Prop} {Q:Exit->Act->World->Prop}
theorem Ny {d:Nat} {φ:AF} (hw:bX ops Γ o) (h:OpT P Γ [] o φ) (hd:o.dst=some d) (k:∀ b,NC P r ops G l (e.set i b) (lk ((d,φ) :: Γ)) (dOf Δ)):
 NC P r ops G ((i,o,odC [] false φ []) :: l) e (lk Γ) (dOf Δ):=N_y rfl (fun _=>rfl) hw hd h k
theorem Ng {d:Nat} {φ:AF} {c want:Bool} (hg:GW ops Γ o c want) (hc:c=want) (h:OpT P Γ [] o φ) (hd:o.dst=some d) (k:∀ b,NC P r ops G l (e.set i b) (lk ((d,φ) :: Γ)) (dOf Δ)):
 NC P r ops G ((i,o,odC [] false φ []) :: l) e (lk Γ) (dOf Δ):=N_y rfl (fun _=>rfl) (hg.wants hc) hd h k
theorem No {d:Nat} {φ:AF} {τ:Tk} (p:Nat) (hw:bX ops Γ o) (hp:[p].map (dOf Δ)=[τ]) (h:OpT P Γ [τ] o φ) (hd:o.dst=some d) (k:∀ b,NC P r ops G l (e.set i b) (lk ((d,φ) :: Γ)) (dOf Δ)):
 NC P r ops G ((i,o,odC [p] false φ [jQ]) :: l) e (lk Γ) (dOf Δ):=N_op (ps:=[p]) rfl (fun _=>rfl) hw hp hd h k
theorem Nh {d:Nat} {φ:AF} {τ:Tk} {c want:Bool} (p:Nat) (hg:GW ops Γ o c want) (hc:c=want) (hp:[p].map (dOf Δ)=[τ]) (h:OpT P Γ [τ] o φ) (hd:o.dst=some d) (k:∀ b,NC P r ops G l (e.set i b) (lk ((d,φ) :: Γ)) (dOf Δ)):
 NC P r ops G ((i,o,odC [p] false φ [jQ]) :: l) e (lk Γ) (dOf Δ):=N_op (ps:=[p]) rfl (fun _=>rfl) (hg.wants hc) hp hd h k
theorem Nc {g:Operand} {args:List Operand} {ts:Array TypeId} {f:FuncId} {first captured:Array Value} {φs ψs:List AF} {Φ:AF} {d:Nat} (hc:FnS P f ψs [] Φ (fun _=>[])) (k:∀ b,NC P r ops G l (e.set i b) (lk ((d,Φ) :: Γ)) (dOf Δ)) (hw:bX ops Γ o:=by first | exact trivial | exact⟨_,_,rfl,rfl,cc⟩)
 (ho:o.op= .call { callee:= .value g,args:=args.toArray,argTypes:=ts }:=by exact rfl) (hd:o.dst=some d:=by exact rfl) (hg:Has Γ g (fEq (.func (.func f) first captured)):=by exact has rfl) (hargs:aM Γ args φs:=by exact hl) (hall:first.toList.map fEq++φs++captured.toList.map fEq=ψs:=by exact rfl) (hf:Af P f:=by exact cb rfl):
 NC P r ops G ((i,o,odC [] true Φ []) :: l) e (lk Γ) (dOf Δ):=N_call (od:=odC [] true Φ []) rfl (fun _=>rfl) hw ho hd hg hargs hall hf hc k
theorem Nk {d:Nat} {c want:Bool} (hg:GW ops Γ o c want) (hc:c≠want) (hd:o.dst=some d) (k:∀ b,NC P r ops G l (e.set i b) (lk ((d,fEq undef) :: Γ)) (dOf Δ)):NC P r ops G ((i,o,odS) :: l) e (lk Γ) (dOf Δ):=N_skip rfl (hg.unwants hc) hd k
theorem fk {ods:List (Env'->OD)} {us:List Us} (h:cS ods us:=by repeat first | exact cS.nil | apply FkC | apply FkS | apply FkN | apply FkD1 | apply FkD2 | apply FkD3 | apply FkN1 | apply FkN2 | apply FkN3):cS ods us:=h
end
end Go.SW
namespace Go.Dt
open Go.SX Go.SW
abbrev fI (n:Int):AF:=aT .i64 n
abbrev tI:Ty Int:=aJ .i64
structure Ad where
 At:Int
 Ae:Int
def aS:Ty Ad:=⟨2,fun x=>[aT .i64 x.At,aT .i64 x.Ae],fun _=>rfl,fun x=>(aH (aD trivial) (aH (aD trivial) bL))⟩
structure Ab where
 In:Int
 AV:Int
def aV:Ty Ab:=⟨2,fun x=>[aT .i64 x.In,aT .i64 x.AV],fun _=>rfl,fun x=>(aH (aD trivial) (aH (aD trivial) bL))⟩
structure AZ where
 At:Int
 AX:List Int
 AV:Int
def aY:Ty AZ:=⟨3,fun x=>[aT .i64 x.At,fSl (aJ .i64) x.AX,aT .i64 x.AV],fun _=>rfl,fun x=>(aH (aD trivial) (aH (cA) (aH (aD trivial) bL)))⟩
structure AO where
 AQ:List Ad
 AN:List Ab
 AP:List AZ
def aE:Ty AO:=⟨3,fun x=>[fSl aS x.AQ,fSl aV x.AN,fSl aY x.AP],fun _=>rfl,fun x=>(aH (cA) (aH (cA) (aH (cA) bL)))⟩
structure AL where
 Op:Int
 A:Int
 B:Int
def aF:Ty AL:=⟨3,fun x=>[aT .i64 x.Op,aT .i64 x.A,aT .i64 x.B],fun _=>rfl,fun x=>(aH (aD trivial) (aH (aD trivial) (aH (aD trivial) bL)))⟩
structure AB where
 AH:Int
 AD:List AO
 Code:List AL
 AG:Int
def dX:Ty AB:=⟨4,fun x=>[aT .i64 x.AH,fSl aE x.AD,fSl aF x.Code,aT .i64 x.AG],fun _=>rfl,fun x=>(aH (aD trivial) (aH (cA) (aH (cA) (aH (aD trivial) bL))))⟩
structure yR where
 Op:Int
 N:Int
 Kids:List yR
inductive wP (m:Mem):Addr->yR->Prop
 | mk (p:Addr) (x:yR) (v2:Value) (q2:Nat->Addr):(∃ u,m.cell p=some u/\(aT .i64 x.Op).p m u)->(∃ u,m.cell (p.add 1)=some u/\(aT .i64 x.N).p m u)->m.cell (p.add 2)=some v2->Sl v2 x.Kids.length 3 q2->x.Kids.length<=1000000000->(∀ (i:Nat) y,x.Kids[i]? =some y->wP m (q2 i) y)->wP m p x
theorem wP.mono {m m':Mem} (h:Mem.le m m'):∀ {p:Addr} {x:yR},wP m p x->wP m' p x:=fun {p x} k=>by
 induction k with
 | mk p x v2 q2 e0 e1 c2 s2 l2 _r2 ih2=>exact .mk p x v2 q2 (let ⟨u,a,b⟩:=e0;⟨u,Mem.cell_mono h a,AF.mono _ h b⟩) (let ⟨u,a,b⟩:=e1;⟨u,Mem.cell_mono h a,AF.mono _ h b⟩) (Mem.cell_mono h c2) s2 l2 ih2
structure aHI where
 Op:Int
 N:Int
 Args:List yR
 Kids:List Int
structure aEH where
 AH:List ByteArray
 Nodes:List aHI
 AD:List AO
 AG:Int
structure AJ where
 AM:Int
 AS:Int
def aZ:Ty AJ:=⟨2,fun x=>[aT .i64 x.AM,aT .i64 x.AS],fun _=>rfl,fun x=>(aH (aD trivial) (aH (aD trivial) bL))⟩
structure SolVal where
 Kind:Int
 N:Int
structure CodeAct where
 Deed:Int
 At:Int
 N:Int
 Vals:List SolVal
structure Code_kind where
 name:ByteArray
 many:Int
 right:Value
def aEv:Ty Code_kind:=⟨3,fun x=>[fStr x.name,aT .i64 x.many,eC x.right],fun _=>rfl,fun x=>(aH (aD trivial) (aH (aD trivial) (aH (aBv) bL)))⟩
structure bH where
 b:List Int
 at_:Int
 bad:Bool
structure Code_row where
 word:ByteArray
 l:List Int
structure aGv where
 code:List AL
structure Code_compiler where
 tape:aGv
 p:aEH
 sizes:List Int
 starts:aI Int Int
structure AR where
 AB:AB
 AU:List Int
 last:List Int
 AK:aI Int AJ
 AT:List Int
def aBY:Ty AR:=⟨8,fun x=>dX.AY x.AB++[fSl (aJ .i64) x.AU,fSl (aJ .i64) x.last,fMap bG (fun y=>fSt aZ y) x.AK,fSl (aJ .i64) x.AT],fun _=>rfl,fun x=>(ll_app (dX.cell x.AB) (aH (cA) (aH (cA) (aH (leaf_map) (aH (cA) bL)))))⟩
structure Code_runner where
 AB:AB
 chans:Int
 spots:Int
 acts:List CodeAct
structure Scope_looker where
 p:aEH
 sizes:List Int
 met:List Bool
 Aa:List Bool
structure Ref09_flow where
 AK:List AJ
 wait:List Int
 wrong:Bool
structure Scope_flaw where
 e:Int
def nH:List Code_kind:=[⟨⟨#[]⟩,0, .nilFunc⟩,⟨{ data:=#[105,110,116] },1, .func (.func 64) #[] #[]⟩,⟨{ data:=#[103,101,116] },1, .func (.func 65) #[] #[]⟩,⟨{ data:=#[97,100,100] },0, .func (.func 66) #[] #[]⟩,⟨{ data:=#[115,117,98] },0, .func (.func 66) #[] #[]⟩,⟨{ data:=#[109,117,108] },0, .func (.func 66) #[] #[]⟩,⟨{ data:=#[108,101,115,115] },0, .func (.func 66) #[] #[]⟩,⟨{ data:=#[115,97,109,101] },0, .func (.func 66) #[] #[]⟩,⟨{ data:=#[115,101,110,100] },2, .func (.func 67) #[] #[]⟩,⟨{ data:=#[101,108,115,101] },1, .func (.func 66) #[] #[]⟩,⟨{ data:=#[106,117,109,112] },1, .func (.func 66) #[] #[]⟩,⟨{ data:=#[100,101,102] },1, .func (.func 68) #[] #[]⟩,⟨{ data:=#[100,114,111,112] },1, .func (.func 65) #[] #[]⟩,⟨{ data:=#[103,111] },2, .func (.func 69) #[] #[]⟩,⟨{ data:=#[115,116,111,112] },0, .func (.func 66) #[] #[]⟩,⟨{ data:=#[119,97,116,99,104] },2, .func (.func 71) #[] #[]⟩,⟨{ data:=#[101,110,100] },0, .func (.func 66) #[] #[]⟩]
def gI:Ty Unit:=⟨51,fun _=>nH.flatMap aEv.AY,fun _=>rfl,fun _ φ h=>by obtain⟨x,_,hx⟩:=List.mem_flatMap.1 h;exact aEv.cell x φ hx⟩
end Go.Dt
namespace Go.SW
open Go.SX
section
variable {P:Program} {β:bA} {n:Nat} {Γ:Ctx} {Δ:List Tk}
theorem lJ {fn:Func} {Φ ψ:AF} {Δ':List Tk} {t u b sz:Nat} {ty ty':TypeId} {φs:List AF} (hr:fn.results=#[.cell t ty, .tmp u]) (hT:jA P ty sz) (hz:φs.length=sz) (hv:jS Γ t (fEq (ptr b))) (hu:jS Γ u ψ) (he:Ent (dW φs) Φ) (hd:Δ=aA b ty' φs :: Δ'):
 T β n [] Γ Δ (bodyPost P fn (eE β (dI [Φ,ψ]) (fun _=>Δ')) .ret):=fun m L a w hF hL hS=>by
 subst hd
 obtain⟨χ,h1,h2⟩:=hv
 obtain⟨v,h3,h4⟩:=hF.get t χ h1
 have h5:v=ptr b:=h2 m v h4
 subst h5
 obtain⟨_,g1,g2⟩:=hu
 obtain⟨z,g3,g4⟩:=hF.get u _ g1
 obtain⟨cs,R,rfl,h6,h7⟩:=tA hL
 have hlen:cs.length=sz:=by rw [h6.length,hz]
 have hc:∀ (j:Nat) c,cs[j]? =some c->w.cell? (Addr.add ⟨b,0,none⟩ j)=some c:=fun j c hj=>by
  rw [tG];exact hS.own_cell (k:=0) (b:=b) (c:=cs.toArray) (T:=ty') (fz:=(0,0)) rfl rfl rfl (by simpa using hj)
 refine⟨hF.Aa, .tuple #[.agg cs.toArray,z],?_,m,R,(by grind [St.drop]),_,rfl,⟨[.agg cs.toArray,z],rfl,_,[z],rfl,he m _ ⟨cs,rfl,h6⟩,z,[],rfl,g2 m z g4,rfl⟩,h7⟩
 have h8:=SX.run_loadCellsFrom (P:=P) (w:=w) (p:=⟨b,0,none⟩) cs 0 #[] (fun j v hj=>by simpa using hc j v hj)
 have hload:(loadVar ty ⟨b,0,none⟩).run P w= .ok (.agg cs.toArray) w:=by
  rw [hlen]at h8;simp [loadVar,a1B,zG hT,aAM hT,loadCells,Sem.run,pure,h8]
 simp [results,hr,a0a,h3,g3,a1B,Sem.run,pure,ptr,asAddr]
 rw [hload]
 rfl
end
open Go.SX
section
variable {P:Program} {Γ:Ctx} {o:Oper}
def jN (P:Program) (f:Field) (n:Nat):Bool:=f.name != "_" && Nat.beq f.offset n && (match P.underlying f.type with | some (.int .i64)=>true | _=>false)
def two (P:Program) (T:TypeId):Bool:=!P.stoodInHeld T && !P.eqGuardType P.depth T && match P.underlying T with
 | some (.struct fs)=>(match fs.toList with | [f,g]=>jN P f 0 && jN P g 1 | _=>false)
 | _=>false
theorem wW {f:Field} {n:Nat} (h:jN P f n=true):f.name≠ "_" /\f.offset=n/\P.underlying f.type=some (.int .i64):=by
 simp only [jN,a0f,bne_iff_ne,ne_eq]at h
 grind [_root_.Nat.eq_of_beq_eq_true]
theorem aCj {T:TypeId} (h:two P T=true):∃ f g,P.stoodInHeld T=false/\P.eqGuardType P.depth T=false/\P.underlying T=some (.struct (P.fieldsOf T))/\(P.fieldsOf T).toList=[f,g]/\jN P f 0=true/\jN P g 1=true:=by
 simp only [two,a0f,Bool.not_eq_true']at h
 grind [Program.fieldsOf]
theorem kE {T:TypeId} (hT:P.underlying T=some (.int .i64)) (w:World) {xs:Array Value} {i:Nat} {v:Value} (h:xs[i]? =some v):(part T xs i).run P w= .ok v w:=by
 have:(isAgg T).run P w= .ok false w:=by simp [isAgg,a1B,run_underlying hT,Sem.run,pure]
 simp_all [part]
theorem aFu {T:TypeId} (h:two P T=true) (a b c d:Int) (w:World):
 (Op.equalIn 10000 T (.agg #[.int .i64 a, .int .i64 b]) (.agg #[.int .i64 c, .int .i64 d])).run P w= .ok (decide (a=c) && decide (b=d)) w:=by
 obtain⟨f,g,h1,h2,h3,h4,hf,hg⟩:=aCj h
 obtain⟨f1,f2,f3⟩:=wW hf
 obtain⟨g1,g2,g3⟩:=wW hg
 have e (x y:Int):(x==y)=decide (x=y):=by
  grind
 rw [run_equalIn_agg w 9999 T _ _ h3 h1,h4]
 simp only [Op.eqFields,a1H f1,a1H g1,a1B,f2,g2]
 rw [kE f3 w (v:= .int .i64 a) rfl,a1A,kE f3 w (v:= .int .i64 c) rfl,a1A,run_equalIn_int w 9998 f.type _ _ _ _ f3,a1A,e]
 cases hac:decide (a=c)
 ·simp [Sem.run,pure]
 ·simp only [a0i,a0h,if_false,Bool.true_and,a1B];rw [kE g3 w (v:= .int .i64 b) rfl,a1A,kE g3 w (v:= .int .i64 d) rfl,a1A,run_equalIn_int w 9998 g.type _ _ _ _ g3,a1A,e];cases decide (b=d) <;> simp [Sem.run,pure]
theorem yU {α:Type} {t:Ty α} {u:α} {i j:Int} (hl:t.AY u=[aT .i64 i,aT .i64 j]) {m:Mem} {v:Value} (h:(fSt t u).p m v):v= .agg #[.int .i64 i, .int .i64 j]:=by
 obtain⟨cs,rfl,h2⟩:=h
 rw [hl]at h2
 obtain⟨_,_,rfl,rfl,_,_,rfl,rfl,rfl⟩:=h2
 rfl
theorem o_eqSt2 {α:Type} {t:Ty α} {T U:TypeId} {x y:Operand} {u v:α} {i j i' j':Int} (ho:o.op= .binOp .eql T x y U) (hx:Has Γ x (fSt t u)) (hy:Has Γ y (fSt t v)) (hl:t.AY u=[aT .i64 i,aT .i64 j]) (hl':t.AY v=[aT .i64 i',aT .i64 j']) (hT:two P T=true):
 OpT P Γ [] o (aL (decide (i=i') && decide (j=j'))):=
 dL (by rw [ho];rfl) fun β m a w he _=>by
  have h1:=yU hl (he.get hx (by rw [ho];simp [Op.operands]))
  have h2:=yU hl' (he.get hy (by rw [ho];simp [Op.operands]))
  obtain⟨_,_,_,hg,_⟩:=aCj hT;refine⟨.bool (decide (i=i') && decide (j=j')),?_,rfl⟩;simp only [execOp,ho,h1,h2,a1B,run_eqGuard_agg w .eql T _ _ _ _ hg,a1A,run_eql_struct,aFu hT];rfl
theorem aBu {α:Type} {t:Ty α} {T U:TypeId} {x y:Operand} {u v:α} {i j i' j':Int} (ho:o.op= .binOp .neq T x y U) (hx:Has Γ x (fSt t u)) (hy:Has Γ y (fSt t v)) (hl:t.AY u=[aT .i64 i,aT .i64 j]) (hl':t.AY v=[aT .i64 i',aT .i64 j']) (hT:two P T=true):
 OpT P Γ [] o (aL !(decide (i=i') && decide (j=j'))):=
 dL (by rw [ho];rfl) fun β m a w he _=>by
  have h1:=yU hl (he.get hx (by rw [ho];simp [Op.operands]))
  have h2:=yU hl' (he.get hy (by rw [ho];simp [Op.operands]))
  obtain⟨_,_,_,hg,_⟩:=aCj hT;refine⟨.bool !(decide (i=i') && decide (j=j')),?_,rfl⟩;simp only [execOp,ho,h1,h2,a1B,run_eqGuard_agg w .neq T _ _ _ _ hg,a1A,run_neq_struct,aFu hT];rfl
end
open Go.SX
section
variable {P:Program} {β:bA} {n:Nat} {ds:List Deferred} {Γ:Ctx} {Δ:List Tk} {r:Option Nat} {Q:Exit->Act->World->Prop} {F:Act->World->Prop} {ops:Array Oper} {o:Oper} {rest:List Oper}
def sY {κ α:Type} (kd:Key κ) (vf:α->AF) (v:Value) (g:aI κ α):Tk:=⟨fun m H=>∃ b,v= .map (some b)/\(bK kd vf b g).p m H,fun h ⟨b,h1,h2⟩=>⟨b,h1,Tk.mono _ h h2⟩⟩
theorem dF {κ α:Type} {kd:Key κ} {vf:α->AF} {g:aI κ α} {v:Value} (h:∀ b,v= .map (some b)->T β n ds Γ (bK kd vf b g :: Δ) F):T β n ds Γ (sY kd vf v g :: Δ) F:=
 fun m L a w x ⟨H,R,e,⟨b,hv,h1⟩,h2⟩ z=>h b hv m L a w x ⟨H,R,e,h1,h2⟩ z
theorem cX {κ α:Type} {kd:Key κ} {vf:α->AF} {g:aI κ α} {b:Nat} (h:T β n ds Γ (sY kd vf (.map (some b)) g :: Δ) F):T β n ds Γ (bK kd vf b g :: Δ) F:=
 fun m L a w x ⟨H,R,e,h1,h2⟩ z=>h m L a w x ⟨H,R,e,⟨b,rfl,h1⟩,h2⟩ z
def aEO (v:Value) (h:Nat):AF:=⟨fun _ u=>∃ base len cap,v= .slice base len cap/\u= .slice base h cap,fun _ h=>h⟩
theorem aE3 {α:Type} {t:Ty α} {xs ys:List α} {MT e:TypeId} {x y:Operand} {v:Value} {kd:IntKind} {h:Int} (ho:o.op= .slice MT x none (some y) none) (hx:Has Γ x (fEq v)) (hy:Has Γ y (aT kd h)) (hT:kI P MT t.sz)
 (hs:slc xs 0 h=some ys):OpT P Γ [aB v e t xs] o (aEO v h.toNat):=
 ⟨by rw [ho];rfl,fun β m L a w he hS hL=>by
  have h0:a.eval x=v:=he.get hx (by rw [ho];simp [Op.operands])
  have g2:a.eval y= .int kd h:=he.get hy (by rw [ho];simp [Op.operands])
  obtain⟨H,R,rfl,⟨cs,hR,hB,h2⟩,h3⟩:=hL;obtain⟨b,cap,hv,hc,hb⟩:∃ (b:Option Addr) (cap:Nat),v= .slice b xs.length cap/\xs.length<=cap/\∀ p,b=some p->p=⟨p.block,0,none⟩:=by
   rcases hR with⟨_,⟨rfl,h4,rfl⟩ | ⟨b,c,cap,rfl,rfl,h5,h6,h7⟩⟩
   ·exact⟨none,0,by rw [h4],by omega,fun p h=>by cases h⟩
   ·exact⟨_,cap,rfl,h6,fun p h=>by cases h;rfl⟩
  obtain⟨h1,h2,h3,hys⟩:=aAZ hs;refine⟨.slice b h.toNat cap,?_,b,xs.length,cap,hv,rfl⟩;unfold kI qD at hT;cases hu:P.underlying MT with
  | none=>rw [hu]at hT;cases hT
  | some d=>
   rw [hu]at hT;cases d <;> try (simp at hT;done)
   rename_i el;simp only [a1v]at hT;obtain⟨inf,hinf,hsz⟩:=hT;have hur:(underlying MT).run P w= .ok (.slice el) w:=run_underlying hu w;have hss:=run_sizeOf (P:=P) hinf w;rw [hv]at h0;have b2:=fun c=>uO (P:=P) (kd:=kd) (y:=cap) (c:=c) (i:=h) (by omega) (by omega) w
   have e0:(if cap=0 then b else b.map (·.add 0))=b:=by
    split
    ·rfl
    ·cases b with
     | none=>rfl
     | some p=>simp [Addr.add]
   simp only [execOp,ho,h0,Instr.sliceAt,Instr.slice,Instr.sliceBounds,a1B,hur,a1A];simp [a1B,g2,b2,hss,hsz,Sem.run,pure];cases b with
   | none=>simp
   | some p=>simp [Addr.add]⟩
theorem T_cut {α:Type} {t:Ty α} {xs ys:List α} {v:Value} {e:TypeId} {h:Int} (s:Nat) (hs:lk Γ s=some (aEO v h.toNat)) (hy:slc xs 0 h=some ys)
 (k:∀ u,T β n ds ((s,fEq u) :: Γ) (aB u e t ys :: Δ) F):T β n ds Γ (aB v e t xs :: Δ) F:=fun m L a w x ⟨H,R,eL,⟨cs,hR,hB,h2⟩,h3⟩ z=>by
 obtain⟨u,hu,base,len,cap,hv,huu⟩:=x.get s _ hs
 obtain⟨b1,b2,b3,rfl⟩:=aAZ hy
 simp only [Int.toNat_zero,List.drop_zero]at *
 refine k u m L a w ⟨x.size,x.Aa,fun q χ hq=>?_⟩ ⟨H,R,eL,⟨cs.take (h.toNat*t.sz),?_,?_,?_⟩,h3⟩ z
 ·rcases pY hq with⟨rfl,rfl⟩ | ⟨_,hq⟩
  ·exact⟨u,hu,rfl⟩
  ·exact x.get q χ hq
 ·have hl:(xs.take h.toNat).length=h.toNat:=by simp;omega
  have hcs:=hR.1;have hle:h.toNat*t.sz<=xs.length*t.sz:=a1p _ (by omega)
  rw [hl];refine⟨by rw [a0M,hcs];omega,?_⟩
  rcases hR.2 with⟨rfl,g2,g3⟩ | ⟨b,c,cap',rfl,g3,g4,g5,g6⟩
  ·cases hv;exact .inl ⟨by rw [huu];congr 1;omega,by omega,g3⟩
  ·cases hv;refine .inr ⟨b,c,cap,huu,g3,g4,by omega,?_⟩
   rw [a0M,hcs,a1o hle];conv=>rhs;rw [<- g6]
   rw [List.take_take,hcs,a1o hle]
 ·rw [a0M];omega
 ·rw [aDV];exact h2.take _
theorem aEo {g:Operand} {f:FuncId} {ts:Array TypeId} {vs:List Value} (hw:bX ops Γ o) (ho:o.op= .defer { callee:= .value g,args:=#[],argTypes:=ts }) (hd:o.dst=none) (hg:Has Γ g (fJ f (vs.map fEq)))
 (k:T β n ({ target:= .fn (.func f) vs.toArray,args:=#[] } :: ds) Γ Δ (wpListIn (fw none) 0 P ops Q rest)):T β n ds Γ Δ (wpListIn (fw none) 0 P ops Q (o :: rest)):=fun m L a w hF hL hS=>by
 obtain⟨cs,hge,hcs⟩:=hF.has hg
 rw [aB0 hcs]at hge
 simp only [wpListIn,hw.wanted hF,if_true]
 refine⟨fun _ _=>a1I,?_⟩
 have h3:o.semAt (fw none).round a.eval=execOp a.eval o:=Oper.semAt_none _ _
 have hrun:(execOp a.eval o).run P w= .ok (.defer { target:= .fn (.func f) vs.toArray,args:=#[] }) w:=by
  simp [execOp,ho,resolve,hge,Deferred.ofValue,a1B,Sem.run,pure]
 rw [h3,hrun,Oper.uponIn_defer,hd]
 exact k m L _ w ⟨hF.size,by simp [Act.put,hF.Aa],hF.get⟩ hL hS
theorem eZ {fn:Func} {g:FuncId} {vs:List Value} {u:FrameMode} {Δ':List Tk} {Φ:AF} {Δo:Value->List Tk} (hu:u≠ .run) (hg:Af P g) (hD:FnD P g (vs.map fEq) Δ u Δ') (hds:ds=[{ target:= .fn (.func g) vs.toArray,args:=#[] }])
 (k:T β n ds Γ Δ' (fun a w=>∃ v,(results fn a.tmps).run P w= .ok v w/\eE β Φ Δo (.returned v) w)):
 T β n ds Γ Δ (fun a w=>LeavesInM (fw none) 0 P fn a.tmps (eE β Φ Δo) a.defers u w):=fun m L a w hF hL hS=>by
 show LeavesInM (fw none) 0 P fn a.tmps (eE β Φ Δo) a.defers u w
 rw [hF.Aa,hds]
 refine⟨hu, .inr ⟨(fun h=>by cases h), .func g,vs.toArray,g,vs.toArray,rfl,?_,fun _ _=>a1I,?_⟩⟩
 ·have:=run_callFunc hg vs.toArray w;simpa [invoke] using this
 ·have hS0:St β m (L++[]) w:=by rw [a0q];exact hS
  have hall:aU (vs.map fEq) m vs:=by
   clear hD hds k;induction vs with
   | nil=>rfl
   | cons v vs ih=>exact⟨v,vs,rfl,rfl,ih⟩
  have hcall:=hD m L vs hall hL w hS0.start;refine⟨a1I,fun c₀ cs hm hroom=>?_⟩
  obtain⟨_,hcall⟩:=hcall;obtain⟨e,u',w',fr,⟨⟨v,he⟩,hset,m',L',hS',hL'⟩,h2⟩:=hcall c₀ cs hm hroom;subst he;refine⟨_,u',w',fr,?_,h2⟩;simp only [hset];have hb:=back hS0 hS';rw [a0q]at hb;exact k m' L' a w' (hF.mono hS'.mle) hL' hb
theorem aCy {m:Mem} {L:AW} {w:World} {b:Nat} {T':TypeId} {ψ:AF} {Δ':List Tk} (hT:iX P T') (hS:St β m L w) (hL:bB (aA b T' [ψ] :: Δ') m L):∃ x,(loadVar T' ⟨b,0,none⟩).run P w= .ok x w/\ψ.p m x/\∃ H R,L=H++R/\bB Δ' m R/\St β m R w:=by
 obtain⟨H,R,rfl,h1,h2⟩:=hL
 obtain⟨cs',h9,h10⟩:=aBb (L:=H) ⟨H,[],by simp,h1,rfl⟩ (hS.drop (List.sublist_append_left _ _))
 obtain⟨x,cr,e1,e2,e3⟩:=h9
 have e3:cr=[]:=e3
 subst e1 e3
 have hcell:=h10 0 x rfl
 exact⟨x,by simp [loadVar,a1B,aDl hT,Sem.run,pure,hcell],e2,H,R,rfl,h2,hS.drop (List.sublist_append_right _ _)⟩
theorem jG {fn:Func} {b1 b2 c1 c2:Nat} {T1 T2:TypeId} {ψ1 ψ2 φ1 φ2:AF} (hr:fn.results=#[.cell c1 T1, .cell c2 T2]) (h1:lk Γ c1=some (fEq (ptr b1))) (h2:lk Γ c2=some (fEq (ptr b2))) (hT1:iX P T1) (hT2:iX P T2)
 (e1:Ent ψ1 φ1) (e2:Ent ψ2 φ2):T β n ds Γ [aA b1 T1 [ψ1],aA b2 T2 [ψ2]] (fun a w=>∃ v,(results fn a.tmps).run P w= .ok v w/\eE β (dI [φ1,φ2]) (fun _=>[]) (.returned v) w):=fun m L a w hF hL hS=>by
 obtain⟨v1,g1,g2⟩:=hF.get c1 _ h1
 obtain⟨v2,g3,g4⟩:=hF.get c2 _ h2
 have g2:v1=ptr b1:=g2
 have g4:v2=ptr b2:=g4
 subst g2 g4
 obtain⟨x,hx,hxp,H,R,rfl,hR,hSR⟩:=aCy hT1 hS hL
 obtain⟨y,hy,hyp,_,_,_,_,_⟩:=aCy hT2 hSR hR
 refine⟨.tuple #[x,y],?_,m,[],hS.drop (List.nil_sublist _),_,rfl,⟨[x,y],rfl,x,[y],rfl,e1 m x hxp,y,[],rfl,e2 m y hyp,rfl⟩,rfl⟩
 simp [results,hr,a0a,g1,g3,a1B,Sem.run,pure,ptr,asAddr,hx,hy]
theorem aAz {x:Code} {id d:Nat} {o0:Oper} {S:Exit->Act->List Frame->World->Prop} {cs cs':List Frame} {v:Value} (hr:(match recoverD cs with | some p=>p | none=>(.nilIface,cs))=(v,cs'))
 (h0:o0.op= .call { callee:= .builtin .recover,args:=#[],argTypes:=#[] }) (g0:o0.guard=none) (d0:o0.dst=some d) (hn:Nat.ble (d+1) n=true)
 (k:T β n ds ((d,fEq v) :: Γ) Δ (fun a w=>x.wpSIn (fw none) 0 P S a cs' w)):T β n ds Γ Δ (fun a w=>(Code.seq (.region id #[o0] false) x).wpSIn (fw none) 0 P S a cs w):=fun m L a w hF hL hS=>by
 refine wpSIn_seq (wpSIn_region ?_)
 have hF1:FT n ds ((d,fEq v) :: Γ) m (a.put (some d) v):=hF.put (a1k hn) rfl
 have he0:∀ w,(execOp a.eval o0).run P w= .ok .recover w:=fun w=>by simp [execOp,h0,resolve,invoke,builtin,a1B,Sem.run,pure]
 have hl:List.range (#[o0]:Array Oper).size=[0]:=rfl
 have i0:(#[o0]:Array Oper)[0]? =some o0:=rfl
 have w0:Region.wanted o0 (yielded #[o0] a.tmps)=true:=by simp [Region.wanted,g0]
 have hfin:wpOpsSIn (fw none) 0 P #[o0] (Exit.thenS (x.wpSIn (fw none) 0 P S) S) [] (a.put o0.dst v) cs' w:=by
  rw [d0];exact k m L _ w hF1 hL hS
 rw [hl,wpOpsSIn]
 simp only [i0,w0,if_true,he0]
 refine⟨fun _ _=>a1I,?_⟩
 cases hrec:recoverD cs with
 | none=>rw [hrec]at hr;cases hr;exact hfin
 | some p=>rw [hrec]at hr;obtain⟨v',cs''⟩:=p;cases hr;exact hfin
def unW (T:TypeId):Value->Option Unit
 | .iface t (.agg ⟨[]⟩)=>if t=T then some () else none
 | _=>none
theorem fR {T:TypeId} {v:Value} {e:Unit} (h:unW T v=some e):v= .iface T (.agg #[]):=by
 unfold unW at h
 split at h
 ·split at h
  ·subst_vars;rfl
  ·cases h
 ·cases h
def arrB (P:Program) (T:TypeId) (n sz:Nat):Bool:=match P.underlying T with
 | some (.array m el)=>m==n && ((P.info? el).map (·.size)==some sz)
 | _=>false
theorem aEs {α:Type} {t:Ty α} {A:Ty Unit} {T:TypeId} {x ix:Operand} {xs:List α} {kd:IntKind} {i:Int} {y:α} (ho:o.op= .indexAddr T x ix) (hx:Has Γ x (bV A ())) (hi:Has Γ ix (aT kd i)) (hA:A.AY ()=xs.flatMap t.AY) (hT:arrB P T xs.length t.sz=true) (hy:idx xs i=some y):OpT P Γ [] o (bV t y):=
 dL (by rw [ho];rfl) fun β m a w he _=>by
  obtain⟨p,h1,cs,h3,h4⟩:=he.get hx (by rw [ho];simp [Op.operands])
  have h2:a.eval ix=_:=he.get hi (by rw [ho];simp [Op.operands])
  obtain⟨j,rfl,hj,hlt⟩:=aAm hy;rw [hA]at h3;have h5:=qU h3 hj;unfold arrB at hT;cases hu:P.underlying T with
  | none=>rw [hu]at hT;cases hT
  | some d=>
   rw [hu]at hT;cases d <;> try (cases hT;done)
   rename_i m' el;simp only [a0f,beq_iff_eq]at hT;obtain⟨rfl,hT⟩:=hT;simp only [a1v]at hT;obtain⟨inf,hinf,hz⟩:=hT;have h6:(0:Int)<=(j:Int)/\(j:Int)<(xs.length:Int):=by omega
   refine⟨.pointer (some (p.add (j*t.sz))),?_,_,rfl,_,h5,fun k c hc=>?_⟩
   ·rw [<- hz];simp [execOp,ho,h1,h2,Instr.indexAt,Instr.sureAddr,asIntOf,a1B,run_underlying hu,Sem.run,pure,h6,run_sizeOf hinf,hlt]
   ·rw [aBi];refine h4 _ _ ?_;rw [a0F]at hc;split at hc
    ·rwa [List.getElem?_drop]at hc
    ·cases hc
theorem FnS.ent {f:FuncId} {args:List AF} {Φ Φ':AF} {Δ':Value->List Tk} (h:FnS P f args Δ Φ Δ') (k:Ent Φ Φ'):FnS P f args Δ Φ' Δ':=fun m L vs hv hL w hS=>
 (h m L vs hv hL w hS).mono fun e w' ⟨m',L',h1,u,h2,h3,h4⟩=>⟨m',L',h1,u,h2,k m' u h3,h4⟩
theorem ent_fnOf {v u:Value} (h:v=u):Ent (eC v) (fEq u):=fun m x hx=>by
 have hx:x=v:=hx.1
 exact hx.trans h
end
open Go.SX
section
variable {P:Program} {Γ:Ctx} {o:Oper}
def fldV (P:Program) (S f k:Nat):Bool:=match P.underlying S with
 | some (.struct fs)=>(match fs[f]? with | some d=>Nat.beq d.offset k && (match P.underlying d.type with | some (.int .i64)=>true | _=>false) | none=>false)
 | _=>false
theorem o_fieldV {α:Type} {t:Ty α} {u:α} {S f:Nat} (k:Nat) {x:Operand} {φ:AF} (ho:o.op= .field S x f) (hx:Has Γ x (fSt t u)) (hf:fldV P S f k=true) (hl:(t.AY u)[k]? =some φ):OpT P Γ [] o φ:=
 dL (by rw [ho];rfl) fun β m a w he _=>by
  obtain⟨cs,h1,h2⟩:=he.get hx (by rw [ho];simp [Op.operands])
  obtain⟨c,h3,h4⟩:=h2.get hl;unfold fldV at hf;split at hf
  ·rename_i fs hu;split at hf
   ·rename_i d hd;rw [a0f]at hf;have hk:=a1j hf.1;have hi:P.underlying d.type=some (.int .i64):=by
     grind
    have hp:=kE hi w (xs:=cs.toArray) (i:=k) (v:=c) (by simpa using h3)
    refine⟨c,?_,h4⟩;simp only [execOp,ho,h1,Instr.field,a1B,run_underlying hu,a1A,hd,asAgg,hk]
    simp_all
   ·cases hf
  ·cases hf
end
section
variable {P:Program} {β:bA} {n:Nat} {Γ:Ctx} {Δ:List Tk}
theorem T_outC2 {fn:Func} {Φ:AF} {Δo:Value->List Tk} (k:T β n [] Γ Δ (fun a w=>∃ v,(results fn a.tmps).run P w= .ok v w/\eE β Φ Δo (.returned v) w)):T β n [] Γ Δ (bodyPostM (fw none) 0 P fn (eE β Φ Δo) .ret):=
 T_leave (P:=P) (fn:=fn) (R:=eE β Φ Δo) [] rfl rfl k
end
open Go.SX
def Sub {α:Type} (xs:List α) (lo hi:Nat) (ys:List α):Prop:=lo<=hi/\hi<=xs.length/\ys=(xs.take hi).drop lo
section
variable {P:Program} {r:Option Nat} {ops:Array Oper} {Γ:Ctx} {Δ:List Tk} {o:Oper} {l:List NO} {e:Env'} {i:Nat} {G:Env'->Cf->(Nat->Tk)->Prop} {od:Env'->OD}
theorem iD.all' {Λ:List (Value × AF)} {m m':Mem} {a:Act} (he:Evs Γ m a o) (hle:Mem.le m m') (hl:wH Λ m'):∀ {xs:List Operand} {φs:List AF},iD Γ Λ xs φs->(∀ x∈xs,x∈o.op.operands)->aU φs m' (xs.map a.eval)
 | [],_,h,_=>by rw [h];rfl
 | x :: xs,_,⟨φ,r,ψ,e,h1,h2,h3⟩,hm=>by rw [e];exact⟨_,_,rfl,h2 m' _ hl (ψ.mono hle (he.get ⟨ψ,h1,Ent.rfl⟩ (hm x (.head _)))),iD.all' he hle hl h3 fun y hy=>hm y (.tail _ hy)⟩
end
open Go.SX
section
variable {P:Program} {Γ:Ctx} {o:Oper}
def vM (P:Program) (T:TypeId):Bool:=!P.stoodInHeld T && !P.eqGuardType P.depth T && match P.underlying T with
 | some (.struct fs)=>(match fs.toList with | [f,g,h]=>jN P f 0 && jN P g 1 && jN P h 2 | _=>false)
 | _=>false
theorem aEK {T:TypeId} (h:vM P T=true):∃ f g k,P.stoodInHeld T=false/\P.eqGuardType P.depth T=false/\P.underlying T=some (.struct (P.fieldsOf T))/\(P.fieldsOf T).toList=[f,g,k]/\jN P f 0=true/\jN P g 1=true/\jN P k 2=true:=by
 simp only [vM,a0f,Bool.not_eq_true']at h
 grind [Program.fieldsOf]
theorem aIb {T:TypeId} (h:vM P T=true) (a b x c d y:Int) (w:World):
 (Op.equalIn 10000 T (.agg #[.int .i64 a, .int .i64 b, .int .i64 x]) (.agg #[.int .i64 c, .int .i64 d, .int .i64 y])).run P w= .ok (decide (a=c) && (decide (b=d) && decide (x=y))) w:=by
 obtain⟨f,g,k,h1,h2,h3,h4,hf,hg,hk⟩:=aEK h
 obtain⟨f1,f2,f3⟩:=wW hf
 obtain⟨g1,g2,g3⟩:=wW hg
 obtain⟨k1,k2,k3⟩:=wW hk
 have e (x y:Int):(x==y)=decide (x=y):=by
  grind
 rw [run_equalIn_agg w 9999 T _ _ h3 h1,h4]
 simp only [Op.eqFields,a1H f1,a1H g1,a1H k1,a1B,f2,g2,k2]
 rw [kE f3 w (v:= .int .i64 a) rfl,a1A,kE f3 w (v:= .int .i64 c) rfl,a1A,run_equalIn_int w 9998 f.type _ _ _ _ f3,a1A,e]
 cases hac:decide (a=c)
 ·simp [Sem.run,pure]
 ·simp only [a0i,a0h,if_false,Bool.true_and,a1B];rw [kE g3 w (v:= .int .i64 b) rfl,a1A,kE g3 w (v:= .int .i64 d) rfl,a1A,run_equalIn_int w 9998 g.type _ _ _ _ g3,a1A,e];cases hbd:decide (b=d)
  ·simp [Sem.run,pure]
  ·simp only [a0i,a0h,if_false,Bool.true_and,a1B];rw [kE k3 w (v:= .int .i64 x) rfl,a1A,kE k3 w (v:= .int .i64 y) rfl,a1A,run_equalIn_int w 9998 k.type _ _ _ _ k3,a1A,e];cases decide (x=y) <;> simp [Sem.run,pure]
theorem aDe {α:Type} {t:Ty α} {u:α} {i j k:Int} (hl:t.AY u=[aT .i64 i,aT .i64 j,aT .i64 k]) {m:Mem} {v:Value} (h:(fSt t u).p m v):v= .agg #[.int .i64 i, .int .i64 j, .int .i64 k]:=by
 obtain⟨cs,rfl,h2⟩:=h
 rw [hl]at h2
 obtain⟨_,_,rfl,rfl,_,_,rfl,rfl,_,_,rfl,rfl,rfl⟩:=h2
 rfl
theorem o_neqSt3 {α:Type} {t:Ty α} {T U:TypeId} {x y:Operand} {u v:α} {i j k i' j' k':Int} (ho:o.op= .binOp .neq T x y U) (hx:Has Γ x (fSt t u)) (hy:Has Γ y (fSt t v)) (hl:t.AY u=[aT .i64 i,aT .i64 j,aT .i64 k]) (hl':t.AY v=[aT .i64 i',aT .i64 j',aT .i64 k']) (hT:vM P T=true):
 OpT P Γ [] o (aL !(decide (i=i') && (decide (j=j') && decide (k=k')))):=
 dL (by rw [ho];rfl) fun β m a w he _=>by
  have h1:=aDe hl (he.get hx (by rw [ho];simp [Op.operands]))
  have h2:=aDe hl' (he.get hy (by rw [ho];simp [Op.operands]))
  obtain⟨_,_,_,_,hg,_⟩:=aEK hT;refine⟨.bool !(decide (i=i') && (decide (j=j') && decide (k=k'))),?_,rfl⟩;simp only [execOp,ho,h1,h2,a1B,run_eqGuard_agg w .neq T _ _ _ _ hg,a1A,run_neq_struct,aIb hT];rfl
end
open Go.SX
section
variable {P:Program} {r:Option Nat} {ops:Array Oper} {Γ:Ctx} {Δ:List Tk} {o:Oper} {l:List NO} {e:Env'} {i:Nat} {od:Env'->OD} {G:Env'->Cf->(Nat->Tk)->Prop}
theorem kL {g:Operand} {args:List Operand} {ts:Array TypeId} {f:FuncId} {first captured:Array Value} {φs ψs:List AF} {Φ:AF} {p d:Nat} {τ0:Tk} {τ:Value->Tk} {φ':Oc->AF} {Δ':Oc->List Tk} (hod:od e= .op [p] true φ' Δ') (hφ:∀ b,φ' b=eC b.v) (hτ:∀ b,Δ' b=[τ b.v]) (hw:bX ops Γ o) (hp:Δ[p]? =some τ0)
 (ho:o.op= .call { callee:= .value g,args:=args.toArray,argTypes:=ts }) (hd:o.dst=some d)
 (hg:Has Γ g (fEq (.func (.func f) first captured))) (hargs:aM Γ args φs) (hall:first.toList.map fEq++φs++captured.toList.map fEq=ψs) (hf:Af P f) (hc:FnS P f ψs [τ0] Φ (fun v=>[τ v])) (hcell:∀ v m H,(τ v).p m H->cO v)
 (k:∀ b u,NC P r ops G l (e.set i ⟨b,u⟩) (lk ((d,eC u) :: Γ)) (dOf (Δ.set p (τ u)))):NC P r ops G ((i,o,od) :: l) e (lk Γ) (dOf Δ):=by
 refine⟨?_,fun b=>?_⟩
 ·simp only [hod];refine⟨hw,?_,fun b=>by rw [hτ];rfl⟩
  intro β n ds m L R a w K Q hF hL hS hk;have hL:bB [τ0] m L:=by
   grind [dOf]
  have he:=nB hF;have hge:a.eval g=_:=he.get hg (by rw [ho];simp [Op.operands,Call.operands])
  have hall':aU ψs m (first.toList++args.map a.eval++captured.toList):=hall ▸ (((iW _).append (hargs.all' he (by rw [ho];intro x hx;simp [Op.operands,Call.operands,hx]))).append (iW _))
  refine lW (L:=L) ho hge rfl hf (hc m L _ hall' hL) hS (fun m' L' v w' hle ⟨u,hv,h3,h4⟩ hS'=>?_) (by grind) (by grind)
  cases hv;have hcv:cO v:=by
   obtain⟨H,R',_,h5,_⟩:=h4;exact hcell v m' H h5
  exact hk ⟨0,v⟩ m' L' v w' hle (by rw [hφ];exact⟨rfl,hcv⟩) (by simp only [OD.wr,if_true];rw [hτ];exact h4) hS'
 ·have hlt:=(a0C.1 hp).1;simp only [hod,fA,eJ,if_true,hd,hτ,hφ];rw [aAI hlt];exact k b.n b.v
theorem nK {g:Operand} {args:List Operand} {ts:Array TypeId} {f:FuncId} {first captured:Array Value} {φs ψs:List AF} {Φ:AF} {p d:Nat} {τ τ':Tk} {Δ':Oc->List Tk} (hod:od e= .op [p] true (fun _=>Φ) Δ') (hτ:∀ b,Δ' b=[τ']) (hw:bX ops Γ o) (hp:Δ[p]? =some τ)
 (ho:o.op= .call { callee:= .value g,args:=args.toArray,argTypes:=ts }) (hd:o.dst=some d)
 (hg:Has Γ g (fEq (.func (.func f) first captured))) (hargs:aM Γ args φs) (hall:first.toList.map fEq++φs++captured.toList.map fEq=ψs) (hf:Af P f) (hc:FnS P f ψs [τ] Φ (fun _=>[τ']))
 (k:∀ b,NC P r ops G l (e.set i b) (lk ((d,Φ) :: Γ)) (dOf (Δ.set p τ'))):NC P r ops G ((i,o,od) :: l) e (lk Γ) (dOf Δ):=by
 refine⟨?_,fun b=>?_⟩
 ·simp only [hod];refine⟨hw,?_,fun b=>by rw [hτ];rfl⟩
  intro β n ds m L R a w K Q hF hL hS hk;have hL:bB [τ] m L:=by
   grind [dOf]
  have he:=nB hF;have hge:a.eval g=_:=he.get hg (by rw [ho];simp [Op.operands,Call.operands])
  have hall':aU ψs m (first.toList++args.map a.eval++captured.toList):=hall ▸ (((iW _).append (hargs.all' he (by rw [ho];intro x hx;simp [Op.operands,Call.operands,hx]))).append (iW _))
  refine lW (L:=L) ho hge rfl hf (hc m L _ hall' hL) hS (fun m' L' v w' hle ⟨u,hv,h3,h4⟩ hS'=>?_) (by grind) (by grind)
  cases hv;exact hk default m' L' v w' hle h3 (by simp only [OD.wr,if_true];rw [hτ];exact h4) hS'
 ·have hlt:=(a0C.1 hp).1;simp only [hod,fA,eJ,if_true,hd,hτ];rw [aAI hlt];exact k b
theorem o_neg {T:TypeId} {x:Operand} {j z:Int} (ho:o.op= .unOp .neg T x) (hx:Has Γ x (aT .i64 j)) (h:chk (0 - j)=some z):OpT P Γ [] o (aT .i64 z):=
 dL (by rw [ho];rfl) fun β m a w he _=>by
  have h1:a.eval x=_:=he.get hx (by rw [ho];simp [Op.operands])
  obtain⟨rfl,hz⟩:=aAT h;rw [show 0 - j=-j by omega]at hz ⊢
  exact⟨.int .i64 (-j),by simp [execOp,ho,h1,Op.unary,Op.intArith,a1B,Sem.run,pure,hz],rfl⟩
def strB (P:Program) (T:TypeId):Bool:=match P.underlying T with
 | some (.array _ el)=>(match P.underlying el with | some (.struct _)=>true | _=>false)
 | _=>false
theorem o_indexV {α:Type} {t:Ty α} {A:Ty Unit} {T:TypeId} {x ix:Operand} {xs:List α} {kd:IntKind} {j:Int} {y:α} (ho:o.op= .index T x ix) (hx:Has Γ x (fSt A ())) (hi:Has Γ ix (aT kd j)) (hA:A.AY ()=xs.flatMap t.AY) (hT:arrB P T xs.length t.sz=true) (hs:strB P T=true) (hy:idx xs j=some y):OpT P Γ [] o (fSt t y):=
 dL (by rw [ho];rfl) fun β m a w he _=>by
  obtain⟨cs,h1,h3⟩:=he.get hx (by rw [ho];simp [Op.operands])
  have h2:a.eval ix=_:=he.get hi (by rw [ho];simp [Op.operands])
  obtain⟨j,rfl,hj,hlt⟩:=aAm hy;rw [hA]at h3;have h5:=qU h3 hj;unfold arrB at hT;unfold strB at hs;cases hu:P.underlying T with
  | none=>rw [hu]at hT;cases hT
  | some d=>
   rw [hu]at hT hs;cases d <;> try (cases hT;done)
   rename_i m' el;simp only [a0f,beq_iff_eq]at hT;obtain⟨rfl,hT⟩:=hT;simp only [a1v]at hT;obtain⟨inf,hinf,hz⟩:=hT;dsimp only at hs
   split at hs
   ·rename_i fs hel;have h6:(0:Int)<=(j:Int)/\(j:Int)<(xs.length:Int):=by omega
    refine⟨.agg ((cs.drop (j*t.sz)).take t.sz).toArray,?_,_,rfl,h5⟩;have hg:(isAgg el).run P w= .ok true w:=by simp [isAgg,a1B,run_underlying hel,Sem.run,pure]
    have hx:cs.toArray.extract (j*t.sz) (j*t.sz+t.sz)=((cs.drop (j*t.sz)).take t.sz).toArray:=by simp
    simp [execOp,ho,h1,h2,Instr.index,asIntOf,a1B,run_underlying hu,Sem.run,pure,h6,run_sizeOf hinf,hlt,part,hg,hz,hx]
   ·cases hs
theorem mT {β:bA} {n:Nat} {ds:List Deferred} {fn:Func} {b1 b2 c1 c2 sz:Nat} {T1 T2:TypeId} {φs:List AF} {ψ2 φ1 φ2:AF} (hr:fn.results=#[.cell c1 T1, .cell c2 T2]) (h1:lk Γ c1=some (fEq (ptr b1))) (h2:lk Γ c2=some (fEq (ptr b2))) (hT1:jA P T1 sz) (hz:φs.length=sz) (hT2:iX P T2)
 (e1:Ent (dW φs) φ1) (e2:Ent ψ2 φ2):T β n ds Γ [aA b1 T1 φs,aA b2 T2 [ψ2]] (fun a w=>∃ v,(results fn a.tmps).run P w= .ok v w/\eE β (dI [φ1,φ2]) (fun _=>[]) (.returned v) w):=fun m L a w hF hL hS=>by
 obtain⟨v1,g1,g2⟩:=hF.get c1 _ h1
 obtain⟨v2,g3,g4⟩:=hF.get c2 _ h2
 have g2:v1=ptr b1:=g2
 have g4:v2=ptr b2:=g4
 subst g2 g4
 obtain⟨cs,R,rfl,h6,h7⟩:=tA hL
 have hlen:cs.length=sz:=by rw [h6.length,hz]
 have hc:∀ (j:Nat) c,cs[j]? =some c->w.cell? (Addr.add ⟨b1,0,none⟩ j)=some c:=fun j c hj=>by
  rw [tG];exact hS.own_cell (k:=0) (b:=b1) (c:=cs.toArray) (T:=T1) (fz:=(0,0)) rfl rfl rfl (by simpa using hj)
 have h8:=SX.run_loadCellsFrom (P:=P) (w:=w) (p:=⟨b1,0,none⟩) cs 0 #[] (fun j v hj=>by simpa using hc j v hj)
 have hx:(loadVar T1 ⟨b1,0,none⟩).run P w= .ok (.agg cs.toArray) w:=by
  rw [hlen]at h8;simp [loadVar,a1B,zG hT1,aAM hT1,loadCells,Sem.run,pure,h8]
 obtain⟨y,hy,hyp,_,_,_,_,_⟩:=aCy hT2 (hS.drop (List.sublist_cons_self _ _)) h7
 refine⟨.tuple #[.agg cs.toArray,y],?_,m,[],hS.drop (List.nil_sublist _),_,rfl,⟨[.agg cs.toArray,y],rfl,_,[y],rfl,e1 m _ ⟨cs,rfl,h6⟩,y,[],rfl,e2 m y hyp,rfl⟩,rfl⟩
 simp [results,hr,a0a,g1,g3,a1B,Sem.run,pure,ptr,asAddr,hx,hy]
def wM (P:Program) (r:Option Nat) (ops:Array Oper) (γ:Cf) (o:Oper) (τ:Tk) (c:List PanicEntry):Prop:=uA ops γ o /\
 ∀ (β:bA) (n:Nat) (ds:List Deferred) (m:Mem) (L R:AW) (a:Act) (w:World) (K:Act->World->Prop) (Q:Exit->Act->World->Prop),FC n ds (fun t=>if t∈o.op.operands.toList.filterMap (fun | .tmp t=>some t | _=>none)then γ t else none) m a ->
  bB [τ] m L->St β m (L++R) w->(∀ m' w',Mem.le m m'->St β m' R w'->Q (.panic c) a w')->o.wpIn (fw r) 0 P a w K Q
theorem wM.congr {γ γ':Cf} {τ:Tk} {c:List PanicEntry} (hγ:∀ t∈o.looksAt ops,γ' t=γ t) (h:wM P r ops γ o τ c):wM P r ops γ' o τ c:=by
 obtain⟨h1,h2⟩:=h
 refine⟨?_,?_⟩
 ·unfold uA at h1 ⊢
  grind [aA7]
 ·intro β n ds m L R a w K Q hF hL hS hk;refine h2 β n ds m L R a w K Q ⟨hF.size,hF.Aa,fun t φ ht=>hF.get t φ ?_⟩ hL hS hk
  grind [aDW]
def vW (P:Program) (r:Option Nat) (ops:Array Oper) (o:Oper) (τ:Tk) (c:List PanicEntry) (_:Env') (γ:Cf) (_:Nat->Tk):Prop:=wM P r ops γ o τ c
theorem NC.boom {ob:Oper} {τ:Tk} {c:List PanicEntry}:∀ {rem:List NO} {e:Env'} {γ:Cf} {D:Nat->Tk},(∀ x∈rem,∀ d,x.2.1.dst=some d->d ∉ ob.looksAt ops)->NC P r ops (vW P r ops ob τ c) rem e γ D->wM P r ops γ ob τ c
 | [],_,_,_,_,h=>h
 | x :: l,_,_,_,hx,h=>(NC.boom (fun y hy=>hx y (.tail _ hy)) (h.2 default)).congr fun t ht=>(oP fun e=>hx x (.head _) t e ht).symm
structure PShape (ops:Array Oper) (h:Nat) (ods:List (Env'->OD)):Prop where
 back:∀ (i:Nat) (o:Oper),ops[i]? =some o->∀ e∈o.after,Region.binds .any e=true->e.on<i
 ind:∀ (i j:Nat) (oi oj:Oper) (x y:Env'->OD),ops[i]? =some oi->ops[j]? =some oj->i<h->j<i->ods[i]? =some x->ods[j]? =some y->IndN ops (j,oj,y) (i,oi,x)\/eP ops ops.size i j=true
 boom:∀ (j:Nat) (oj ob:Oper),ops[j]? =some oj->ops[h]? =some ob->j<h->(∀ d,oj.dst=some d->d ∉ ob.looksAt ops)\/eP ops ops.size h j=true
 tail:∀ (i:Nat) (oi:Oper),ops[i]? =some oi->h<i->eP ops ops.size i h=true
 still:∀ (i:Nat) (x:Env'->OD) (e:Env'),ods[i]? =some x->(x e).wr=false
theorem aIw {D:Nat->Tk} {x:Oper × OD} {b:Oc} (h:x.2.wr=false):eJ D x b=D:=by
 obtain⟨o,od⟩:=x
 cases od with
 | skip=>rfl
 | op ps wr φ Δo=>simp only [OD.wr]at h;subst h;rfl
theorem netP_run {β:bA} {n:Nat} {ds:List Deferred} {Q:Exit->Act->World->Prop} {head tail:List Oper} {ob:Oper} {ods:List (Env'->OD)} {q:Nat} {D:Nat->Tk} {τ:Tk} {Δr:List Tk} {c:List PanicEntry} (hops:ops=(head++ob :: tail).toArray) (hol:ods.length=head.length) (hsh:PShape ops head.length ods)
 (hD:((List.range q).map D).Perm (τ :: Δr)) (hG:T β n ds Γ Δr (Q (.panic c))) (hds:∀ o∈head,∀ t φ,lk Γ t=some φ->o.dst≠some t):
 ∀ (AA:Nat) (rem:List NO) (listed:Array Bool) (e:Env') (γ:Cf) (m:Mem) (L:AW) (a:Act) (w:World),
  NC P r ops (vW P r ops ob τ c) rem e γ D->(∀ t φ,lk Γ t=some φ->γ t=some φ)->FC n ds γ m a->bB ((List.range q).map D) m L->St β m L w->(∀ x∈rem,head[x.1]? =some x.2.1/\ods[x.1]? =some x.2.2/\∀ e,wfO n q x.2.1 (x.2.2 e))->(rem.Pairwise fun x y=>x.1<y.1) ->
  kH ops listed->(∀ i:Nat,i<head.length->(listed.getD i false=false ↔ ∃ x∈rem,x.1=i))->(∀ i:Nat,head.length<=i->listed.getD i false=false)->listed.size=ops.size->rem.length+1<=AA->wpAnyIn (fw r) 0 P .any ops Q AA listed a w:=by
 have hsz:ops.size=head.length+(tail.length+1):=by rw [hops];simp
 have hho:∀ j:Nat,j<head.length->head[j]? =ops[j]?:=fun j hj=>by rw [hops];simp [a0y hj]
 have hob:ops[head.length]? =some ob:=by rw [hops];simp
 intro AA
 induction AA with
 | zero=>intro rem _ _ _ _ _ _ _ _ _ _ _ _ _ _ _ _ _ _ hf;omega
 | succ AA ih=>
  intro rem listed e γ m L a w hN hγ hF hL hS hrem hsrt hcl h1 h2 hls hf;refine⟨fun hnil=>?_,fun i hi=>?_⟩
  ·exfalso
   cases rem with
   | nil=>
    have:head.length∈Region.ready .any ops listed:=mem_ready.2 ⟨by rw [nC (by omega)];exact h2 _ (a1l _),ob,hob,fun e he hb=>by
     have hlt:=hsh.back _ _ hob e he hb;cases hbb:listed.getD e.on false with
     | true=>rfl
     | false=>obtain⟨y,hy,_⟩:=(h1 e.on hlt).1 hbb;cases hy⟩
    rw [hnil]at this;cases this
   | cons x0 rem'=>
    have hx0:=hrem x0 (.head _);have hx0l:x0.1<head.length:=(a0C.1 hx0.1).1;have:x0.1∈Region.ready .any ops listed:=by
     refine mem_ready.2 ⟨by rw [nC (by omega)];exact(h1 x0.1 hx0l).2 ⟨x0, .head _,rfl⟩,x0.2.1,by rw [<- hho _ hx0l];exact hx0.1,fun e he hb=>?_⟩
     have hlt:=hsh.back x0.1 x0.2.1 (by rw [<- hho _ hx0l];exact hx0.1) e he hb
     cases hbb:listed.getD e.on false with
     | true=>rfl
     | false=>
      obtain⟨y,hy,hye⟩:=(h1 e.on (by omega)).1 hbb
      rcases a0S.1 hy with rfl | hy
      ·omega
      ·have:=(a1d.1 hsrt).1 y hy;omega
    rw [hnil]at this;cases this
  ·obtain⟨h3,o,ho,hdep⟩:=mem_ready.1 hi;have hlt:=(a0b.1 ho).1;rw [nC (by omega)]at h3;by_cases hih:i<head.length
   ·obtain⟨x,hx,rfl⟩:=(h1 i hih).1 h3;obtain⟨l1,l2,hsplit⟩:=List.append_of_mem hx;have hxr:=hrem x hx;have hxo:x.2.1=o:=by have:=hxr.1;rw [hho _ hih,ho]at this;exact(a1y this).symm
    have hl1:∀ y∈l1,y.1<x.1:=fun y hy=>by
     rw [hsplit,a1c]at hsrt;exact hsrt.2.2 y hy x (.head _)
    have hind:∀ z∈l1,IndN ops z x:=fun y hy=>by
     have hyr:=hrem y (by rw [hsplit];exact a0Q _ hy)
     have hyl:y.1<head.length:=(a0C.1 hyr.1).1;rcases hsh.ind x.1 y.1 x.2.1 y.2.1 x.2.2 y.2.2 (by rw [<- hho _ hih];exact hxr.1) (by rw [<- hho _ hyl];exact hyr.1) hih (hl1 y hy) hxr.2.1 hyr.2.1 with h | h
     ·exact h
     ·have:=pG hcl _ x.1 y.1 o ho hdep h;rw [(h1 y.1 hyl).2 ⟨y,by rw [hsplit];exact a0Q _ hy,rfl⟩]at this;cases this
    have hN':NC P r ops (vW P r ops ob τ c) (x :: (l1++l2)) e γ D:=NC.front hind (by rw [hsplit]at hN;exact hN)
    obtain⟨hpre,hnext⟩:=hN';have hst:(x.2.2 e).wr=false:=hsh.still x.1 x.2.2 e hxr.2.1;have hgo:∀ b m' L' a' w',FC n ds (fA γ (x.2.1,x.2.2 e) b) m' a'->bB ((List.range q).map D) m' L'->St β m' L' w'->wpAnyIn (fw r) 0 P .any ops Q AA (listed.setIfInBounds x.1 true) a' w':=fun b m' L' a' w' hF' hL' hS'=>by
     have hnb:=hnext b;rw [aIw (x:=(x.2.1,x.2.2 e)) hst]at hnb;refine ih (l1++l2) _ _ _ m' L' a' w' hnb (fun t φ ht=>by rw [oP (hds _ (a0X hxr.1) t φ ht)];exact hγ t φ ht) hF' hL' hS' (fun y hy=>hrem y (by rw [hsplit];rcases a0P.1 hy with h | h <;> simp [h])) ?_ (fun k ok hok hl e he hb=>?_) (fun j hj=>?_) (fun j hj=>?_) (by simpa using hls) (by rw [hsplit]at hf;simp at hf ⊢;omega)
     ·rw [hsplit]at hsrt;exact hsrt.sublist (List.Sublist.append (List.Sublist.refl _) (List.sublist_cons_self _ _))
     ·rw [jL (by omega)]at hl ⊢;split
      ·rfl
      ·by_cases hki:x.1=k
       ·subst hki;rw [ho]at hok;cases hok;exact hdep e he hb
       ·rw [a1G hki]at hl;exact hcl k ok hok hl e he hb
     ·rw [jL (by omega)];by_cases hji:x.1=j
      ·subst hji;rw [a1H rfl];constructor
       ·intro h;cases h
       ·rintro⟨y,hy,hye⟩
        exfalso
        rw [hsplit,a1c,a1d]at hsrt;rcases a0P.1 hy with h | h
        ·have:=hl1 y h;omega
        ·have:=hsrt.2.1.1 y h;omega
      ·rw [a1G hji,h1 j hj,hsplit];constructor
       ·rintro⟨y,hy,hye⟩
        rcases a0P.1 hy with h | h
        ·exact⟨y,a0Q _ h,hye⟩
        ·rcases a0S.1 h with rfl | h
         ·exact absurd hye hji
         ·exact⟨y,a0R _ h,hye⟩
       ·rintro⟨y,hy,hye⟩
        exact⟨y,by rcases a0P.1 hy with h | h <;> simp [h],hye⟩
     ·rw [jL (by omega),a1G (by omega)];exact h2 j hj
    obtain⟨hdn,hlt,hw3⟩:=hxr.2.2 e;unfold wpOpIn;simp only [ho];rw [<- hxo];obtain⟨i,o',odf⟩:=x;dsimp only at hpre hgo hlt hw3 hdn hst ⊢
    generalize odf e=od at hpre hgo hlt hw3 hst
    cases od with
    | skip=>
     rw [a1G (by rw [aDq hF hpre];simp)];exact⟨fun _ _=>trivial,hgo default m L _ w (hF.put hdn rfl) hL hS⟩
    | op ps wr φ Δo=>
     simp only [OD.wr]at hst;subst hst;obtain⟨p1,p2,p3⟩:=hpre;rw [a1H (aBM hF p1)];simp only [OD.ps]at hlt hw3;obtain⟨rest,hperm,hrest⟩:=aFb (D:=D) hw3 hlt;obtain⟨L1,hp1,hL1⟩:=bB.perm (hperm.map D) hL;rw [a0N]at hL1;obtain⟨A,B,rfl,hA,hB⟩:=hL1.split;refine p2 β n ds m A B a w _ Q ⟨hF.size,hF.Aa,fun t φ ht=>?_⟩ hA (hS.perm hp1) fun b m' L' v w' hle hφ hL' hS'=>?_
     ·split at ht
      ·exact hF.get t φ ht
      ·cases ht
     ·have hperm2:((List.range q).map D).Perm (ps.map D++rest.map D):=by simpa using hperm.map D
      obtain⟨L2,hp2,hL2⟩:=bB.perm hperm2.symm (bB.append hL' (hB.mono hle));exact hgo b m' L2 _ w' ((hF.mono hle).put hdn hφ) hL2 (hS'.perm hp2)
   ·by_cases hb:i=head.length
    ·subst hb;rw [hob]at ho;cases ho;have hB:=NC.boom (fun x hx d hd=>by
      have hxr:=hrem x hx;have hxl:x.1<head.length:=(a0C.1 hxr.1).1;rcases hsh.boom x.1 x.2.1 ob (by rw [<- hho _ hxl];exact hxr.1) hob hxl with h | h
      ·exact h d hd
      ·have:=pG hcl _ head.length x.1 ob hob hdep h;rw [(h1 x.1 hxl).2 ⟨x,hx,rfl⟩]at this;cases this) hN
     unfold wpOpIn;simp only [hob];rw [a1H (aBM hF hB.1)];obtain⟨L1,hp1,hL1⟩:=bB.perm hD hL;obtain⟨A,B,rfl,hA,hBt⟩:=bB.split (Δ:=[τ]) hL1;refine hB.2 β n ds m A B a w _ Q ⟨hF.size,hF.Aa,fun t φ ht=>?_⟩ hA (hS.perm hp1) fun m' w' hle hS'=>hG m' B a w' ⟨hF.size,hF.Aa,fun t φ ht=>(hF.mono hle).get t φ (hγ t φ ht)⟩ (hBt.mono hle) hS'
     split at ht
     ·exact hF.get t φ ht
     ·cases ht
    ·have hr:=hsh.tail i o ho (by omega)
     have:=pG hcl _ i head.length o ho hdep hr;rw [h2 _ (a1l _)]at this;cases this
def netPB (ops:Array Oper) (h:Nat) (us:List Us):Bool:=
 (us.all fun u=>!u.2.1) && (List.range ops.size).all fun i=>match ops[i]? with
  | none=>false
  | some o=>(o.after.all fun e=>!Region.binds .any e || Nat.blt e.on i) &&
   (List.range i).all fun j=>match ops[j]? with
    | none=>false
    | some oj=>if i<h then(match us[i]?,us[j]? with
     | some ui,some uj=>(indB ops oj (uj.1,uj.2.1) o (ui.1,ui.2.1) && !ui.2.2.contains j && !uj.2.2.contains i) || eP ops ops.size i j
     | _,_=>false) else if i=h then((match oj.dst with | some d=>!(o.looksAt ops).contains d | none=>true) || eP ops ops.size i j) else (!(Nat.beq j h) || eP ops ops.size i j)
theorem aHf {h:Nat} {ods:List (Env'->OD)} {us:List Us} (hu:cS ods us) (hB:netPB ops h us=true):PShape ops h ods:=by
 unfold netPB at hB
 rw [a0f]at hB
 obtain⟨hs,hB⟩:=hB
 have key:∀ (i:Nat) (o:Oper),ops[i]? =some o->(o.after.all fun e=>!Region.binds .any e || Nat.blt e.on i)=true/\∀ (j:Nat) (oj:Oper),ops[j]? =some oj->j<i ->
  (if i<h then(match us[i]?,us[j]? with
   | some ui,some uj=>(indB ops oj (uj.1,uj.2.1) o (ui.1,ui.2.1) && !ui.2.2.contains j && !uj.2.2.contains i) || eP ops ops.size i j
   | _,_=>false) else if i=h then((match oj.dst with | some d=>!(o.looksAt ops).contains d | none=>true) || eP ops ops.size i j) else (!(Nat.beq j h) || eP ops ops.size i j))=true:=fun i o ho=>by
  have hlt:=(a0b.1 ho).1;have:=a0o.1 hB i (List.mem_range.2 hlt);rw [ho]at this;simp only [a0f]at this;refine⟨this.1,fun j oj hj hji=>?_⟩
  have h2:=a0o.1 this.2 j (List.mem_range.2 hji);rw [hj]at h2;exact h2
 refine⟨fun i o ho e he hb=>?_,fun i j oi oj x y hi hj hih hji hx hy=>?_,fun j oj ob hj hb hjh=>?_,fun i oi hi hhi=>?_,fun i x e hx=>?_⟩
 ·have h2:=Array.all_eq_true'.1 (key i o ho).1 e he;rw [hb]at h2;simp only [a0i,Bool.false_or]at h2;simp only [Nat.blt,Nat.ble_eq]at h2;omega
 ·have h2:=(key i oi hi).2 j oj hj hji;rw [a1H hih]at h2;obtain⟨ui,h3,h5⟩:=hu.get hx;obtain⟨uj,h4,h6⟩:=hu.get hy;rw [h3,h4]at h2;simp only [a0j,a0f,Bool.not_eq_true']at h2;refine h2.imp (fun h=>⟨by omega,fun e b=>h6.2 e _ b ?_,fun e b=>h5.2 e _ b ?_,fun e=>ind_of ?_⟩) id
  ·grind
  ·grind
  ·have e1:=h5.1 e;have e2:=h6.1 e
   grind
 ·have h2:=(key h ob hb).2 j oj hj hjh;rw [a1G (by omega),a1H rfl,a0j]at h2;refine h2.imp (fun h3 d hd=>?_) id
  rw [hd]at h3;simpa using h3
 ·have hlt:=(a0b.1 hi).1;have hh:∃ ob,ops[h]? =some ob:=⟨ops[h],Array.getElem?_eq_getElem _⟩;obtain⟨ob,hb⟩:=hh;have h2:=(key i oi hi).2 h ob hb hhi;rw [a1G (by omega),a1G (by omega),a0j]at h2;rcases h2 with h2 | h2
  ·simp at h2
  ·exact h2
 ·obtain⟨u,h3,h5⟩:=hu.get hx;rw [(h5.1 e).2];have:=a0o.1 hs u (a0X h3);simpa using this
theorem vU {β:bA} {n:Nat} {ds:List Deferred} {Q:Exit->Act->World->Prop} {id:Nat} {lo:List Oper} {ods:List (Env'->OD)} {us:List Us} {ob:Oper} {τ:Tk} {Δr:List Tk} {c:List PanicEntry} (h q:Nat) (hm:P.follows .mixedOrders=true) (hle:(lo.take h).length=h) (hol:ods.length=h) (hob:lo.drop h=ob :: lo.drop (h+1)) (hΔ:Δ=τ :: Δr) (hq:Δ.length=q)
 (hn:NC P r lo.toArray (vW P r lo.toArray ob τ c) (gL 0 (lo.take h) ods) env0 (lk Γ) (dOf Δ)) (hu:cS ods us) (hB:(netPB lo.toArray h us && ((lo.take h).zip us).all (wfU n q))=true) (hds:((lo.take h).all fun o=>match o.dst with | some d=>(Γ.all fun p=>!Nat.beq p.1 d) | none=>true)=true) (k:T β n ds Γ Δr (Q (.panic c))):
 T β n ds Γ Δ ((Code.region id lo.toArray true).wpIn (fw r) 0 P Q):=fun m L a w x y z=>by
 rw [a0f]at hB
 obtain⟨hB,hwf⟩:=hB
 refine wpIn_region_any hm ?_
 have hz:∀ i:Nat,(Array.replicate lo.toArray.size false).getD i false=false:=fun i=>by
  simp_all [Array.getD]
 have hlo:lo.toArray=(lo.take h++ob :: lo.drop (h+1)).toArray:=by rw [<- hob,a1f]
 have hlen:(lo.take h).length=ods.length:=by rw [hle,hol]
 have hn':=aCs (k:=0) hlen
 have hsz:lo.toArray.size=(lo.take h).length+((lo.drop (h+1)).length+1):=by rw [hlo];simp
 refine netP_run (head:=lo.take h) (tail:=lo.drop (h+1)) (ods:=ods) (q:=q) (D:=dOf Δ) hlo hlen.symm (by rw [hle];exact aHf hu hB) (by rw [<- hq,zL,hΔ]) k (fun o ho t φ ht hd=>?_) lo.toArray.size (gL 0 (lo.take h) ods) _ env0 (lk Γ) m L a _ hn (fun _ _ h=>h)
  ⟨x.size,x.Aa,x.get⟩ (by rw [<- hq,zL];exact y) z.drawn (fun x hx=>?_) aBp (fun i o _ h=>by rw [hz]at h;cases h) (fun i hi=>?_) (fun i _=>hz i) (by simp) (by omega)
 ·have h1:=a0o.1 hds o ho;rw [hd]at h1;have h2:=a0o.1 h1 _ (lk_mem ht);simp at h2
 ·obtain⟨j,h1,h2,h3⟩:=zK hx;rw [a1q]at h1;rw [h1];refine⟨h2,h3,fun e=>?_⟩
  obtain⟨u,h4,h5⟩:=hu.get h3;have h6:=a0o.1 hwf (x.2.1,u) (a0X (List.getElem?_zip_eq_some.2 ⟨h2,h4⟩));simp only [wfU,a0f,a0o,decide_eq_true_eq]at h6;obtain⟨⟨h7,h8⟩,h9⟩:=h6;refine⟨fun t ht=>?_,fun p hp=>?_,?_⟩
  ·rw [ht]at h7;exact a1k h7
  ·rw [(h5.1 e).1]at hp;exact a1k (h8 p hp)
  ·rw [(h5.1 e).1];exact h9
 ·refine⟨fun _=>?_,fun _=>hz i⟩
  obtain⟨x,h1,h2⟩:=aCw (k:=0) hlen hi;exact⟨x,h1,by omega⟩
theorem vO {g:Operand} {args:List Operand} {ts:Array TypeId} {f:FuncId} {first captured:Array Value} {φs ψs:List AF} {τ:Tk} {D:Nat->Tk} {c:List PanicEntry} (hw:bX ops Γ o) (ho:o.op= .call { callee:= .value g,args:=args.toArray,argTypes:=ts })
 (hg:Has Γ g (fEq (.func (.func f) first captured))) (hargs:aM Γ args φs) (hall:first.toList.map fEq++φs++captured.toList.map fEq=ψs) (hf:Af P f) (hc:FnP P f ψs [τ] c):NC P r ops (vW P r ops o τ c) [] e (lk Γ) D:=
 ⟨hw,fun β n ds m L R a w K Q hF hL hS hk=>by
  have he:=nB hF;have hge:a.eval g=_:=he.get hg (by rw [ho];simp [Op.operands,Call.operands])
  have hall':aU ψs m (first.toList++args.map a.eval++captured.toList):=hall ▸ (((iW _).append (hargs.all' he (by rw [ho];intro x hx;simp [Op.operands,Call.operands,hx]))).append (iW _))
  refine lW ho hge rfl hf (hc m L _ hall' hL) hS (by grind) (fun m' L' c' w' hle he hS'=>?_) (fun m' L' he=>by cases he)
  cases he;exact hk m' w' hle (by grind [St.drop])⟩
end
end Go.SW
namespace Go.Proofs.YtpbeacokfapklaaGreatDoor
open Go.SX Go.SW Go.Dt
theorem bM:Tryz.prog.follows .mixedOrders=true:=by kernel_rfl
theorem aBH:arrB Tryz.prog 88 17 3=true:=by kernel_rfl
theorem aHR:jI Tryz.prog 100 [(0,1),(1,1),(2,1)] (.agg #[.slice none 0 0, .int .i64 0, .bool false]):=⟨(by kernel_rfl:iT Tryz.prog 100=some [(0,1),(1,1),(2,1)]),(by kernel_rfl:cT Tryz.prog 100=some (.agg #[.slice none 0 0, .int .i64 0, .bool false]))⟩
theorem aHp:jI Tryz.prog 150 [(0,4),(4,1),(5,1),(6,1),(7,1)] (.agg #[.int .i64 0, .slice none 0 0, .slice none 0 0, .int .i64 0, .slice none 0 0, .slice none 0 0, .map none, .slice none 0 0]):=⟨(by kernel_rfl:iT Tryz.prog 150=some [(0,4),(4,1),(5,1),(6,1),(7,1)]),(by kernel_rfl:cT Tryz.prog 150=some (.agg #[.int .i64 0, .slice none 0 0, .slice none 0 0, .int .i64 0, .slice none 0 0, .slice none 0 0, .map none, .slice none 0 0]))⟩
theorem aF5:jI Tryz.prog 190 [] (.agg #[]):=⟨(by kernel_rfl:iT Tryz.prog 190=some []),(by kernel_rfl:cT Tryz.prog 190=some (.agg #[]))⟩
theorem aIh:jI Tryz.prog 214 [(0,1),(1,1),(2,1)] (.agg #[.slice none 0 0, .slice none 0 0, .bool false]):=⟨(by kernel_rfl:iT Tryz.prog 214=some [(0,1),(1,1),(2,1)]),(by kernel_rfl:cT Tryz.prog 214=some (.agg #[.slice none 0 0, .slice none 0 0, .bool false]))⟩
theorem lX:jI Tryz.prog 25 [(0,1),(1,1),(2,1),(3,1)] (.agg #[.int .i64 0, .slice none 0 0, .slice none 0 0, .int .i64 0]):=⟨(by kernel_rfl:iT Tryz.prog 25=some [(0,1),(1,1),(2,1),(3,1)]),(by kernel_rfl:cT Tryz.prog 25=some (.agg #[.int .i64 0, .slice none 0 0, .slice none 0 0, .int .i64 0]))⟩
theorem aDo:jI Tryz.prog 54 [(0,1),(1,1),(2,1)] (.agg #[.int .i64 0, .int .i64 0, .int .i64 0]):=⟨(by kernel_rfl:iT Tryz.prog 54=some [(0,1),(1,1),(2,1)]),(by kernel_rfl:cT Tryz.prog 54=some (.agg #[.int .i64 0, .int .i64 0, .int .i64 0]))⟩
theorem nW:jI Tryz.prog 59 [(0,1),(1,1)] (.agg #[.int .i64 0, .int .i64 0]):=⟨(by kernel_rfl:iT Tryz.prog 59=some [(0,1),(1,1)]),(by kernel_rfl:cT Tryz.prog 59=some (.agg #[.int .i64 0, .int .i64 0]))⟩
theorem aCE:jI Tryz.prog 80 [(0,1),(1,1)] (.agg #[.int .i64 0, .int .i64 0]):=⟨(by kernel_rfl:iT Tryz.prog 80=some [(0,1),(1,1)]),(by kernel_rfl:cT Tryz.prog 80=some (.agg #[.int .i64 0, .int .i64 0]))⟩
theorem aD0:jI Tryz.prog 82 [(0,1),(1,1)] (.agg #[.int .i64 0, .int .i64 0]):=⟨(by kernel_rfl:iT Tryz.prog 82=some [(0,1),(1,1)]),(by kernel_rfl:cT Tryz.prog 82=some (.agg #[.int .i64 0, .int .i64 0]))⟩
theorem ty_bu_84:jI Tryz.prog 84 [(0,1),(1,1),(2,1)] (.agg #[.int .i64 0, .slice none 0 0, .int .i64 0]):=⟨(by kernel_rfl:iT Tryz.prog 84=some [(0,1),(1,1),(2,1)]),(by kernel_rfl:cT Tryz.prog 84=some (.agg #[.int .i64 0, .slice none 0 0, .int .i64 0]))⟩
theorem aBo:jI Tryz.prog 93 [] (.agg #[]):=⟨(by kernel_rfl:iT Tryz.prog 93=some []),(by kernel_rfl:cT Tryz.prog 93=some (.agg #[]))⟩
theorem aAx:oL Tryz.prog 148 bG (.agg #[.int .i64 0, .int .i64 0]):=⟨3,59,by kernel_rfl,by kernel_rfl,by kernel_rfl⟩
theorem wX:oL Tryz.prog 222 bG (.bool false):=⟨3,4,by kernel_rfl,by kernel_rfl,by kernel_rfl⟩
theorem aFG:niB Tryz.prog 190=true:=by kernel_rfl
theorem aAO:niB Tryz.prog 93=true:=by kernel_rfl
theorem aHK:vM Tryz.prog 54=true:=by kernel_rfl
theorem aFZ:two Tryz.prog 59=true:=by kernel_rfl
theorem aGt:two Tryz.prog 80=true:=by kernel_rfl
theorem aGb:two Tryz.prog 82=true:=by kernel_rfl
theorem aAe:Tryz.prog.underlying 20=some (.interface ((Tryz.prog.underlying 20).elim #[] fun | .interface ms=>ms | _=>#[])):=by kernel_rfl
theorem tX:Tryz.prog.underlying 3=some (.int .i64):=by kernel_rfl
theorem sN:Tryz.prog.underlying 5=some (.int .u8):=by kernel_rfl
theorem aF0:cT Tryz.prog 190=some (.agg #[]):=by kernel_rfl
theorem ty_zb_93:cT Tryz.prog 93=some (.agg #[]):=by kernel_rfl
theorem aG9:SX.Zero Tryz.prog 122 (.pointer none):=(by kernel_rfl:cT Tryz.prog 122=some (.pointer none))
theorem aGG:SX.Zero Tryz.prog 190 (.agg #[]):=(by kernel_rfl:cT Tryz.prog 190=some (.agg #[]))
theorem tU:SX.Zero Tryz.prog 25 (.agg #[.int .i64 0, .slice none 0 0, .slice none 0 0, .int .i64 0]):=(by kernel_rfl:cT Tryz.prog 25=some (.agg #[.int .i64 0, .slice none 0 0, .slice none 0 0, .int .i64 0]))
theorem ty_ze_29:SX.Zero Tryz.prog 29 (.int .i64 0):=(by kernel_rfl:cT Tryz.prog 29=some (.int .i64 0))
theorem ty_ze_3:SX.Zero Tryz.prog 3 (.int .i64 0):=(by kernel_rfl:cT Tryz.prog 3=some (.int .i64 0))
theorem aAt:SX.Zero Tryz.prog 4 (.bool false):=(by kernel_rfl:cT Tryz.prog 4=some (.bool false))
theorem kV:SX.Zero Tryz.prog 54 (.agg #[.int .i64 0, .int .i64 0, .int .i64 0]):=(by kernel_rfl:cT Tryz.prog 54=some (.agg #[.int .i64 0, .int .i64 0, .int .i64 0]))
theorem aB6:SX.Zero Tryz.prog 59 (.agg #[.int .i64 0, .int .i64 0]):=(by kernel_rfl:cT Tryz.prog 59=some (.agg #[.int .i64 0, .int .i64 0]))
theorem aDR:SX.Zero Tryz.prog 72 (.slice none 0 0):=(by kernel_rfl:cT Tryz.prog 72=some (.slice none 0 0))
theorem nS:SX.Zero Tryz.prog 78 (.agg #[.slice none 0 0, .slice none 0 0, .slice none 0 0]):=(by kernel_rfl:cT Tryz.prog 78=some (.agg #[.slice none 0 0, .slice none 0 0, .slice none 0 0]))
theorem aFh:SX.Zero Tryz.prog 80 (.agg #[.int .i64 0, .int .i64 0]):=(by kernel_rfl:cT Tryz.prog 80=some (.agg #[.int .i64 0, .int .i64 0]))
theorem aAd:SX.Zero Tryz.prog 82 (.agg #[.int .i64 0, .int .i64 0]):=(by kernel_rfl:cT Tryz.prog 82=some (.agg #[.int .i64 0, .int .i64 0]))
theorem mK:SX.Zero Tryz.prog 84 (.agg #[.int .i64 0, .slice none 0 0, .int .i64 0]):=(by kernel_rfl:cT Tryz.prog 84=some (.agg #[.int .i64 0, .slice none 0 0, .int .i64 0]))
theorem ty_ze_87:SX.Zero Tryz.prog 87 (.agg #[.string ⟨#[]⟩, .int .i64 0, .nilFunc]):=(by kernel_rfl:cT Tryz.prog 87=some (.agg #[.string ⟨#[]⟩, .int .i64 0, .nilFunc]))
theorem aEd:SX.Zero Tryz.prog 88 (.agg #[.string ⟨#[]⟩, .int .i64 0, .nilFunc, .string ⟨#[]⟩, .int .i64 0, .nilFunc, .string ⟨#[]⟩, .int .i64 0, .nilFunc, .string ⟨#[]⟩, .int .i64 0, .nilFunc, .string ⟨#[]⟩, .int .i64 0, .nilFunc, .string ⟨#[]⟩, .int .i64 0, .nilFunc, .string ⟨#[]⟩, .int .i64 0, .nilFunc, .string ⟨#[]⟩, .int .i64 0, .nilFunc, .string ⟨#[]⟩, .int .i64 0, .nilFunc, .string ⟨#[]⟩, .int .i64 0, .nilFunc, .string ⟨#[]⟩, .int .i64 0, .nilFunc, .string ⟨#[]⟩, .int .i64 0, .nilFunc, .string ⟨#[]⟩, .int .i64 0, .nilFunc, .string ⟨#[]⟩, .int .i64 0, .nilFunc, .string ⟨#[]⟩, .int .i64 0, .nilFunc, .string ⟨#[]⟩, .int .i64 0, .nilFunc, .string ⟨#[]⟩, .int .i64 0, .nilFunc]):=(by kernel_rfl:cT Tryz.prog 88=some (.agg #[.string ⟨#[]⟩, .int .i64 0, .nilFunc, .string ⟨#[]⟩, .int .i64 0, .nilFunc, .string ⟨#[]⟩, .int .i64 0, .nilFunc, .string ⟨#[]⟩, .int .i64 0, .nilFunc, .string ⟨#[]⟩, .int .i64 0, .nilFunc, .string ⟨#[]⟩, .int .i64 0, .nilFunc, .string ⟨#[]⟩, .int .i64 0, .nilFunc, .string ⟨#[]⟩, .int .i64 0, .nilFunc, .string ⟨#[]⟩, .int .i64 0, .nilFunc, .string ⟨#[]⟩, .int .i64 0, .nilFunc, .string ⟨#[]⟩, .int .i64 0, .nilFunc, .string ⟨#[]⟩, .int .i64 0, .nilFunc, .string ⟨#[]⟩, .int .i64 0, .nilFunc, .string ⟨#[]⟩, .int .i64 0, .nilFunc, .string ⟨#[]⟩, .int .i64 0, .nilFunc, .string ⟨#[]⟩, .int .i64 0, .nilFunc, .string ⟨#[]⟩, .int .i64 0, .nilFunc]))
theorem ty_ze_93:SX.Zero Tryz.prog 93 (.agg #[]):=(by kernel_rfl:cT Tryz.prog 93=some (.agg #[]))
def aEF (b:Nat) (x:AR) (v0 v1 v2:Value):List Tk:=[aA b 150 [aT .i64 x.AB.AH,fSl aE x.AB.AD,fSl aF x.AB.Code,aT .i64 x.AB.AG,fSl (aJ .i64) x.AU,fEq v0,fEq v1,fEq v2],aB v0 3 (aJ .i64) x.last,sY bG (fun y=>fSt aZ y) v1 x.AK,aB v2 3 (aJ .i64) x.AT]
def aFf (b:Nat) (x:AR) (v0 v1:Value):List Tk:=[tEx (aEF b x v0 v1)]
def aDC (b:Nat) (x:AR) (v0:Value):List Tk:=[tEx (aFf b x v0)]
def dC (b:Nat) (x:AR):Tk:=tEx (aDC b x)
theorem dG {β:bA} {n:Nat} {ds:List Deferred} {Γ:Ctx} {Δ:List Tk} {F:Act->World->Prop} {b:Nat} {x:AR} (h:∀ v0 v1 v2,T β n ds Γ (aA b 150 [aT .i64 x.AB.AH,fSl aE x.AB.AD,fSl aF x.AB.Code,aT .i64 x.AB.AG,fSl (aJ .i64) x.AU,fEq v0,fEq v1,fEq v2] :: aB v0 3 (aJ .i64) x.last :: sY bG (fun y=>fSt aZ y) v1 x.AK :: aB v2 3 (aJ .i64) x.AT :: Δ) F):T β n ds Γ (dC b x :: Δ) F:=sG (fun v0=>sG (fun v1=>sG (fun v2=>h v0 v1 v2)))
theorem aGP {β:bA} {n:Nat} {ds:List Deferred} {Γ:Ctx} {Δ:List Tk} {F:Act->World->Prop} {b:Nat} {x:AR} {v0 v1 v2:Value} (h:T β n ds Γ (dC b x :: Δ) F):T β n ds Γ (aA b 150 [aT .i64 x.AB.AH,fSl aE x.AB.AD,fSl aF x.AB.Code,aT .i64 x.AB.AG,fSl (aJ .i64) x.AU,fEq v0,fEq v1,fEq v2] :: aB v0 3 (aJ .i64) x.last :: sY bG (fun y=>fSt aZ y) v1 x.AK :: aB v2 3 (aJ .i64) x.AT :: Δ) F:=sK (f:=aEF b x v0 v1) v2 (sK (f:=aFf b x v0) v1 (sK (f:=aDC b x) v0 (h)))
def aIo (b:Nat) (x:AJ):List Tk:=[aA b 59 [aT .i64 x.AM,aT .i64 x.AS]]
def qJ (b:Nat) (x:AJ):Tk:=tOne (aIo b x)
theorem lY {β:bA} {n:Nat} {ds:List Deferred} {Γ:Ctx} {Δ:List Tk} {F:Act->World->Prop} {b:Nat} {x:AJ} (h:T β n ds Γ (aA b 59 [aT .i64 x.AM,aT .i64 x.AS] :: Δ) F):T β n ds Γ (qJ b x :: Δ) F:=aDK h
theorem aGJ {β:bA} {n:Nat} {ds:List Deferred} {Γ:Ctx} {Δ:List Tk} {F:Act->World->Prop} {b:Nat} {x:AJ} (h:T β n ds Γ (qJ b x :: Δ) F):T β n ds Γ (aA b 59 [aT .i64 x.AM,aT .i64 x.AS] :: Δ) F:=aEI h
def aE0 (b:Nat) (x:(List Int)) (v0:Value):List Tk:=[aA b 72 [fEq v0],aB v0 5 (aJ .u8) x]
def aAi (b:Nat) (x:(List Int)):Tk:=tEx (aE0 b x)
theorem hZ {β:bA} {n:Nat} {ds:List Deferred} {Γ:Ctx} {Δ:List Tk} {F:Act->World->Prop} {b:Nat} {x:(List Int)} (h:∀ v0,T β n ds Γ (aA b 72 [fEq v0] :: aB v0 5 (aJ .u8) x :: Δ) F):T β n ds Γ (aAi b x :: Δ) F:=sG (fun v0=>h v0)
theorem hO {β:bA} {n:Nat} {ds:List Deferred} {Γ:Ctx} {Δ:List Tk} {F:Act->World->Prop} {b:Nat} {x:(List Int)} {v0:Value} (h:T β n ds Γ (aAi b x :: Δ) F):T β n ds Γ (aA b 72 [fEq v0] :: aB v0 5 (aJ .u8) x :: Δ) F:=sK (f:=aE0 b x) v0 (h)
def aE6 (b:Nat) (x:Ref09_flow) (v0 v1:Value):List Tk:=[aA b 214 [fEq v0,fEq v1,aL x.wrong],aB v0 59 aZ x.AK,aB v1 3 (aJ .i64) x.wait]
def aET (b:Nat) (x:Ref09_flow) (v0:Value):List Tk:=[tEx (aE6 b x v0)]
def lU (b:Nat) (x:Ref09_flow):Tk:=tEx (aET b x)
theorem fE {β:bA} {n:Nat} {ds:List Deferred} {Γ:Ctx} {Δ:List Tk} {F:Act->World->Prop} {b:Nat} {x:Ref09_flow} (h:∀ v0 v1,T β n ds Γ (aA b 214 [fEq v0,fEq v1,aL x.wrong] :: aB v0 59 aZ x.AK :: aB v1 3 (aJ .i64) x.wait :: Δ) F):T β n ds Γ (lU b x :: Δ) F:=sG (fun v0=>sG (fun v1=>h v0 v1))
theorem aH1 {β:bA} {n:Nat} {ds:List Deferred} {Γ:Ctx} {Δ:List Tk} {F:Act->World->Prop} {b:Nat} {x:Ref09_flow} {v0 v1:Value} (h:T β n ds Γ (lU b x :: Δ) F):T β n ds Γ (aA b 214 [fEq v0,fEq v1,aL x.wrong] :: aB v0 59 aZ x.AK :: aB v1 3 (aJ .i64) x.wait :: Δ) F:=sK (f:=aE6 b x v0) v1 (sK (f:=aET b x) v0 (h))
def aF2 (b:Nat) (x:bH):List Tk:=[aA b 100 [fSl (aJ .u8) x.b,aT .i64 x.at_,aL x.bad]]
def kO (b:Nat) (x:bH):Tk:=tOne (aF2 b x)
theorem eT {β:bA} {n:Nat} {ds:List Deferred} {Γ:Ctx} {Δ:List Tk} {F:Act->World->Prop} {b:Nat} {x:bH} (h:T β n ds Γ (aA b 100 [fSl (aJ .u8) x.b,aT .i64 x.at_,aL x.bad] :: Δ) F):T β n ds Γ (kO b x :: Δ) F:=aDK h
theorem aGL {β:bA} {n:Nat} {ds:List Deferred} {Γ:Ctx} {Δ:List Tk} {F:Act->World->Prop} {b:Nat} {x:bH} (h:T β n ds Γ (kO b x :: Δ) F):T β n ds Γ (aA b 100 [fSl (aJ .u8) x.b,aT .i64 x.at_,aL x.bad] :: Δ) F:=aEI h
def usL:List (Nat × Nat):=[(22,78),(23,54),(26,5),(50,3),(55,59),(72,5),(74,80),(75,82),(76,84),(196,4)]
theorem usK:(usL.all fun p=>onb (slB Tryz.prog p.1) p.2)=true:=by kernel_rfl
theorem us {t e:Nat} (h:tb usL t=some e):pU Tryz.prog t (.slice e):=us_of usK h
def elL:List (Nat × Nat):=[(22,3),(23,3),(26,1),(50,1),(55,2),(72,1),(74,2),(75,2),(76,3),(196,1)]
theorem elK:(elL.all fun p=>onb (qD Tryz.prog p.1) p.2)=true:=by kernel_rfl
theorem el {t e:Nat} (h:tb elL t=some e):kI Tryz.prog t e:=el_of elK h
def szL:List (Nat × Nat):=[(3,1),(4,1),(22,1),(23,1),(25,4),(29,1),(50,1),(54,3),(55,1),(59,2),(72,1),(74,1),(75,1),(76,1),(78,3),(80,2),(82,2),(84,3),(87,3),(88,51),(93,0),(122,1),(190,0)]
theorem szK:(szL.all fun p=>onb (oI Tryz.prog p.1) p.2)=true:=by kernel_rfl
theorem sz {t e:Nat} (h:tb szL t=some e):jJ Tryz.prog t e:=sz_of szK h
def agL:List (Nat × Nat):=[(25,4),(54,3),(59,2),(78,3),(80,2),(82,2),(84,3),(87,3)]
theorem agK:(agL.all fun p=>aggB Tryz.prog p.1 p.2)=true:=by kernel_rfl
theorem ag {t e:Nat} (h:tb agL t=some e):jA Tryz.prog t e:=ag_of agK h
def scL:List (Nat):=[3,4,5,22,23,26,29,50,52,55,72,74,75,76,85,122,148]
theorem scK:(scL.all fun p=>scalB Tryz.prog p)=true:=by kernel_rfl
theorem sc {t:Nat} (h:(scL.any fun p=>Nat.beq p t)=true):iX Tryz.prog t:=sc_of scK h
def cbL:List (Nat):=[6,7,8,9,10,11,12,13,18,28,29,30,31,32,33,34,35,36,37,38,39,40,41,48,53,55,59,64,65,66,67,68,69,70,71,72,73,74,75,76,92,93,94,95,96,97,98,101,105,112,113,114,125,126,127,128,129,130,131,141,142,143,144,145,146,147,170,171]
theorem cbK:(cbL.all fun p=>callB Tryz.prog p)=true:=by kernel_rfl
theorem cb {t:Nat} (h:(cbL.any fun p=>Nat.beq p t)=true):Af Tryz.prog t:=cb_of cbK h
def faL:List (Nat × Nat × Nat):=[(25,0,0),(25,1,1),(25,2,2),(25,3,3),(54,0,0),(54,1,1),(54,2,2),(59,0,0),(59,1,1),(78,0,0),(78,1,1),(78,2,2),(80,0,0),(80,1,1),(82,0,0),(82,1,1),(84,0,0),(84,1,1),(84,2,2),(87,1,1),(87,2,2),(100,0,0),(100,1,1),(100,2,2),(150,0,0),(150,1,4),(150,2,5),(150,3,6),(150,4,7),(214,0,0),(214,1,1),(214,2,2)]
theorem faK:(faL.all fun p=>onb (aAw Tryz.prog p.1 p.2.1) p.2.2)=true:=by kernel_rfl
theorem fa {s f t:Nat} (h:tb3 faL s f=some t):qG Tryz.prog s f t:=fa_of faK h
def etL:List (Nat × Nat × Nat × Nat):=[(22,78,3,72),(23,54,3,24),(26,5,1,1),(50,3,1,8),(55,59,2,16),(72,5,1,1),(74,80,2,16),(75,82,2,16),(76,84,3,40),(196,4,1,1)]
theorem etK:(etL.all fun p=>elB Tryz.prog p.1 p.2.1 p.2.2.1 p.2.2.2)=true:=by kernel_rfl
theorem et {t e s b:Nat} (h:tb4 etL t=some (e,s,b)):ElT Tryz.prog t e s b:=et_of etK h
theorem ox {Γ:Ctx} {o:Oper} {φ:AF} (h:OpT Tryz.prog Γ [] o φ:=by first
 | exact o_move rfl hh
 | exact o_load rfl hh (sc rfl) (by exact rfl)
 | exact eF rfl hh hh (el (by exact rfl)) (by with_reducible assumption)
 | exact o_len rfl hh (us rfl)
 | exact o_pick_f rfl hh cf hh
 | exact o_pick_t rfl hh ct hh
 | exact o_lss rfl hh hh
 | exact o_eql rfl hh hh
 | exact o_neq rfl hh hh
 | exact o_gtr rfl hh hh
 | exact o_leq rfl hh hh
 | exact o_geq rfl hh hh
 | exact mE rfl hh hh (by with_reducible assumption)
 | exact tQ rfl hh
 | exact aGA rfl hh (by exact rfl)
 | exact o_not rfl hh
 | exact o_nilP rfl hh
 | exact o_nilE rfl hh
 | exact o_loadS rfl hh (ag (by exact rfl))
 | exact o_fieldB _ rfl hh (fa rfl) rfl
 | exact yF (t':=aJ _) rfl hh (fa rfl) (by exact rfl)
 | exact yF (t':=tSl _) rfl hh (fa rfl) (by exact rfl)
 | exact yF (t':=fV) rfl hh (fa rfl) (by exact rfl)
 | exact yF (t':=tStr) rfl hh (fa rfl) (by exact rfl)
 | exact yF (t':=tRaw) rfl hh (fa rfl) (by exact rfl)
 | exact xJ rfl hh hh (by with_reducible assumption)
 | exact o_mul rfl hh hh (by with_reducible assumption)
 | exact o_shr rfl hh hh (by with_reducible assumption)
 | exact o_min rfl hh hh
 | exact o_mulW rfl hh hh
 | exact o_addW rfl hh hh
 | exact o_and rfl hh hh):OpT Tryz.prog Γ [] o φ:=h
theorem oo {Γ:Ctx} {o:Oper} {φ:AF} {τ:Tk} (h:OpT Tryz.prog Γ [τ] o φ:=by first
 | exact o_loadB rfl hh (sc rfl) (by exact rfl) Ent.rfl
 | exact o_loadBS rfl hh (ag (by exact rfl)) (by exact rfl) (by exact rfl)
 | exact rX rfl hh hh (el (by exact rfl)) (by with_reducible assumption)
 | exact o_lenR rfl hh (us rfl)):OpT Tryz.prog Γ [τ] o φ:=h
theorem Z1 {P Q:Prop} (q:Q) (h:bP Q->P:=by
 intro q
 first
 | refine Nn ?_
 | refine Ym ?_
 | refine Sr ?_
 | refine Ya ?_
 | refine Zy (by exact trivial) ox (by exact rfl) (by exact rfl) ?_
 | refine Zk (by exact⟨_,_,rfl,rfl,rfl⟩) cn (by exact rfl) (by exact rfl) ?_
 | refine Zg (by exact⟨_,_,rfl,rfl,rfl⟩) cc ox (by exact rfl) (by exact rfl) ?_
 | refine aEq ?_
 | refine T_cond_t hh ct ?_
 | refine T_cond_f hh cf ?_
 | refine Rr ?_
 | refine aDJ ?_
 | refine T_in_ret ?_
 | refine aHD ?_
 | refine T_skip ?_
 | refine T_block ?_
 | refine aDF ?_
 | refine T_in_n ?_
 | refine T_exit ?_
 | refine T_in_hit ?_
 | refine aGK rfl ?_
 | refine T_retc ?_
 | refine N_done rfl ?_
 | refine aIx ?_
 | refine aHv ?_
 | refine T_nil ?_
 | refine Zo 0 (by exact trivial) (by exact rfl) oo (by exact rfl) (by exact rfl) ?_
 | refine Zo 1 (by exact trivial) (by exact rfl) oo (by exact rfl) (by exact rfl) ?_
 | refine Zo 2 (by exact trivial) (by exact rfl) oo (by exact rfl) (by exact rfl) ?_
 | refine Zo 3 (by exact trivial) (by exact rfl) oo (by exact rfl) (by exact rfl) ?_
 | refine Zo 4 (by exact trivial) (by exact rfl) oo (by exact rfl) (by exact rfl) ?_
 | refine Zo 5 (by exact trivial) (by exact rfl) oo (by exact rfl) (by exact rfl) ?_
 | refine Zo 6 (by exact trivial) (by exact rfl) oo (by exact rfl) (by exact rfl) ?_
 | refine Zo 7 (by exact trivial) (by exact rfl) oo (by exact rfl) (by exact rfl) ?_
 | refine Zh 0 (by exact⟨_,_,rfl,rfl,rfl⟩) cc (by exact rfl) oo (by exact rfl) (by exact rfl) ?_
 | refine Zh 1 (by exact⟨_,_,rfl,rfl,rfl⟩) cc (by exact rfl) oo (by exact rfl) (by exact rfl) ?_
 | refine Zh 2 (by exact⟨_,_,rfl,rfl,rfl⟩) cc (by exact rfl) oo (by exact rfl) (by exact rfl) ?_
 | refine Zh 3 (by exact⟨_,_,rfl,rfl,rfl⟩) cc (by exact rfl) oo (by exact rfl) (by exact rfl) ?_
 | refine Zh 4 (by exact⟨_,_,rfl,rfl,rfl⟩) cc (by exact rfl) oo (by exact rfl) (by exact rfl) ?_
 | refine Zh 5 (by exact⟨_,_,rfl,rfl,rfl⟩) cc (by exact rfl) oo (by exact rfl) (by exact rfl) ?_
 | refine Zh 6 (by exact⟨_,_,rfl,rfl,rfl⟩) cc (by exact rfl) oo (by exact rfl) (by exact rfl) ?_
 | refine Zh 7 (by exact⟨_,_,rfl,rfl,rfl⟩) cc (by exact rfl) oo (by exact rfl) (by exact rfl) ?_
 exact q.h):P:=h ⟨q⟩
theorem Z2 {P Q:Prop} (q:Q) (h:bP Q->P:=by
 intro q
 refine Z1 ?_
 refine Z1 ?_
 exact q.h):P:=h ⟨q⟩
theorem Z3 {P Q:Prop} (q:Q) (h:bP Q->P:=by
 intro q
 refine Z1 ?_
 refine Z1 ?_
 refine Z1 ?_
 exact q.h):P:=h ⟨q⟩
theorem Z4 {P Q:Prop} (q:Q) (h:bP Q->P:=by
 intro q
 refine Z1 ?_
 refine Z1 ?_
 refine Z1 ?_
 refine Z1 ?_
 exact q.h):P:=h ⟨q⟩
theorem Z5 {P Q:Prop} (q:Q) (h:bP Q->P:=by
 intro q
 refine Z2 ?_
 refine Z3 ?_
 exact q.h):P:=h ⟨q⟩
theorem Z6 {P Q:Prop} (q:Q) (h:bP Q->P:=by
 intro q
 refine Z3 ?_
 refine Z3 ?_
 exact q.h):P:=h ⟨q⟩
theorem Z7 {P Q:Prop} (q:Q) (h:bP Q->P:=by
 intro q
 refine Z3 ?_
 refine Z4 ?_
 exact q.h):P:=h ⟨q⟩
theorem Z8 {P Q:Prop} (q:Q) (h:bP Q->P:=by
 intro q
 refine Z4 ?_
 refine Z4 ?_
 exact q.h):P:=h ⟨q⟩
theorem Z9 {P Q:Prop} (q:Q) (h:bP Q->P:=by
 intro q
 refine Z4 ?_
 refine Z5 ?_
 exact q.h):P:=h ⟨q⟩
theorem Z10 {P Q:Prop} (q:Q) (h:bP Q->P:=by
 intro q
 refine Z5 ?_
 refine Z5 ?_
 exact q.h):P:=h ⟨q⟩
theorem Z11 {P Q:Prop} (q:Q) (h:bP Q->P:=by
 intro q
 refine Z5 ?_
 refine Z6 ?_
 exact q.h):P:=h ⟨q⟩
theorem Z12 {P Q:Prop} (q:Q) (h:bP Q->P:=by
 intro q
 refine Z6 ?_
 refine Z6 ?_
 exact q.h):P:=h ⟨q⟩
theorem B1 {α γ:Type} {o:Option α} {f:α->Option γ} {r:γ} {P Q:Prop} (e:o.bind f=some r) (q:∀ x,o=some x->f x=some r->Q) (h:bP Q->P:=by
 intro q
 refine Z1 ?_
 exact q.h):P:=bs (fun x a b=>h ⟨q x a b⟩) e
theorem B1z {α γ:Type} {o:Option α} {f:α->Option γ} {r:γ} {P Q:Prop} (q:∀ x,o=some x->f x=some r->Q) (h:bP Q->P:=by
 intro q
 refine Z1 ?_
 exact q.h) (e:o.bind f=some r):P:=bs (fun x a b=>h ⟨q x a b⟩) e
theorem I1z {γ:Type} {p:Prop} [Decidable p] {a b:Option γ} {r:γ} {P Q:Prop} (k:decide p=true->a=some r->Q) (k':decide p=false->b=some r->Q) (h:bP Q->P:=by
 intro q
 refine Z1 ?_
 exact q.h) (e:(if p then a else b)=some r):P:=is (fun c a=>h ⟨k c a⟩) (fun c a=>h ⟨k' c a⟩) e
theorem B2 {α γ:Type} {o:Option α} {f:α->Option γ} {r:γ} {P Q:Prop} (e:o.bind f=some r) (q:∀ x,o=some x->f x=some r->Q) (h:bP Q->P:=by
 intro q
 refine Z2 ?_
 exact q.h):P:=bs (fun x a b=>h ⟨q x a b⟩) e
theorem I2 {γ:Type} {p:Prop} [Decidable p] {a b:Option γ} {r:γ} {P Q:Prop} (e:(if p then a else b)=some r) (k:decide p=true->a=some r->Q) (k':decide p=false->b=some r->Q) (h:bP Q->P:=by
 intro q
 refine Z2 ?_
 exact q.h):P:=is (fun c a=>h ⟨k c a⟩) (fun c a=>h ⟨k' c a⟩) e
theorem B2z {α γ:Type} {o:Option α} {f:α->Option γ} {r:γ} {P Q:Prop} (q:∀ x,o=some x->f x=some r->Q) (h:bP Q->P:=by
 intro q
 refine Z2 ?_
 exact q.h) (e:o.bind f=some r):P:=bs (fun x a b=>h ⟨q x a b⟩) e
theorem I2z {γ:Type} {p:Prop} [Decidable p] {a b:Option γ} {r:γ} {P Q:Prop} (k:decide p=true->a=some r->Q) (k':decide p=false->b=some r->Q) (h:bP Q->P:=by
 intro q
 refine Z2 ?_
 exact q.h) (e:(if p then a else b)=some r):P:=is (fun c a=>h ⟨k c a⟩) (fun c a=>h ⟨k' c a⟩) e
theorem B3 {α γ:Type} {o:Option α} {f:α->Option γ} {r:γ} {P Q:Prop} (e:o.bind f=some r) (q:∀ x,o=some x->f x=some r->Q) (h:bP Q->P:=by
 intro q
 refine Z3 ?_
 exact q.h):P:=bs (fun x a b=>h ⟨q x a b⟩) e
theorem B3z {α γ:Type} {o:Option α} {f:α->Option γ} {r:γ} {P Q:Prop} (q:∀ x,o=some x->f x=some r->Q) (h:bP Q->P:=by
 intro q
 refine Z3 ?_
 exact q.h) (e:o.bind f=some r):P:=bs (fun x a b=>h ⟨q x a b⟩) e
theorem I3z {γ:Type} {p:Prop} [Decidable p] {a b:Option γ} {r:γ} {P Q:Prop} (k:decide p=true->a=some r->Q) (k':decide p=false->b=some r->Q) (h:bP Q->P:=by
 intro q
 refine Z3 ?_
 exact q.h) (e:(if p then a else b)=some r):P:=is (fun c a=>h ⟨k c a⟩) (fun c a=>h ⟨k' c a⟩) e
theorem B4 {α γ:Type} {o:Option α} {f:α->Option γ} {r:γ} {P Q:Prop} (e:o.bind f=some r) (q:∀ x,o=some x->f x=some r->Q) (h:bP Q->P:=by
 intro q
 refine Z4 ?_
 exact q.h):P:=bs (fun x a b=>h ⟨q x a b⟩) e
theorem I4 {γ:Type} {p:Prop} [Decidable p] {a b:Option γ} {r:γ} {P Q:Prop} (e:(if p then a else b)=some r) (k:decide p=true->a=some r->Q) (k':decide p=false->b=some r->Q) (h:bP Q->P:=by
 intro q
 refine Z4 ?_
 exact q.h):P:=is (fun c a=>h ⟨k c a⟩) (fun c a=>h ⟨k' c a⟩) e
theorem B4z {α γ:Type} {o:Option α} {f:α->Option γ} {r:γ} {P Q:Prop} (q:∀ x,o=some x->f x=some r->Q) (h:bP Q->P:=by
 intro q
 refine Z4 ?_
 exact q.h) (e:o.bind f=some r):P:=bs (fun x a b=>h ⟨q x a b⟩) e
theorem I4z {γ:Type} {p:Prop} [Decidable p] {a b:Option γ} {r:γ} {P Q:Prop} (k:decide p=true->a=some r->Q) (k':decide p=false->b=some r->Q) (h:bP Q->P:=by
 intro q
 refine Z4 ?_
 exact q.h) (e:(if p then a else b)=some r):P:=is (fun c a=>h ⟨k c a⟩) (fun c a=>h ⟨k' c a⟩) e
theorem B5 {α γ:Type} {o:Option α} {f:α->Option γ} {r:γ} {P Q:Prop} (e:o.bind f=some r) (q:∀ x,o=some x->f x=some r->Q) (h:bP Q->P:=by
 intro q
 refine Z5 ?_
 exact q.h):P:=bs (fun x a b=>h ⟨q x a b⟩) e
theorem I5 {γ:Type} {p:Prop} [Decidable p] {a b:Option γ} {r:γ} {P Q:Prop} (e:(if p then a else b)=some r) (k:decide p=true->a=some r->Q) (k':decide p=false->b=some r->Q) (h:bP Q->P:=by
 intro q
 refine Z5 ?_
 exact q.h):P:=is (fun c a=>h ⟨k c a⟩) (fun c a=>h ⟨k' c a⟩) e
theorem B5z {α γ:Type} {o:Option α} {f:α->Option γ} {r:γ} {P Q:Prop} (q:∀ x,o=some x->f x=some r->Q) (h:bP Q->P:=by
 intro q
 refine Z5 ?_
 exact q.h) (e:o.bind f=some r):P:=bs (fun x a b=>h ⟨q x a b⟩) e
theorem I5z {γ:Type} {p:Prop} [Decidable p] {a b:Option γ} {r:γ} {P Q:Prop} (k:decide p=true->a=some r->Q) (k':decide p=false->b=some r->Q) (h:bP Q->P:=by
 intro q
 refine Z5 ?_
 exact q.h) (e:(if p then a else b)=some r):P:=is (fun c a=>h ⟨k c a⟩) (fun c a=>h ⟨k' c a⟩) e
theorem B6 {α γ:Type} {o:Option α} {f:α->Option γ} {r:γ} {P Q:Prop} (e:o.bind f=some r) (q:∀ x,o=some x->f x=some r->Q) (h:bP Q->P:=by
 intro q
 refine Z6 ?_
 exact q.h):P:=bs (fun x a b=>h ⟨q x a b⟩) e
theorem I6 {γ:Type} {p:Prop} [Decidable p] {a b:Option γ} {r:γ} {P Q:Prop} (e:(if p then a else b)=some r) (k:decide p=true->a=some r->Q) (k':decide p=false->b=some r->Q) (h:bP Q->P:=by
 intro q
 refine Z6 ?_
 exact q.h):P:=is (fun c a=>h ⟨k c a⟩) (fun c a=>h ⟨k' c a⟩) e
theorem B6z {α γ:Type} {o:Option α} {f:α->Option γ} {r:γ} {P Q:Prop} (q:∀ x,o=some x->f x=some r->Q) (h:bP Q->P:=by
 intro q
 refine Z6 ?_
 exact q.h) (e:o.bind f=some r):P:=bs (fun x a b=>h ⟨q x a b⟩) e
theorem I6z {γ:Type} {p:Prop} [Decidable p] {a b:Option γ} {r:γ} {P Q:Prop} (k:decide p=true->a=some r->Q) (k':decide p=false->b=some r->Q) (h:bP Q->P:=by
 intro q
 refine Z6 ?_
 exact q.h) (e:(if p then a else b)=some r):P:=is (fun c a=>h ⟨k c a⟩) (fun c a=>h ⟨k' c a⟩) e
theorem B7 {α γ:Type} {o:Option α} {f:α->Option γ} {r:γ} {P Q:Prop} (e:o.bind f=some r) (q:∀ x,o=some x->f x=some r->Q) (h:bP Q->P:=by
 intro q
 refine Z7 ?_
 exact q.h):P:=bs (fun x a b=>h ⟨q x a b⟩) e
theorem I7 {γ:Type} {p:Prop} [Decidable p] {a b:Option γ} {r:γ} {P Q:Prop} (e:(if p then a else b)=some r) (k:decide p=true->a=some r->Q) (k':decide p=false->b=some r->Q) (h:bP Q->P:=by
 intro q
 refine Z7 ?_
 exact q.h):P:=is (fun c a=>h ⟨k c a⟩) (fun c a=>h ⟨k' c a⟩) e
theorem B7z {α γ:Type} {o:Option α} {f:α->Option γ} {r:γ} {P Q:Prop} (q:∀ x,o=some x->f x=some r->Q) (h:bP Q->P:=by
 intro q
 refine Z7 ?_
 exact q.h) (e:o.bind f=some r):P:=bs (fun x a b=>h ⟨q x a b⟩) e
theorem I7z {γ:Type} {p:Prop} [Decidable p] {a b:Option γ} {r:γ} {P Q:Prop} (k:decide p=true->a=some r->Q) (k':decide p=false->b=some r->Q) (h:bP Q->P:=by
 intro q
 refine Z7 ?_
 exact q.h) (e:(if p then a else b)=some r):P:=is (fun c a=>h ⟨k c a⟩) (fun c a=>h ⟨k' c a⟩) e
theorem B8 {α γ:Type} {o:Option α} {f:α->Option γ} {r:γ} {P Q:Prop} (e:o.bind f=some r) (q:∀ x,o=some x->f x=some r->Q) (h:bP Q->P:=by
 intro q
 refine Z8 ?_
 exact q.h):P:=bs (fun x a b=>h ⟨q x a b⟩) e
theorem B8z {α γ:Type} {o:Option α} {f:α->Option γ} {r:γ} {P Q:Prop} (q:∀ x,o=some x->f x=some r->Q) (h:bP Q->P:=by
 intro q
 refine Z8 ?_
 exact q.h) (e:o.bind f=some r):P:=bs (fun x a b=>h ⟨q x a b⟩) e
theorem I8z {γ:Type} {p:Prop} [Decidable p] {a b:Option γ} {r:γ} {P Q:Prop} (k:decide p=true->a=some r->Q) (k':decide p=false->b=some r->Q) (h:bP Q->P:=by
 intro q
 refine Z8 ?_
 exact q.h) (e:(if p then a else b)=some r):P:=is (fun c a=>h ⟨k c a⟩) (fun c a=>h ⟨k' c a⟩) e
theorem B9 {α γ:Type} {o:Option α} {f:α->Option γ} {r:γ} {P Q:Prop} (e:o.bind f=some r) (q:∀ x,o=some x->f x=some r->Q) (h:bP Q->P:=by
 intro q
 refine Z9 ?_
 exact q.h):P:=bs (fun x a b=>h ⟨q x a b⟩) e
theorem I9 {γ:Type} {p:Prop} [Decidable p] {a b:Option γ} {r:γ} {P Q:Prop} (e:(if p then a else b)=some r) (k:decide p=true->a=some r->Q) (k':decide p=false->b=some r->Q) (h:bP Q->P:=by
 intro q
 refine Z9 ?_
 exact q.h):P:=is (fun c a=>h ⟨k c a⟩) (fun c a=>h ⟨k' c a⟩) e
theorem B9z {α γ:Type} {o:Option α} {f:α->Option γ} {r:γ} {P Q:Prop} (q:∀ x,o=some x->f x=some r->Q) (h:bP Q->P:=by
 intro q
 refine Z9 ?_
 exact q.h) (e:o.bind f=some r):P:=bs (fun x a b=>h ⟨q x a b⟩) e
theorem I9z {γ:Type} {p:Prop} [Decidable p] {a b:Option γ} {r:γ} {P Q:Prop} (k:decide p=true->a=some r->Q) (k':decide p=false->b=some r->Q) (h:bP Q->P:=by
 intro q
 refine Z9 ?_
 exact q.h) (e:(if p then a else b)=some r):P:=is (fun c a=>h ⟨k c a⟩) (fun c a=>h ⟨k' c a⟩) e
theorem fP {α γ:Type} {o:Option α} {f:α->Option γ} {r:γ} {P Q:Prop} (q:∀ x,o=some x->f x=some r->Q) (h:bP Q->P:=by
 intro q
 refine Z10 ?_
 exact q.h) (e:o.bind f=some r):P:=bs (fun x a b=>h ⟨q x a b⟩) e
theorem I10z {γ:Type} {p:Prop} [Decidable p] {a b:Option γ} {r:γ} {P Q:Prop} (k:decide p=true->a=some r->Q) (k':decide p=false->b=some r->Q) (h:bP Q->P:=by
 intro q
 refine Z10 ?_
 exact q.h) (e:(if p then a else b)=some r):P:=is (fun c a=>h ⟨k c a⟩) (fun c a=>h ⟨k' c a⟩) e
theorem jC {α γ:Type} {o:Option α} {f:α->Option γ} {r:γ} {P Q:Prop} (q:∀ x,o=some x->f x=some r->Q) (h:bP Q->P:=by
 intro q
 refine Z11 ?_
 exact q.h) (e:o.bind f=some r):P:=bs (fun x a b=>h ⟨q x a b⟩) e
theorem I11z {γ:Type} {p:Prop} [Decidable p] {a b:Option γ} {r:γ} {P Q:Prop} (k:decide p=true->a=some r->Q) (k':decide p=false->b=some r->Q) (h:bP Q->P:=by
 intro q
 refine Z11 ?_
 exact q.h) (e:(if p then a else b)=some r):P:=is (fun c a=>h ⟨k c a⟩) (fun c a=>h ⟨k' c a⟩) e
theorem B12z {α γ:Type} {o:Option α} {f:α->Option γ} {r:γ} {P Q:Prop} (q:∀ x,o=some x->f x=some r->Q) (h:bP Q->P:=by
 intro q
 refine Z12 ?_
 exact q.h) (e:o.bind f=some r):P:=bs (fun x a b=>h ⟨q x a b⟩) e
theorem bz {α γ:Type} {o:Option α} {f:α->Option γ} {r:γ} {G:Prop} (h:o.bind f=some r) (k:∀ x,o=some x->f x=some r->G):G:=bs k h
theorem iz {γ:Type} {p:Prop} [Decidable p] {a b:Option γ} {r:γ} {G:Prop} (h:(if p then a else b)=some r) (k:decide p=true->a=some r->G) (k':decide p=false->b=some r->G):G:=is k k' h
theorem cz {γ:Type} {c:Bool} {a b:Option γ} {r:γ} {G:Prop} (h:(bif c then a else b)=some r) (k:c=true->a=some r->G) (k':c=false->b=some r->G):G:=cs k k' h
theorem cW {β:bA} {n:Nat} {ds:List Deferred} {Γ:Ctx} {Δ:List Tk} {F:Act->World->Prop} {b:Nat} {z0:Int} {z1:List AO} {z2:List AL} {z3:Int} {z4:List Int} {z5:List Int} {z6:aI Int AJ} {z7:List Int} {v0 v1 v2:Value} (h:T β n ds Γ (dC b (⟨(⟨z0,z1,z2,z3⟩:AB),z4,z5,z6,z7⟩:AR) :: Δ) F):T β n ds Γ (aA b 150 [aT .i64 z0,fSl aE z1,fSl aF z2,aT .i64 z3,fSl (aJ .i64) z4,fEq v0,fEq v1,fEq v2] :: aB v0 3 (aJ .i64) z5 :: sY bG (fun y=>fSt aZ y) v1 z6 :: aB v2 3 (aJ .i64) z7 :: Δ) F:=aGP (x:=(⟨(⟨z0,z1,z2,z3⟩:AB),z4,z5,z6,z7⟩:AR)) h
theorem mG {β:bA} {n:Nat} {ds:List Deferred} {Γ:Ctx} {Δ:List Tk} {F:Act->World->Prop} {b:Nat} {z0:Int} {z1:Int} (h:T β n ds Γ (qJ b (⟨z0,z1⟩:AJ) :: Δ) F):T β n ds Γ (aA b 59 [aT .i64 z0,aT .i64 z1] :: Δ) F:=aGJ (x:=(⟨z0,z1⟩:AJ)) h
theorem cH {β:bA} {n:Nat} {ds:List Deferred} {Γ:Ctx} {Δ:List Tk} {F:Act->World->Prop} {b:Nat} {z0:List AJ} {z1:List Int} {z2:Bool} {v0 v1:Value} (h:T β n ds Γ (lU b (⟨z0,z1,z2⟩:Ref09_flow) :: Δ) F):T β n ds Γ (aA b 214 [fEq v0,fEq v1,aL z2] :: aB v0 59 aZ z0 :: aB v1 3 (aJ .i64) z1 :: Δ) F:=aH1 (x:=(⟨z0,z1,z2⟩:Ref09_flow)) h
theorem eG {β:bA} {n:Nat} {ds:List Deferred} {Γ:Ctx} {Δ:List Tk} {F:Act->World->Prop} {b:Nat} {z0:List Int} {z1:Int} {z2:Bool} (h:T β n ds Γ (kO b (⟨z0,z1,z2⟩:bH) :: Δ) F):T β n ds Γ (aA b 100 [fSl (aJ .u8) z0,aT .i64 z1,aL z2] :: Δ) F:=aGL (x:=(⟨z0,z1,z2⟩:bH)) h
theorem rc {β:bA} {n:Nat} {ds:List Deferred} {Γ:Ctx} {Δ:List Tk} {F:Act->World->Prop} {α:Type} {t:Ty α} {v:Value} {e:TypeId} {xs:List α} (i:Nat) (k:cO v->T β n ds Γ Δ F) (hi:Δ[i]? =some (aB v e t xs):=by exact rfl):T β n ds Γ Δ F:=aGM i hi k
theorem Th {P:Program} {β:bA} {n:Nat} {ds:List Deferred} {Γ:Ctx} {Δ:List Tk} {r:Option Nat} {Q:Exit->Act->World->Prop} {ι:Type} {c:Code} (ok:Nat × ι->Prop) (Γf:Nat × ι->Ctx) (Δf:Nat × ι->List Tk) (i₀:Nat × ι) (h₀:ok i₀) (z:∀ i,ok (0,i)->False) (round:∀ k i,ok (k+1,i)->T β n ds (Γf (k+1,i)) (Δf (k+1,i)) (c.wpIn (fw r) 0 P (Exit.then (fun a w=>∃ j,(ok j/\j.1<k+1)/\AtT β n ds (Γf j) (Δf j) a w) Q))) (hs:gC (Γf i₀) Γ:=by exact sb) (hd:Δ=Δf i₀:=by exact rfl):T β n ds Γ Δ ((Code.loop c).wpIn (fw r) 0 P Q):=T_loop ok (fun i=>i.1) Γf Δf i₀ h₀ hs hd fun i=>match i with | (0,j)=>fun h=>(z j h).elim | (k+1,j)=>round k j
theorem ND {P Q:Prop} (q:Q) (h:bP Q->P:=by
 intro q
 dsimp only [gL,List.take,List.replicate,List.append,List.drop]
 exact q.h):P:=h ⟨q⟩
theorem M1 {P Q:Prop} (q:Q) (h:bP Q->P:=by
 intro q
 first
 | refine Ny (by exact trivial) ox (by exact rfl) ?_
 | refine Nk (by exact⟨_,_,rfl,rfl,rfl⟩) cn (by exact rfl) ?_
 | refine Ng (by exact⟨_,_,rfl,rfl,rfl⟩) cc ox (by exact rfl) ?_
 | refine No 0 (by exact trivial) (by exact rfl) oo (by exact rfl) ?_
 | refine No 1 (by exact trivial) (by exact rfl) oo (by exact rfl) ?_
 | refine No 2 (by exact trivial) (by exact rfl) oo (by exact rfl) ?_
 | refine No 3 (by exact trivial) (by exact rfl) oo (by exact rfl) ?_
 | refine No 4 (by exact trivial) (by exact rfl) oo (by exact rfl) ?_
 | refine No 5 (by exact trivial) (by exact rfl) oo (by exact rfl) ?_
 | refine No 6 (by exact trivial) (by exact rfl) oo (by exact rfl) ?_
 | refine No 7 (by exact trivial) (by exact rfl) oo (by exact rfl) ?_
 | refine Nh 0 (by exact⟨_,_,rfl,rfl,rfl⟩) cc (by exact rfl) oo (by exact rfl) ?_
 | refine Nh 1 (by exact⟨_,_,rfl,rfl,rfl⟩) cc (by exact rfl) oo (by exact rfl) ?_
 | refine Nh 2 (by exact⟨_,_,rfl,rfl,rfl⟩) cc (by exact rfl) oo (by exact rfl) ?_
 | refine Nh 3 (by exact⟨_,_,rfl,rfl,rfl⟩) cc (by exact rfl) oo (by exact rfl) ?_
 | refine Nh 4 (by exact⟨_,_,rfl,rfl,rfl⟩) cc (by exact rfl) oo (by exact rfl) ?_
 | refine Nh 5 (by exact⟨_,_,rfl,rfl,rfl⟩) cc (by exact rfl) oo (by exact rfl) ?_
 | refine Nh 6 (by exact⟨_,_,rfl,rfl,rfl⟩) cc (by exact rfl) oo (by exact rfl) ?_
 | refine Nh 7 (by exact⟨_,_,rfl,rfl,rfl⟩) cc (by exact rfl) oo (by exact rfl) ?_
 exact q.h):P:=h ⟨q⟩
theorem M2 {P Q:Prop} (q:Q) (h:bP Q->P:=by
 intro q
 refine M1 ?_
 intro b1
 refine M1 ?_
 revert b1
 exact q.h):P:=h ⟨q⟩
theorem M3 {P Q:Prop} (q:Q) (h:bP Q->P:=by
 intro q
 refine M1 ?_
 intro b1
 refine M1 ?_
 intro b2
 refine M1 ?_
 revert b1 b2
 exact q.h):P:=h ⟨q⟩
theorem M4 {P Q:Prop} (q:Q) (h:bP Q->P:=by
 intro q
 refine M1 ?_
 intro b1
 refine M1 ?_
 intro b2
 refine M1 ?_
 intro b3
 refine M1 ?_
 revert b1 b2 b3
 exact q.h):P:=h ⟨q⟩
theorem M5 {P Q:Prop} (q:Q) (h:bP Q->P:=by
 intro q
 refine M1 ?_
 intro b1
 refine M1 ?_
 intro b2
 refine M1 ?_
 intro b3
 refine M1 ?_
 intro b4
 refine M1 ?_
 revert b1 b2 b3 b4
 exact q.h):P:=h ⟨q⟩
theorem M6 {P Q:Prop} (q:Q) (h:bP Q->P:=by
 intro q
 refine M1 ?_
 intro b1
 refine M1 ?_
 intro b2
 refine M1 ?_
 intro b3
 refine M1 ?_
 intro b4
 refine M1 ?_
 intro b5
 refine M1 ?_
 revert b1 b2 b3 b4 b5
 exact q.h):P:=h ⟨q⟩
theorem M7 {P Q:Prop} (q:Q) (h:bP Q->P:=by
 intro q
 refine M1 ?_
 intro b1
 refine M1 ?_
 intro b2
 refine M1 ?_
 intro b3
 refine M1 ?_
 intro b4
 refine M1 ?_
 intro b5
 refine M1 ?_
 intro b6
 refine M1 ?_
 revert b1 b2 b3 b4 b5 b6
 exact q.h):P:=h ⟨q⟩
theorem M8 {P Q:Prop} (q:Q) (h:bP Q->P:=by
 intro q
 refine M1 ?_
 intro b1
 refine M1 ?_
 intro b2
 refine M1 ?_
 intro b3
 refine M1 ?_
 intro b4
 refine M1 ?_
 intro b5
 refine M1 ?_
 intro b6
 refine M1 ?_
 intro b7
 refine M1 ?_
 revert b1 b2 b3 b4 b5 b6 b7
 exact q.h):P:=h ⟨q⟩
open Go.SX Go.SW Go.Dt
attribute [local irreducible] Code.wpIn wpListIn Exit.then Exit.inBlock
def aAk (a0:AB):Option (Bool):=
 some (decide (400<(a0.Code.length:Int)))
theorem aIg  (a0:AB) (r:Bool) (H:aAk a0=some r):FnS Tryz.prog 6 [fSt dX a0] [] (aL r) (fun _=>[]):=by
 unfold aAk at H
 refine bY Tryz.func6 rfl Tryz.ntmps6 rfl (fun β=>?_)
 refine Z1 ?_
 refine Tn (cG rfl hh bW) fun b1=>?_
 refine Z10 ?_
 cases H
 refine aC [] (by decide) ?_
 exact To
def kN (a0:AR) (a1:Int):Option (AR × Bool):=
 (if 0<=a1 then
  some (decide (a1<(a0.AB.Code.length:Int)))
 else
  some false).bind fun x1=>
 some ((⟨(⟨a0.AB.AH,a0.AB.AD,a0.AB.Code,a0.AB.AG⟩:AB),a0.AU,a0.last,a0.AK,a0.AT⟩:AR),x1)
theorem vE (p0:Nat) (a0:AR) (a1:Int) (r:AR × Bool) (H:kN a0 a1=some r):FnS Tryz.prog 70 [fEq (.pointer (some ⟨p0,0,none⟩)),fI a1] [dC p0 a0] (aL r.2) (fun _=>[dC p0 r.1]):=by
 unfold kN at H
 refine bY Tryz.func70 rfl Tryz.ntmps70 rfl (fun β=>?_)
 refine dG (fun v1 v2 v3=>?_)
 refine aQ ?_
 refine dF (fun b1 h1=>?_);subst h1
 refine rc 2 fun _=>?_
 refine rc 3 fun _=>?_
 revert H;refine B3z fun o1 H Hr1=>?_
 refine aO (fun i=>o1=i) (fun i=>[(0,fEq (ptr p0)),(4,aL i)]) (fun i=>[aA p0 150 [fI a0.AB.AH,fSl aE a0.AB.AD,fSl aF a0.AB.Code,fI a0.AB.AG,fSl tI a0.AU,fEq v1,fEq (.map (some b1)),fEq v3],bK bG (fun y=>fSt aZ y) b1 a0.AK,aB v1 3 tI a0.last,aB v3 3 tI a0.AT]) ?_ ?_
 revert H;refine I4z (fun c1 H=>?_) fun c1 H=>?_
 refine Z11 ?_
 refine aC [1,0,2,3] (by decide) ?_
 exact Tm (decide (a1<(a0.AB.Code.length:Int))) (ij H)
 refine Z11 ?_
 refine aC [1,0,2,3] (by decide) ?_
 exact Tm (false) (ij H)
 rintro x1 hi;subst o1;replace H:=Hr1;clear Hr1;try dsimp only at H ⊢
 refine Z1 ?_
 refine aP ?_
 refine cX ?_
 refine bD ?_
 refine aP ?_
 refine bD ?_
 refine bD ?_
 refine cW ?_
 cases H
 exact To
def bR (a0:Bool):Option (Unit ⊕ Value):=
 bif a0 then
  some (Sum.inl ())
 else
  some (Sum.inr (.iface 190 (.agg ([]:List Value).toArray)))
theorem aW  (a0:Bool) (r:Unit ⊕ Value) (H:bR a0=some r):FnE Tryz.prog 93 [aL a0] [] r (fun r=>dI []) (fun r=>[]):=by
 unfold bR at H
 refine iR Tryz.func93 rfl Tryz.ntmps93 rfl (fun β=>?_)
 refine Z4 ?_
 refine cz H (fun c1 H=>?_) fun c1 H=>?_
 refine Z2 ?_
 cases H
 refine gP ?_
 exact cV (.inr rfl) rfl rfl
 refine Z2 ?_
 refine Yy (dJ (ψs:=[]) rfl aF5 rfl bE.nil rfl) ?_
 refine Yy (aAX rfl (hasE rfl (aAl [])) aFG) ?_
 refine aA2 a1I rfl (has rfl) ?_
 cases H
 exact bC
def oD (a0:List Int) (a1:Int):Nat->Int->Option ((Unit) ⊕ (Int))
| 0,_=>none
| k+1,x2=>
 if x2<(a0.length:Int)then
  (idx a0 x2).bind fun y1=>
  if a1=y1 then
   (some x2).bind fun r=>some (Sum.inr r)
  else
   (chk (x2+1)).bind fun z1=>
   oD a0 a1 k z1
 else
  some (Sum.inl ())
def yT (AA:Nat) (a0:List Int) (a1:Int):Option (Int):=
 (oD a0 a1 AA 0).bind fun o=>match o with
 | Sum.inr r=>some r
 | Sum.inl _=>
 some (-1)
theorem aH8 (AA:Nat)  (a0:List Int) (a1:Int) (r:Int) (H:yT AA a0 a1=some r):FnS Tryz.prog 105 [fSl tI a0,fI a1] [] (fI r) (fun _=>[]):=by
 unfold yT at H
 refine bY Tryz.func105 rfl Tryz.ntmps105 rfl (fun β=>?_)
 revert H;refine B3z fun o1 H Hr1=>?_
 refine aO (ι:=Unit) (fun i=>o1=Sum.inl ()) (fun i=>[]) (fun i=>[]) ?_ ?_
 refine Z6 ?_
 refine Th (ι:=Int) (fun i=>oD a0 a1 i.1 i.2=_) (fun i=>[(0,fSl tI a0),(1,fI a1),(7,fI (a0.length:Int)),(8,fI i.2)]) (fun i=>[]) (AA,0) H (fun _ h=>nomatch h) ?_
 clear H;rintro k1 x2 H;dsimp only at H ⊢;rw [oD]at H
 refine Z3 ?_
 refine aK ?_
 revert H;refine is (fun c1 H=>?_) fun c1 H=>?_
 refine Z3 ?_
 refine aK ?_
 revert H;refine B9z fun y1 h1 H=>?_
 revert H;refine I4z (fun c2 H=>?_) fun c2 H=>?_
 revert H;refine jC fun r1 H e1=>?_
 cases e1;cases Hr1
 cases H
 exact To
 revert H;refine B5z fun z1 h2 H=>?_
 refine Z3 ?_
 exact Tm ((k1,z1)) ⟨H,ls⟩
 refine Z6 ?_
 exact Tm (()) (ij H)
 rintro i hi;subst o1;replace H:=Hr1;clear Hr1;try dsimp only at H ⊢
 refine Z4 ?_
 cases H
 exact To
def yC (AA:Nat) (a0:List Int) (a1:Int):Option (Bool):=
 (yT AA a0 a1).bind fun y1=>
 some (decide (0<=y1))
theorem aG3 (AA:Nat)  (a0:List Int) (a1:Int) (r:Bool) (H:yC AA a0 a1=some r):FnS Tryz.prog 59 [fSl tI a0,fI a1] [] (aL r) (fun _=>[]):=by
 unfold yC at H
 refine bY Tryz.func59 rfl Tryz.ntmps59 rfl (fun β=>?_)
 refine B6 H fun y1 h1 H=>?_
 refine Tc (aH8 _ _ _ _ h1) ?_
 refine Z4 ?_
 cases H
 exact To
open Go.SX Go.SW Go.Dt
def tC (a0:Int) (w0:AO):Option (Bool):=
 (if 0<=a0 then
  some (decide (a0<=(w0.AN.length:Int)))
 else
  some false).bind fun x1=>
 some x1
theorem aEe  (a0:Int) (w0:AO) (r:Bool) (H:tC a0 w0=some r):FnS Tryz.prog 125 [fI a0,bV aE w0] [] (aL r) (fun _=>[]):=by
 unfold tC at H
 refine bY Tryz.func125 rfl Tryz.ntmps125 rfl (fun β=>?_)
 revert H;refine B3z fun o1 H Hr1=>?_
 refine aO (fun i=>o1=i) (fun i=>[(3,aL i)]) (fun i=>[]) ?_ ?_
 revert H;refine I4z (fun c1 H=>?_) fun c1 H=>?_
 refine Z8 ?_
 exact Tm (decide (a0<=(w0.AN.length:Int))) (ij H)
 refine Z8 ?_
 exact Tm (false) (ij H)
 rintro x1 hi;subst o1;replace H:=Hr1;clear Hr1;try dsimp only at H ⊢
 refine Z1 ?_
 cases H
 exact To
def qB (a1:AO):Nat->Int->Option ((Unit) ⊕ (AR ⊕ Value))
| 0,_=>none
| k+1,x2=>
 if x2<(((⟨a1.AQ,a1.AN,a1.AP⟩:AO).AQ).length:Int)then
  ((idx ((⟨a1.AQ,a1.AN,a1.AP⟩:AO).AQ) x2).bind fun y4=>
  (tC y4.At (⟨a1.AQ,a1.AN,a1.AP⟩:AO)).bind fun y5=>
  bif y5 then
   if 0<=y4.Ae then
    (bR (decide (y4.Ae<=3))).bind fun y6=>
    match y6 with
    | Sum.inr pv4=>((some (Sum.inr pv4)).bind fun r=>some (Sum.inr r)).bind fun r=>some (Sum.inr r)
    | Sum.inl y6=>
    some (Sum.inl ())
   else
    (bR false).bind fun y7=>
    match y7 with
    | Sum.inr pv5=>((some (Sum.inr pv5)).bind fun r=>some (Sum.inr r)).bind fun r=>some (Sum.inr r)
    | Sum.inl y7=>
    some (Sum.inl ())
  else
   (bR false).bind fun y8=>
   match y8 with
   | Sum.inr pv6=>((some (Sum.inr pv6)).bind fun r=>some (Sum.inr r)).bind fun r=>some (Sum.inr r)
   | Sum.inl y8=>
   some (Sum.inl ())).bind fun o=>match o with
  | Sum.inr r=>some r
  | Sum.inl _=>
  (chk (x2+1)).bind fun z1=>
  qB a1 k z1
 else
  some (Sum.inl ())
def pV (a1:AO):Nat->Int->Int->(List AO)->(List AL)->Int->(List Int)->(List Int)->(aI Int AJ)->(List Int)->Option ((Int × List AO × List AL × Int × List Int × List Int × aI Int AJ × List Int) ⊕ (AR ⊕ Value))
| 0,_,_,_,_,_,_,_,_,_=>none
| k+1,x20,x21,x22,x23,x24,x25,x26,x27,x28=>
 if x20<(((⟨a1.AQ,a1.AN,a1.AP⟩:AO).AN).length:Int)then
  ((idx ((⟨a1.AQ,a1.AN,a1.AP⟩:AO).AN) x20).bind fun y9=>
  if 0<=y9.In then
   if y9.In<=x20 then
    (kN (⟨(⟨x21,x22,x23,x24⟩:AB),x25,x26,x27,x28⟩:AR) y9.AV).bind fun y10=>
    (bR y10.2).bind fun y11=>
    match y11 with
    | Sum.inr pv7=>((some (Sum.inr pv7)).bind fun r=>some (Sum.inr r)).bind fun r=>some (Sum.inr r)
    | Sum.inl y11=>
    some (Sum.inl (y10.1.AB.AH,y10.1.AB.AD,y10.1.AB.Code,y10.1.AB.AG,y10.1.AU,y10.1.last,y10.1.AK,y10.1.AT))
   else
    (bR false).bind fun y12=>
    match y12 with
    | Sum.inr pv8=>((some (Sum.inr pv8)).bind fun r=>some (Sum.inr r)).bind fun r=>some (Sum.inr r)
    | Sum.inl y12=>
    some (Sum.inl (x21,x22,x23,x24,x25,x26,x27,x28))
  else
   (bR false).bind fun y13=>
   match y13 with
   | Sum.inr pv9=>((some (Sum.inr pv9)).bind fun r=>some (Sum.inr r)).bind fun r=>some (Sum.inr r)
   | Sum.inl y13=>
   some (Sum.inl (x21,x22,x23,x24,x25,x26,x27,x28))).bind fun o=>match o with
  | Sum.inr r=>some r
  | Sum.inl (x29,x30,x31,x32,x33,x34,x35,x36)=>
  (chk (x20+1)).bind fun z2=>
  pV a1 k z2 x29 x30 x31 x32 x33 x34 x35 x36
 else
  some (Sum.inl (x21,x22,x23,x24,x25,x26,x27,x28))
def rD (AA:Nat) (a1:AO) (y14:AZ) (x75:Int) (x76:List AO) (x77:List AL) (x78:Int) (x79:List Int) (x80:List Int) (x81:aI Int AJ) (x82:List Int):Nat->Int->(aI Int Bool)->Option ((Int × List AO × List AL × Int × List Int × List Int × aI Int AJ × List Int × aI Int Bool) ⊕ ((Int × List AO × List AL × Int × List Int × List Int × aI Int AJ × List Int × aI Int Bool) ⊕ (AR ⊕ Value)))
| 0,_,_=>none
| k+1,x85,x86=>
 if x85<(y14.AX.length:Int)then
  (idx y14.AX x85).bind fun y21=>
  (if 0<=y21 then
   if y21<(((⟨a1.AQ,a1.AN,a1.AP⟩:AO).AQ).length:Int)then
    (idx ((⟨a1.AQ,a1.AN,a1.AP⟩:AO).AQ) y21).bind fun y22=>
    if y22.At=y14.At then
     (slc y14.AX 0 x85).bind fun y23=>
     (yC AA y23 y21).bind fun y24=>
     (bR (!y24)).bind fun y25=>
     match y25 with
     | Sum.inr pv14=>(((some (Sum.inr pv14)).bind fun r=>some (Sum.inr r)).bind fun r=>some (Sum.inr r)).bind fun r=>some (Sum.inr r)
     | Sum.inl y25=>
     some (Sum.inl ())
    else
     (bR false).bind fun y26=>
     match y26 with
     | Sum.inr pv15=>(((some (Sum.inr pv15)).bind fun r=>some (Sum.inr r)).bind fun r=>some (Sum.inr r)).bind fun r=>some (Sum.inr r)
     | Sum.inl y26=>
     some (Sum.inl ())
   else
    (bR false).bind fun y27=>
    match y27 with
    | Sum.inr pv16=>(((some (Sum.inr pv16)).bind fun r=>some (Sum.inr r)).bind fun r=>some (Sum.inr r)).bind fun r=>some (Sum.inr r)
    | Sum.inl y27=>
    some (Sum.inl ())
  else
   (bR false).bind fun y28=>
   match y28 with
   | Sum.inr pv17=>(((some (Sum.inr pv17)).bind fun r=>some (Sum.inr r)).bind fun r=>some (Sum.inr r)).bind fun r=>some (Sum.inr r)
   | Sum.inl y28=>
   some (Sum.inl ())).bind fun o=>match o with
  | Sum.inr r=>some r
  | Sum.inl _=>
  (chk (x85+1)).bind fun z3=>
  rD AA a1 y14 x75 x76 x77 x78 x79 x80 x81 x82 k z3 (aI.upd x86 y21 true)
 else
  some (Sum.inl (x75,x76,x77,x78,x79,x80,x81,x82,x86))
def oS (AA:Nat) (a1:AO):Nat->Int->Int->(List AO)->(List AL)->Int->(List Int)->(List Int)->(aI Int AJ)->(List Int)->(aI Int Bool)->Option ((Int × List AO × List AL × Int × List Int × List Int × aI Int AJ × List Int × aI Int Bool) ⊕ (AR ⊕ Value))
| 0,_,_,_,_,_,_,_,_,_,_=>none
| k+1,x56,x57,x58,x59,x60,x61,x62,x63,x64,x65=>
 if x56<(((⟨a1.AQ,a1.AN,a1.AP⟩:AO).AP).length:Int)then
  ((idx ((⟨a1.AQ,a1.AN,a1.AP⟩:AO).AP) x56).bind fun y14=>
  ((tC y14.At (⟨a1.AQ,a1.AN,a1.AP⟩:AO)).bind fun y15=>
  bif y15 then
   if 0<(y14.AX.length:Int)then
    if (y14.AX.length:Int)<=3 then
     (kN (⟨(⟨x57,x58,x59,x60⟩:AB),x61,x62,x63,x64⟩:AR) y14.AV).bind fun y16=>
     (bR y16.2).bind fun y17=>
     match y17 with
     | Sum.inr pv10=>(((some (Sum.inr pv10)).bind fun r=>some (Sum.inr r)).bind fun r=>some (Sum.inr r)).bind fun r=>some (Sum.inr r)
     | Sum.inl y17=>
     some (Sum.inl (y16.1.AB.AH,y16.1.AB.AD,y16.1.AB.Code,y16.1.AB.AG,y16.1.AU,y16.1.last,y16.1.AK,y16.1.AT))
    else
     (bR false).bind fun y18=>
     match y18 with
     | Sum.inr pv11=>(((some (Sum.inr pv11)).bind fun r=>some (Sum.inr r)).bind fun r=>some (Sum.inr r)).bind fun r=>some (Sum.inr r)
     | Sum.inl y18=>
     some (Sum.inl (x57,x58,x59,x60,x61,x62,x63,x64))
   else
    (bR false).bind fun y19=>
    match y19 with
    | Sum.inr pv12=>(((some (Sum.inr pv12)).bind fun r=>some (Sum.inr r)).bind fun r=>some (Sum.inr r)).bind fun r=>some (Sum.inr r)
    | Sum.inl y19=>
    some (Sum.inl (x57,x58,x59,x60,x61,x62,x63,x64))
  else
   (bR false).bind fun y20=>
   match y20 with
   | Sum.inr pv13=>(((some (Sum.inr pv13)).bind fun r=>some (Sum.inr r)).bind fun r=>some (Sum.inr r)).bind fun r=>some (Sum.inr r)
   | Sum.inl y20=>
   some (Sum.inl (x57,x58,x59,x60,x61,x62,x63,x64))).bind fun o=>match o with
  | Sum.inr r=>some r
  | Sum.inl (x75,x76,x77,x78,x79,x80,x81,x82)=>
  rD AA a1 y14 x75 x76 x77 x78 x79 x80 x81 x82 AA 0 x65).bind fun o=>match o with
  | Sum.inr r=>some r
  | Sum.inl (x66,x67,x68,x69,x70,x71,x72,x73,x74)=>
  (chk (x56+1)).bind fun z4=>
  oS AA a1 k z4 x66 x67 x68 x69 x70 x71 x72 x73 x74
 else
  some (Sum.inl (x57,x58,x59,x60,x61,x62,x63,x64,x65))
def xK (AA:Nat) (a0:AR) (a1:AO):Option (AR ⊕ Value):=
 (if (a1.AQ.length:Int)<=30 then
  if (a1.AN.length:Int)<=30 then
   (bR (decide ((a1.AP.length:Int)<=30))).bind fun y1=>
   match y1 with
   | Sum.inr pv1=>(some (Sum.inr pv1)).bind fun r=>some (Sum.inr r)
   | Sum.inl y1=>
   some (Sum.inl ())
  else
   (bR false).bind fun y2=>
   match y2 with
   | Sum.inr pv2=>(some (Sum.inr pv2)).bind fun r=>some (Sum.inr r)
   | Sum.inl y2=>
   some (Sum.inl ())
 else
  (bR false).bind fun y3=>
  match y3 with
  | Sum.inr pv3=>(some (Sum.inr pv3)).bind fun r=>some (Sum.inr r)
  | Sum.inl y3=>
  some (Sum.inl ())).bind fun o=>match o with
 | Sum.inr r=>some r
 | Sum.inl _=>
 (qB a1 AA 0).bind fun o=>match o with
 | Sum.inr r=>some r
 | Sum.inl _=>
 (pV a1 AA 0 a0.AB.AH a0.AB.AD a0.AB.Code a0.AB.AG a0.AU a0.last a0.AK a0.AT).bind fun o=>match o with
 | Sum.inr r=>some r
 | Sum.inl (x3,x4,x5,x6,x7,x8,x9,x10)=>
 (oS AA a1 AA 0 x3 x4 x5 x6 x7 x8 x9 x10 (aI.none:aI Int Bool)).bind fun o=>match o with
 | Sum.inr r=>some r
 | Sum.inl (x37,x38,x39,x40,x41,x42,x43,x44,x45)=>
 (bR (decide ((x45.size:Int)=(((⟨a1.AQ,a1.AN,a1.AP⟩:AO).AQ).length:Int)))).bind fun y29=>
 match y29 with
 | Sum.inr pv18=>some (Sum.inr pv18)
 | Sum.inl y29=>
 some (Sum.inl (⟨(⟨x37,x38,x39,x40⟩:AB),x41,x42,x43,x44⟩:AR))
theorem aEW (AA:Nat) (p0:Nat) (a0:AR) (a1:AO) (r:AR ⊕ Value) (H:xK AA a0 a1=some r):FnE Tryz.prog 94 [fEq (.pointer (some ⟨p0,0,none⟩)),fSt aE a1] [dC p0 a0] r (fun r=>dI []) (fun r=>[dC p0 r]):=by
 unfold xK at H
 refine iR Tryz.func94 rfl Tryz.ntmps94 rfl (fun β=>?_)
 refine dG (fun v1 v2 v3=>?_)
 refine aQ ?_
 refine dF (fun b1 h1=>?_);subst h1
 refine rc 2 fun _=>?_
 refine rc 3 fun _=>?_
 refine Z1 ?_
 refine Tn (cG rfl hh bW) fun b2=>?_
 revert H;refine B1z fun o1 H Hr1=>?_
 refine aO (ι:=Unit) (fun i=>o1=Sum.inl ()) (fun i=>[(0,fEq (ptr p0)),(3,fEq (ptr b2))]) (fun i=>[aA b2 78 [fSl aS a1.AQ,fSl aV a1.AN,fSl aY a1.AP],aA p0 150 [fI a0.AB.AH,fSl aE a0.AB.AD,fSl aF a0.AB.Code,fI a0.AB.AG,fSl tI a0.AU,fEq v1,fEq (.map (some b1)),fEq v3],bK bG (fun y=>fSt aZ y) b1 a0.AK,aB v1 3 tI a0.last,aB v3 3 tI a0.AT]) ?_ ?_
 revert H;refine I6z (fun c1 H=>?_) fun c1 H=>?_
 revert H;refine I6z (fun c2 H=>?_) fun c2 H=>?_
 revert H;refine B5z fun y1 h2 H=>?_
 rcases y1 with y1 | pv1 <;> dsimp only at H
 refine Tc (aW _ _ h2).s ?_
 refine Z1 ?_
 refine aC [0,2,1,3,4] (by decide) ?_
 exact Tm (()) (ij H)
 refine Tp (aW _ _ h2).pan ?_
 revert H;refine B1z fun r1 H e1=>?_
 cases e1;cases Hr1
 cases H
 exact bC
 revert H;refine B5z fun y2 h3 H=>?_
 rcases y2 with y2 | pv2 <;> dsimp only at H
 refine Tc (aW _ _ h3).s ?_
 refine Z1 ?_
 refine aC [0,2,1,3,4] (by decide) ?_
 exact Tm (()) (ij H)
 refine Tp (aW _ _ h3).pan ?_
 revert H;refine B1z fun r2 H e2=>?_
 cases e2;cases Hr1
 cases H
 exact bC
 revert H;refine jC fun y3 h4 H=>?_
 rcases y3 with y3 | pv3 <;> dsimp only at H
 refine Tc (aW _ _ h4).s ?_
 refine Z1 ?_
 refine aC [0,2,1,3,4] (by decide) ?_
 exact Tm (()) (ij H)
 refine Tp (aW _ _ h4).pan ?_
 revert H;refine B1z fun r3 H e3=>?_
 cases e3;cases Hr1
 cases H
 exact bC
 rintro i hi;subst o1;replace H:=Hr1;clear Hr1;try dsimp only at H ⊢
 refine Z1 ?_
 refine cP (φ:=bV aE a1) (v:=ptr b2) [3] (yO aG.rfl) fz ?_
 refine cL ?_
 refine Yy (vG rfl (aM.cons hh aM.nil)) ?_
 revert H;refine B2z fun o2 H Hr2=>?_
 refine aO (ι:=Unit) (fun i=>o2=Sum.inl ()) (fun i=>[(0,fEq (ptr p0)),(3,bV aE a1),(4,fJ 125 [bV aE a1])]) (fun i=>[aA p0 150 [fI a0.AB.AH,fSl aE a0.AB.AD,fSl aF a0.AB.Code,fI a0.AB.AG,fSl tI a0.AU,fEq v1,fEq (.map (some b1)),fEq v3],bK bG (fun y=>fSt aZ y) b1 a0.AK,aB v1 3 tI a0.last,aB v3 3 tI a0.AT]) ?_ ?_
 refine Z7 ?_
 refine Th (ι:=Int) (fun i=>qB a1 i.1 i.2=_) (fun i=>[(0,fEq (ptr p0)),(3,bV aE a1),(4,fJ 125 [bV aE a1]),(33,fSl aS (a1.AQ)),(34,fI ((a1.AQ).length:Int)),(35,fI i.2)]) (fun i=>[aA p0 150 [fI a0.AB.AH,fSl aE a0.AB.AD,fSl aF a0.AB.Code,fI a0.AB.AG,fSl tI a0.AU,fEq v1,fEq (.map (some b1)),fEq v3],bK bG (fun y=>fSt aZ y) b1 a0.AK,aB v1 3 tI a0.last,aB v3 3 tI a0.AT]) (AA,0) H (fun _ h=>nomatch h) ?_
 clear H;rintro k1 x2 H;dsimp only at H ⊢;rw [qB]at H
 refine Z3 ?_
 refine aK ?_
 revert H;refine is (fun c3 H=>?_) fun c3 H=>?_
 revert H;refine B3z fun o3 H Hr3=>?_
 refine aO (ι:=Unit) (fun i=>o3=Sum.inl ()) (fun i=>[(0,fEq (ptr p0)),(3,bV aE a1),(4,fJ 125 [bV aE a1]),(33,fSl aS (a1.AQ)),(34,fI ((a1.AQ).length:Int)),(35,fI x2)]) (fun i=>[aA p0 150 [fI a0.AB.AH,fSl aE a0.AB.AD,fSl aF a0.AB.Code,fI a0.AB.AG,fSl tI a0.AU,fEq v1,fEq (.map (some b1)),fEq v3],bK bG (fun y=>fSt aZ y) b1 a0.AK,aB v1 3 tI a0.last,aB v3 3 tI a0.AT]) ?_ ?_
 revert H;refine B2z fun y4 h5 H=>?_
 refine Z2 ?_
 refine Tn (bU rfl aFh rfl) fun b3=>?_
 refine bT (φs':=[fI y4.At,fI y4.Ae]) a1I rfl rfl (has rfl) (has rfl) (aH (aD a1I) (aH (aD a1I) bL)) (sz rfl) rfl rfl rfl ?_
 revert H;refine B5z fun y5 h6 H=>?_
 refine lK a1I rfl rfl rfl (has rfl) (aM.cons (has rfl) aM.nil) rfl (cb rfl) (aEe y4.At a1 y5 h6) rfl ?_
 refine Z1 ?_
 revert H;refine cs (fun c4 H=>?_) fun c4 H=>?_
 revert H;refine I5z (fun c5 H=>?_) fun c5 H=>?_
 revert H;refine B4z fun y6 h7 H=>?_
 rcases y6 with y6 | pv4 <;> dsimp only at H
 refine Tc (aW _ _ h7).s ?_
 refine Z3 ?_
 refine aC [1,2,3,4] (by decide) ?_
 exact Tm (()) (ij H)
 refine Tp (aW _ _ h7).pan ?_
 revert H;refine B2z fun r4 H e4=>?_
 cases e4;cases Hr3
 revert H;refine B3z fun r5 H e5=>?_
 cases e5;cases Hr2
 cases H
 exact bC
 revert H;refine B4z fun y7 h8 H=>?_
 rcases y7 with y7 | pv5 <;> dsimp only at H
 refine Tc (aW _ _ h8).s ?_
 refine Z3 ?_
 refine aC [1,2,3,4] (by decide) ?_
 exact Tm (()) (ij H)
 refine Tp (aW _ _ h8).pan ?_
 revert H;refine B2z fun r6 H e6=>?_
 cases e6;cases Hr3
 revert H;refine B3z fun r7 H e7=>?_
 cases e7;cases Hr2
 cases H
 exact bC
 revert H;refine B9z fun y8 h9 H=>?_
 rcases y8 with y8 | pv6 <;> dsimp only at H
 refine Tc (aW _ _ h9).s ?_
 refine Z3 ?_
 refine aC [1,2,3,4] (by decide) ?_
 exact Tm (()) (ij H)
 refine Tp (aW _ _ h9).pan ?_
 revert H;refine B2z fun r8 H e8=>?_
 cases e8;cases Hr3
 revert H;refine B3z fun r9 H e9=>?_
 cases e9;cases Hr2
 cases H
 exact bC
 rintro i hi;subst o3;replace H:=Hr3;clear Hr3;try dsimp only at H ⊢
 revert H;refine B1z fun z1 h10 H=>?_
 refine Z3 ?_
 exact Tm ((k1,z1)) ⟨H,ls⟩
 refine Z6 ?_
 exact Tm (()) (ij H)
 rintro i hi;subst o2;replace H:=Hr2;clear Hr2;try dsimp only at H ⊢
 revert H;refine bs fun o4 H Hr4=>?_
 refine aO (ι:=Int × List AO × List AL × Int × List Int × List Int × aI Int AJ × List Int × Value × Nat × Value) (fun i=>o4=Sum.inl (i.1,i.2.1,i.2.2.1,i.2.2.2.1,i.2.2.2.2.1,i.2.2.2.2.2.1,i.2.2.2.2.2.2.1,i.2.2.2.2.2.2.2.1)) (fun i=>[(0,fEq (ptr p0)),(3,bV aE a1),(4,fJ 125 [bV aE a1])]) (fun i=>[aA p0 150 [fI i.1,fSl aE i.2.1,fSl aF i.2.2.1,fI i.2.2.2.1,fSl tI i.2.2.2.2.1,fEq i.2.2.2.2.2.2.2.2.1,fEq (.map (some i.2.2.2.2.2.2.2.2.2.1)),fEq i.2.2.2.2.2.2.2.2.2.2],bK bG (fun y=>fSt aZ y) i.2.2.2.2.2.2.2.2.2.1 i.2.2.2.2.2.2.1,aB i.2.2.2.2.2.2.2.2.1 3 tI i.2.2.2.2.2.1,aB i.2.2.2.2.2.2.2.2.2.2 3 tI i.2.2.2.2.2.2.2.1]) ?_ ?_
 refine Z7 ?_
 refine Th (ι:=Int × Int × List AO × List AL × Int × List Int × List Int × aI Int AJ × List Int × Value × Nat × Value) (fun i=>pV a1 i.1 i.2.1 i.2.2.1 i.2.2.2.1 i.2.2.2.2.1 i.2.2.2.2.2.1 i.2.2.2.2.2.2.1 i.2.2.2.2.2.2.2.1 i.2.2.2.2.2.2.2.2.1 i.2.2.2.2.2.2.2.2.2.1=_) (fun i=>[(0,fEq (ptr p0)),(3,bV aE a1),(4,fJ 125 [bV aE a1]),(56,fSl aV (a1.AN)),(57,fI ((a1.AN).length:Int)),(58,fI i.2.1)]) (fun i=>[aA p0 150 [fI i.2.2.1,fSl aE i.2.2.2.1,fSl aF i.2.2.2.2.1,fI i.2.2.2.2.2.1,fSl tI i.2.2.2.2.2.2.1,fEq i.2.2.2.2.2.2.2.2.2.2.1,fEq (.map (some i.2.2.2.2.2.2.2.2.2.2.2.1)),fEq i.2.2.2.2.2.2.2.2.2.2.2.2],bK bG (fun y=>fSt aZ y) i.2.2.2.2.2.2.2.2.2.2.2.1 i.2.2.2.2.2.2.2.2.1,aB i.2.2.2.2.2.2.2.2.2.2.1 3 tI i.2.2.2.2.2.2.2.1,aB i.2.2.2.2.2.2.2.2.2.2.2.2 3 tI i.2.2.2.2.2.2.2.2.2.1]) (AA,0,a0.AB.AH,a0.AB.AD,a0.AB.Code,a0.AB.AG,a0.AU,a0.last,a0.AK,a0.AT,v1,b1,v3) H (fun _ h=>nomatch h) ?_
 clear H;rintro k2 ⟨x20,x21,x22,x23,x24,x25,x26,x27,x28,v8,b6,v9⟩ H;dsimp only at H ⊢;rw [pV]at H
 refine rc 2 fun _=>?_
 refine rc 3 fun _=>?_
 refine Z3 ?_
 refine aK ?_
 revert H;refine is (fun c6 H=>?_) fun c6 H=>?_
 revert H;refine B3z fun o5 H Hr5=>?_
 refine aO (ι:=Int × List AO × List AL × Int × List Int × List Int × aI Int AJ × List Int × Value × Nat × Value) (fun i=>o5=Sum.inl (i.1,i.2.1,i.2.2.1,i.2.2.2.1,i.2.2.2.2.1,i.2.2.2.2.2.1,i.2.2.2.2.2.2.1,i.2.2.2.2.2.2.2.1)) (fun i=>[(0,fEq (ptr p0)),(3,bV aE a1),(4,fJ 125 [bV aE a1]),(56,fSl aV (a1.AN)),(57,fI ((a1.AN).length:Int)),(58,fI x20)]) (fun i=>[aA p0 150 [fI i.1,fSl aE i.2.1,fSl aF i.2.2.1,fI i.2.2.2.1,fSl tI i.2.2.2.2.1,fEq i.2.2.2.2.2.2.2.2.1,fEq (.map (some i.2.2.2.2.2.2.2.2.2.1)),fEq i.2.2.2.2.2.2.2.2.2.2],bK bG (fun y=>fSt aZ y) i.2.2.2.2.2.2.2.2.2.1 i.2.2.2.2.2.2.1,aB i.2.2.2.2.2.2.2.2.1 3 tI i.2.2.2.2.2.1,aB i.2.2.2.2.2.2.2.2.2.2 3 tI i.2.2.2.2.2.2.2.1]) ?_ ?_
 revert H;refine B3z fun y9 h11 H=>?_
 refine Z2 ?_
 refine Tn (bU rfl aAd rfl) fun b8=>?_
 refine Z1 ?_
 refine bT (φs':=[fI y9.In,fI y9.AV]) a1I rfl rfl (has rfl) (has rfl) (aH (aD a1I) (aH (aD a1I) bL)) (sz rfl) rfl rfl rfl ?_
 revert H;refine I6z (fun c7 H=>?_) fun c7 H=>?_
 revert H;refine I6z (fun c8 H=>?_) fun c8 H=>?_
 refine Z3 ?_
 refine aQ ?_
 refine cX ?_
 refine aR ?_
 refine aP ?_
 refine aR ?_
 refine aR ?_
 refine cW ?_
 revert H;refine bs fun y10 h12 H=>?_
 refine Tc (vE _ _ _ _ h12) ?_
 refine dG (fun v12 v13 v14=>?_)
 refine aQ ?_
 refine dF (fun b9 h13=>?_);subst h13
 refine rc 2 fun _=>?_
 refine rc 3 fun _=>?_
 revert H;refine B1z fun y11 h14 H=>?_
 rcases y11 with y11 | pv7 <;> dsimp only at H
 refine Tc (aW _ _ h14).s ?_
 refine Z3 ?_
 refine aC [1,0,2,3] (by decide) ?_
 exact Tm ((y10.1.AB.AH,y10.1.AB.AD,y10.1.AB.Code,y10.1.AB.AG,y10.1.AU,y10.1.last,y10.1.AK,y10.1.AT,v12,b9,v14)) (ij H)
 refine Tp (aW _ _ h14).pan ?_
 revert H;refine B2z fun r10 H e10=>?_
 cases e10;cases Hr5
 revert H;refine B3z fun r11 H e11=>?_
 cases e11;cases Hr4
 cases H
 exact bC
 revert H;refine B5z fun y12 h15 H=>?_
 rcases y12 with y12 | pv8 <;> dsimp only at H
 refine Tc (aW _ _ h15).s ?_
 refine Z3 ?_
 refine aC [1,2,3,4] (by decide) ?_
 exact Tm ((x21,x22,x23,x24,x25,x26,x27,x28,v8,b6,v9)) (ij H)
 refine Tp (aW _ _ h15).pan ?_
 revert H;refine B2z fun r12 H e12=>?_
 cases e12;cases Hr5
 revert H;refine B3z fun r13 H e13=>?_
 cases e13;cases Hr4
 cases H
 exact bC
 revert H;refine jC fun y13 h16 H=>?_
 rcases y13 with y13 | pv9 <;> dsimp only at H
 refine Tc (aW _ _ h16).s ?_
 refine Z3 ?_
 refine aC [1,2,3,4] (by decide) ?_
 exact Tm ((x21,x22,x23,x24,x25,x26,x27,x28,v8,b6,v9)) (ij H)
 refine Tp (aW _ _ h16).pan ?_
 revert H;refine B2z fun r14 H e14=>?_
 cases e14;cases Hr5
 revert H;refine B3z fun r15 H e15=>?_
 cases e15;cases Hr4
 cases H
 exact bC
 rintro⟨x29,x30,x31,x32,x33,x34,x35,x36,v10,b7,v11⟩ hi;subst o5;replace H:=Hr5;clear Hr5;try dsimp only at H ⊢
 refine rc 2 fun _=>?_
 refine rc 3 fun _=>?_
 revert H;refine B1z fun z2 h17 H=>?_
 refine Z3 ?_
 exact Tm ((k2,z2,x29,x30,x31,x32,x33,x34,x35,x36,v10,b7,v11)) ⟨H,ls⟩
 refine Z6 ?_
 exact Tm ((x21,x22,x23,x24,x25,x26,x27,x28,v8,b6,v9)) (ij H)
 rintro⟨x3,x4,x5,x6,x7,x8,x9,x10,v4,b4,v5⟩ hi;subst o4;replace H:=Hr4;clear Hr4;try dsimp only at H ⊢
 refine rc 2 fun _=>?_
 refine rc 3 fun _=>?_
 refine Z1 ?_
 refine Tn (aBT (fun y=>aL y) bG rfl) fun b10=>?_
 revert H;refine B2z fun o6 H Hr6=>?_
 refine aO (ι:=Int × List AO × List AL × Int × List Int × List Int × aI Int AJ × List Int × aI Int Bool × Value × Nat × Value) (fun i=>o6=Sum.inl (i.1,i.2.1,i.2.2.1,i.2.2.2.1,i.2.2.2.2.1,i.2.2.2.2.2.1,i.2.2.2.2.2.2.1,i.2.2.2.2.2.2.2.1,i.2.2.2.2.2.2.2.2.1)) (fun i=>[(0,fEq (ptr p0)),(3,bV aE a1),(9,fEq (.map (some b10)))]) (fun i=>[aA p0 150 [fI i.1,fSl aE i.2.1,fSl aF i.2.2.1,fI i.2.2.2.1,fSl tI i.2.2.2.2.1,fEq i.2.2.2.2.2.2.2.2.2.1,fEq (.map (some i.2.2.2.2.2.2.2.2.2.2.1)),fEq i.2.2.2.2.2.2.2.2.2.2.2],bK bG (fun y=>fSt aZ y) i.2.2.2.2.2.2.2.2.2.2.1 i.2.2.2.2.2.2.1,bK bG (fun y=>aL y) b10 i.2.2.2.2.2.2.2.2.1,aB i.2.2.2.2.2.2.2.2.2.1 3 tI i.2.2.2.2.2.1,aB i.2.2.2.2.2.2.2.2.2.2.2 3 tI i.2.2.2.2.2.2.2.1]) ?_ ?_
 refine Z7 ?_
 refine aC [1,2,0,3,4] (by decide) ?_
 refine Th (ι:=Int × Int × List AO × List AL × Int × List Int × List Int × aI Int AJ × List Int × aI Int Bool × Value × Nat × Value) (fun i=>oS AA a1 i.1 i.2.1 i.2.2.1 i.2.2.2.1 i.2.2.2.2.1 i.2.2.2.2.2.1 i.2.2.2.2.2.2.1 i.2.2.2.2.2.2.2.1 i.2.2.2.2.2.2.2.2.1 i.2.2.2.2.2.2.2.2.2.1 i.2.2.2.2.2.2.2.2.2.2.1=_) (fun i=>[(0,fEq (ptr p0)),(3,bV aE a1),(4,fJ 125 [bV aE a1]),(9,fEq (.map (some b10))),(82,fSl aY (a1.AP)),(83,fI ((a1.AP).length:Int)),(84,fI i.2.1)]) (fun i=>[aA p0 150 [fI i.2.2.1,fSl aE i.2.2.2.1,fSl aF i.2.2.2.2.1,fI i.2.2.2.2.2.1,fSl tI i.2.2.2.2.2.2.1,fEq i.2.2.2.2.2.2.2.2.2.2.2.1,fEq (.map (some i.2.2.2.2.2.2.2.2.2.2.2.2.1)),fEq i.2.2.2.2.2.2.2.2.2.2.2.2.2],bK bG (fun y=>fSt aZ y) i.2.2.2.2.2.2.2.2.2.2.2.2.1 i.2.2.2.2.2.2.2.2.1,bK bG (fun y=>aL y) b10 i.2.2.2.2.2.2.2.2.2.2.1,aB i.2.2.2.2.2.2.2.2.2.2.2.1 3 tI i.2.2.2.2.2.2.2.1,aB i.2.2.2.2.2.2.2.2.2.2.2.2.2 3 tI i.2.2.2.2.2.2.2.2.2.1]) (AA,0,x3,x4,x5,x6,x7,x8,x9,x10,(aI.none:aI Int Bool),v4,b4,v5) H (fun _ h=>nomatch h) ?_
 clear H;rintro k3 ⟨x56,x57,x58,x59,x60,x61,x62,x63,x64,x65,v19,b13,v20⟩ H;dsimp only at H ⊢;rw [oS]at H
 refine rc 3 fun _=>?_
 refine rc 4 fun _=>?_
 refine Z3 ?_
 refine aK ?_
 revert H;refine is (fun c9 H=>?_) fun c9 H=>?_
 revert H;refine B3z fun o7 H Hr7=>?_
 refine aO (ι:=Int × List AO × List AL × Int × List Int × List Int × aI Int AJ × List Int × aI Int Bool × Value × Nat × Value) (fun i=>o7=Sum.inl (i.1,i.2.1,i.2.2.1,i.2.2.2.1,i.2.2.2.2.1,i.2.2.2.2.2.1,i.2.2.2.2.2.2.1,i.2.2.2.2.2.2.2.1,i.2.2.2.2.2.2.2.2.1)) (fun i=>[(0,fEq (ptr p0)),(3,bV aE a1),(4,fJ 125 [bV aE a1]),(9,fEq (.map (some b10))),(82,fSl aY (a1.AP)),(83,fI ((a1.AP).length:Int)),(84,fI x56)]) (fun i=>[aA p0 150 [fI i.1,fSl aE i.2.1,fSl aF i.2.2.1,fI i.2.2.2.1,fSl tI i.2.2.2.2.1,fEq i.2.2.2.2.2.2.2.2.2.1,fEq (.map (some i.2.2.2.2.2.2.2.2.2.2.1)),fEq i.2.2.2.2.2.2.2.2.2.2.2],bK bG (fun y=>fSt aZ y) i.2.2.2.2.2.2.2.2.2.2.1 i.2.2.2.2.2.2.1,bK bG (fun y=>aL y) b10 i.2.2.2.2.2.2.2.2.1,aB i.2.2.2.2.2.2.2.2.2.1 3 tI i.2.2.2.2.2.1,aB i.2.2.2.2.2.2.2.2.2.2.2 3 tI i.2.2.2.2.2.2.2.1]) ?_ ?_
 revert H;refine B2z fun y14 h18 H=>?_
 refine Z2 ?_
 refine Tn (bU rfl mK rfl) fun b15=>?_
 refine bT (φs':=[fI y14.At,fSl tI y14.AX,fI y14.AV]) a1I rfl rfl (has rfl) (has rfl) (aH (aD a1I) (aH (cA) (aH (aD a1I) bL))) (sz rfl) rfl rfl rfl ?_
 revert H;refine B1z fun o8 H Hr8=>?_
 refine aO (ι:=Int × List AO × List AL × Int × List Int × List Int × aI Int AJ × List Int × Value × Nat × Value) (fun i=>o8=Sum.inl (i.1,i.2.1,i.2.2.1,i.2.2.2.1,i.2.2.2.2.1,i.2.2.2.2.2.1,i.2.2.2.2.2.2.1,i.2.2.2.2.2.2.2.1)) (fun i=>[(0,fEq (ptr p0)),(3,bV aE a1),(4,fJ 125 [bV aE a1]),(9,fEq (.map (some b10))),(82,fSl aY (a1.AP)),(83,fI ((a1.AP).length:Int)),(84,fI x56),(11,fEq (ptr b15))]) (fun i=>[aA p0 150 [fI i.1,fSl aE i.2.1,fSl aF i.2.2.1,fI i.2.2.2.1,fSl tI i.2.2.2.2.1,fEq i.2.2.2.2.2.2.2.2.1,fEq (.map (some i.2.2.2.2.2.2.2.2.2.1)),fEq i.2.2.2.2.2.2.2.2.2.2],aA b15 84 [fI y14.At,fSl tI y14.AX,fI y14.AV],bK bG (fun y=>fSt aZ y) i.2.2.2.2.2.2.2.2.2.1 i.2.2.2.2.2.2.1,bK bG (fun y=>aL y) b10 x65,aB i.2.2.2.2.2.2.2.2.1 3 tI i.2.2.2.2.2.1,aB i.2.2.2.2.2.2.2.2.2.2 3 tI i.2.2.2.2.2.2.2.1]) ?_ ?_
 revert H;refine B4z fun y15 h19 H=>?_
 refine lK a1I rfl rfl rfl (has rfl) (aM.cons (has rfl) aM.nil) rfl (cb rfl) (aEe y14.At a1 y15 h19) rfl ?_
 refine Z1 ?_
 revert H;refine cs (fun c10 H=>?_) fun c10 H=>?_
 revert H;refine I6z (fun c11 H=>?_) fun c11 H=>?_
 revert H;refine I6z (fun c12 H=>?_) fun c12 H=>?_
 refine Z3 ?_
 refine aQ ?_
 refine cX ?_
 refine gE ?_
 refine aP ?_
 refine gE ?_
 refine aR ?_
 refine cW ?_
 revert H;refine bs fun y16 h20 H=>?_
 refine Tc (vE _ _ _ _ h20) ?_
 refine dG (fun v25 v26 v27=>?_)
 refine aQ ?_
 refine dF (fun b17 h21=>?_);subst h21
 refine rc 2 fun _=>?_
 refine rc 3 fun _=>?_
 revert H;refine B1z fun y17 h22 H=>?_
 rcases y17 with y17 | pv10 <;> dsimp only at H
 refine Tc (aW _ _ h22).s ?_
 refine Z1 ?_
 refine aC [1,4,0,5,2,3] (by decide) ?_
 exact Tm ((y16.1.AB.AH,y16.1.AB.AD,y16.1.AB.Code,y16.1.AB.AG,y16.1.AU,y16.1.last,y16.1.AK,y16.1.AT,v25,b17,v27)) (ij H)
 refine Tp (aW _ _ h22).pan ?_
 revert H;refine B1z fun r16 H e16=>?_
 cases e16;cases Hr8
 revert H;refine B2z fun r17 H e17=>?_
 cases e17;cases Hr7
 revert H;refine B3z fun r18 H e18=>?_
 cases e18;cases Hr6
 cases H
 exact bC
 revert H;refine B5z fun y18 h23 H=>?_
 rcases y18 with y18 | pv11 <;> dsimp only at H
 refine Tc (aW _ _ h23).s ?_
 refine Z1 ?_
 refine aC [1,0,2,3,4,5] (by decide) ?_
 exact Tm ((x57,x58,x59,x60,x61,x62,x63,x64,v19,b13,v20)) (ij H)
 refine Tp (aW _ _ h23).pan ?_
 revert H;refine B1z fun r19 H e19=>?_
 cases e19;cases Hr8
 revert H;refine B2z fun r20 H e20=>?_
 cases e20;cases Hr7
 revert H;refine B3z fun r21 H e21=>?_
 cases e21;cases Hr6
 cases H
 exact bC
 revert H;refine jC fun y19 h24 H=>?_
 rcases y19 with y19 | pv12 <;> dsimp only at H
 refine Tc (aW _ _ h24).s ?_
 refine Z1 ?_
 refine aC [1,0,2,3,4,5] (by decide) ?_
 exact Tm ((x57,x58,x59,x60,x61,x62,x63,x64,v19,b13,v20)) (ij H)
 refine Tp (aW _ _ h24).pan ?_
 revert H;refine B1z fun r22 H e22=>?_
 cases e22;cases Hr8
 revert H;refine B2z fun r23 H e23=>?_
 cases e23;cases Hr7
 revert H;refine B3z fun r24 H e24=>?_
 cases e24;cases Hr6
 cases H
 exact bC
 refine Z12 ?_
 revert H;refine B5z fun y20 h25 H=>?_
 rcases y20 with y20 | pv13 <;> dsimp only at H
 refine Tc (aW _ _ h25).s ?_
 refine Z1 ?_
 refine aC [1,0,2,3,4,5] (by decide) ?_
 exact Tm ((x57,x58,x59,x60,x61,x62,x63,x64,v19,b13,v20)) (ij H)
 refine Tp (aW _ _ h25).pan ?_
 revert H;refine B1z fun r25 H e25=>?_
 cases e25;cases Hr8
 revert H;refine B2z fun r26 H e26=>?_
 cases e26;cases Hr7
 revert H;refine B3z fun r27 H e27=>?_
 cases e27;cases Hr6
 cases H
 exact bC
 rintro⟨x75,x76,x77,x78,x79,x80,x81,x82,v23,b16,v24⟩ hi;subst o8;replace H:=Hr8;clear Hr8;try dsimp only at H ⊢
 refine rc 4 fun _=>?_
 refine rc 5 fun _=>?_
 refine Z7 ?_
 refine Th (ι:=Int × aI Int Bool) (fun i=>rD AA a1 y14 x75 x76 x77 x78 x79 x80 x81 x82 i.1 i.2.1 i.2.2=_) (fun i=>[(0,fEq (ptr p0)),(3,bV aE a1),(4,fJ 125 [bV aE a1]),(9,fEq (.map (some b10))),(82,fSl aY (a1.AP)),(83,fI ((a1.AP).length:Int)),(84,fI x56),(11,fEq (ptr b15)),(112,fSl tI y14.AX),(113,fI (y14.AX.length:Int)),(114,fI i.2.1)]) (fun i=>[aA p0 150 [fI x75,fSl aE x76,fSl aF x77,fI x78,fSl tI x79,fEq v23,fEq (.map (some b16)),fEq v24],aA b15 84 [fI y14.At,fSl tI y14.AX,fI y14.AV],bK bG (fun y=>fSt aZ y) b16 x81,bK bG (fun y=>aL y) b10 i.2.2,aB v23 3 tI x80,aB v24 3 tI x82]) (AA,0,x65) H (fun _ h=>nomatch h) ?_
 clear H;rintro k4 ⟨x85,x86⟩ H;dsimp only at H ⊢;rw [rD]at H
 refine Z3 ?_
 refine aK ?_
 revert H;refine is (fun c13 H=>?_) fun c13 H=>?_
 refine Z3 ?_
 refine aK ?_
 revert H;refine B3z fun y21 h26 H=>?_
 revert H;refine B5z fun o9 H Hr9=>?_
 refine aO (ι:=Unit) (fun i=>o9=Sum.inl ()) (fun i=>[(0,fEq (ptr p0)),(3,bV aE a1),(4,fJ 125 [bV aE a1]),(9,fEq (.map (some b10))),(82,fSl aY (a1.AP)),(83,fI ((a1.AP).length:Int)),(84,fI x56),(11,fEq (ptr b15)),(112,fSl tI y14.AX),(113,fI (y14.AX.length:Int)),(114,fI x85),(13,fI y21)]) (fun i=>[aA p0 150 [fI x75,fSl aE x76,fSl aF x77,fI x78,fSl tI x79,fEq v23,fEq (.map (some b16)),fEq v24],aA b15 84 [fI y14.At,fSl tI y14.AX,fI y14.AV],bK bG (fun y=>fSt aZ y) b16 x81,bK bG (fun y=>aL y) b10 x86,aB v23 3 tI x80,aB v24 3 tI x82]) ?_ ?_
 revert H;refine is (fun c14 H=>?_) fun c14 H=>?_
 revert H;refine is (fun c15 H=>?_) fun c15 H=>?_
 revert H;refine bs fun y22 h27 H=>?_
 revert H;refine is (fun c16 H=>?_) fun c16 H=>?_
 revert H;refine bs fun y23 h28 H=>?_
 revert H;refine bs fun y24 h29 H=>?_
 apply bQ (ods:=[_,_,_,_,_,_,_,_,_,_,_,_,_,_,_,_,_,_,_,_,_,_,_,_,_,_,_,_,_]) 29 0 6 bM rfl rfl rfl
 refine ND ?_
 refine M8 ?_
 intros
 refine M8 ?_
 intros
 refine M8 ?_
 intros
 refine Mg c16 (vN (t:=tI) rfl hh xP (vP hh) (el rfl) h28) fun _=>?_
 refine M1 ?_
 intros
 refine Nc (aG3 _ _ _ _ h29) fun _=>?_
 refine M2 ?_
 intros
 revert H;refine B1z fun y25 h30 H=>?_
 rcases y25 with y25 | pv14 <;> dsimp only at H
 refine Tc (aW _ _ h30).s ?_
 refine Z1 ?_
 exact Tm (()) (ij H)
 refine Tp (aW _ _ h30).pan ?_
 revert H;refine B1z fun r28 H e28=>?_
 cases e28;cases Hr9
 revert H;refine B6z fun r29 H e29=>?_
 cases e29;cases Hr7
 revert H;refine B3z fun r30 H e30=>?_
 cases e30;cases Hr6
 cases H
 exact bC
 exact fk
 kernel_rfl
 apply bQ (ods:=[_,_,_,_,_,_,_,_,_,_,_,_,_,_,_,_,_,_,_,_,_,_,_,_,_,_,_,_,_]) 29 0 6 bM rfl rfl rfl
 refine ND ?_
 refine M8 ?_
 intros
 refine M8 ?_
 intros
 refine M8 ?_
 intros
 refine M5 ?_
 intros
 revert H;refine B1z fun y26 h31 H=>?_
 rcases y26 with y26 | pv15 <;> dsimp only at H
 refine Tc (aW _ _ h31).s ?_
 refine Z1 ?_
 exact Tm (()) (ij H)
 refine Tp (aW _ _ h31).pan ?_
 revert H;refine B1z fun r31 H e31=>?_
 cases e31;cases Hr9
 revert H;refine B6z fun r32 H e32=>?_
 cases e32;cases Hr7
 revert H;refine B3z fun r33 H e33=>?_
 cases e33;cases Hr6
 cases H
 exact bC
 exact fk
 kernel_rfl
 apply bQ (ods:=[_,_,_,_,_,_,_,_,_,_,_,_,_,_,_,_,_,_,_,_,_,_,_,_,_,_,_,_,_]) 29 0 6 bM rfl rfl rfl
 refine ND ?_
 refine M8 ?_
 intros
 refine M8 ?_
 intros
 refine M8 ?_
 intros
 refine M5 ?_
 intros
 revert H;refine B1z fun y27 h32 H=>?_
 rcases y27 with y27 | pv16 <;> dsimp only at H
 refine Tc (aW _ _ h32).s ?_
 refine Z1 ?_
 exact Tm (()) (ij H)
 refine Tp (aW _ _ h32).pan ?_
 revert H;refine B1z fun r34 H e34=>?_
 cases e34;cases Hr9
 revert H;refine B6z fun r35 H e35=>?_
 cases e35;cases Hr7
 revert H;refine B3z fun r36 H e36=>?_
 cases e36;cases Hr6
 cases H
 exact bC
 exact fk
 kernel_rfl
 apply bQ (ods:=[_,_,_,_,_,_,_,_,_,_,_,_,_,_,_,_,_,_,_,_,_,_,_,_,_,_,_,_,_]) 29 0 6 bM rfl rfl rfl
 refine ND ?_
 refine M8 ?_
 intros
 refine M8 ?_
 intros
 refine M8 ?_
 intros
 refine M5 ?_
 intros
 revert H;refine B1z fun y28 h33 H=>?_
 rcases y28 with y28 | pv17 <;> dsimp only at H
 refine Tc (aW _ _ h33).s ?_
 refine Z1 ?_
 exact Tm (()) (ij H)
 refine Tp (aW _ _ h33).pan ?_
 revert H;refine B1z fun r37 H e37=>?_
 cases e37;cases Hr9
 revert H;refine B6z fun r38 H e38=>?_
 cases e38;cases Hr7
 revert H;refine B3z fun r39 H e39=>?_
 cases e39;cases Hr6
 cases H
 exact bC
 exact fk
 kernel_rfl
 rintro i hi;subst o9;replace H:=Hr9;clear Hr9;try dsimp only at H ⊢
 refine Z3 ?_
 refine bD ?_
 refine aBE (k:=y21) (y:=true) a1I (.inl rfl) rfl (has rfl) (has rfl) rfl (has rfl) rfl wX ?_
 revert H;refine B4z fun z3 h34 H=>?_
 refine Z3 ?_
 refine aC [1,2,3,0,4,5] (by decide) ?_
 exact Tm ((k4,z3,aI.upd x86 y21 true)) ⟨H,ls⟩
 refine Z7 ?_
 refine aC [0,2,3,4,5] (by decide) ?_
 exact Tm ((x75,x76,x77,x78,x79,x80,x81,x82,x86,v23,b16,v24)) (ij H)
 rintro⟨x66,x67,x68,x69,x70,x71,x72,x73,x74,v21,b14,v22⟩ hi;subst o7;replace H:=Hr7;clear Hr7;try dsimp only at H ⊢
 refine rc 3 fun _=>?_
 refine rc 4 fun _=>?_
 revert H;refine B1z fun z4 h35 H=>?_
 refine Z3 ?_
 exact Tm ((k3,z4,x66,x67,x68,x69,x70,x71,x72,x73,x74,v21,b14,v22)) ⟨H,ls⟩
 refine Z6 ?_
 exact Tm ((x57,x58,x59,x60,x61,x62,x63,x64,x65,v19,b13,v20)) (ij H)
 rintro⟨x37,x38,x39,x40,x41,x42,x43,x44,x45,v15,b11,v16⟩ hi;subst o6;replace H:=Hr6;clear Hr6;try dsimp only at H ⊢
 refine rc 3 fun _=>?_
 refine rc 4 fun _=>?_
 refine Z2 ?_
 refine Yo 2 rfl (aCi rfl hh wX) ?_
 refine B4 H fun y29 h36 H=>?_
 rcases y29 with y29 | pv18 <;> dsimp only at H
 refine Tc (aW _ _ h36).s ?_
 refine Z1 ?_
 refine aP ?_
 refine cX ?_
 refine aR ?_
 refine aP ?_
 refine aR ?_
 refine bD ?_
 refine cW ?_
 cases H
 refine gP ?_
 refine aC [0] (by decide) ?_
 exact cV (.inr rfl) rfl rfl
 refine Tp (aW _ _ h36).pan ?_
 cases H
 exact bC
def tZ (a0:Int):Option (Bool):=
 (if 1<=a0 then
  some (decide (a0<=16))
 else
  some false).bind fun x1=>
 some x1
theorem aE7  (a0:Int) (r:Bool) (H:tZ a0=some r):FnS Tryz.prog 75 [fI a0] [] (aL r) (fun _=>[]):=by
 unfold tZ at H
 refine bY Tryz.func75 rfl Tryz.ntmps75 rfl (fun β=>?_)
 revert H;refine B3z fun o1 H Hr1=>?_
 refine aO (fun i=>o1=i) (fun i=>[(2,aL i)]) (fun i=>[]) ?_ ?_
 revert H;refine I4z (fun c1 H=>?_) fun c1 H=>?_
 refine Z5 ?_
 exact Tm (decide (a0<=16)) (ij H)
 refine Z5 ?_
 exact Tm (false) (ij H)
 rintro x1 hi;subst o1;replace H:=Hr1;clear Hr1;try dsimp only at H ⊢
 refine Z1 ?_
 cases H
 exact To
end Go.Proofs.YtpbeacokfapklaaGreatDoor
namespace Go.BX
noncomputable section
inductive V where
 | int (k:IntKind) (n:Int)
 | bool (b:Bool)
 | str (s:ByteArray)
 | ptr (b off:Nat)
 | nilp
 | sl (b off len cap:Nat)
 | so (b off len es:Nat)
 | nils
 | map (b:Nat)
 | nilm
 | fn (f:Nat) (first cap:List V)
 | yld (l:Nat)
 | nilf
 | iface (t:Nat) (v:V)
 | nili
 | agg (cs:List V)
 | tup (vs:List V)
 deriving Inhabited
structure PE where
 v:V
 r:Bool
inductive O where
 | val (v:V)
 | panic (ch:List PE)
inductive Tr (α:Type) where
 | leaf
 | node (l:Tr α) (v:Option α) (r:Tr α)
inductive Pa where
 | h
 | l (p:Pa)
 | r (p:Pa)
def paD (d:Nat):Nat->Pa:=Nat.rec (fun _=> .h) (fun _ ih n=>Bool.rec (Bool.rec (.r (ih (Nat.sub (Nat.div n 2) 1))) (.l (ih (Nat.div n 2))) (Nat.beq (Nat.mod n 2) 1)) .h (Nat.beq n 0)) d
def pa (n:Nat):Pa:=paD (Nat.succ n) n
def gp {α:Type} (t:Tr α):Pa->Option α:=Tr.rec (fun _=>none) (fun _ v _ il ir p=>Pa.rec v (fun q _=>il q) (fun q _=>ir q) p) t
def one' {α β:Type} (v:Option α) (p:Pa):(Tr α->β)->β:=Pa.rec (fun k=>k (.node .leaf v .leaf)) (fun _ ih k=>ih fun t=>k (.node t none .leaf)) (fun _ ih k=>ih fun t=>k (.node .leaf none t)) p
def pp {α β:Type} (t:Tr α) (v:Option α):Pa->(Tr α->β)->β:=Tr.rec (fun p k=>one' v p k) (fun l x r il ir p k=>Pa.rec (k (.node l v r)) (fun q _=>il q fun l'=>k (.node l' x r)) (fun q _=>ir q fun r'=>k (.node l x r')) p) t
def sO {α β:Type} (l:List α):Nat->Tr α->(Tr α->β)->β:=List.rec (fun _ t k=>k t) (fun x _ ih n t k=>pp t (some x) (pa n) fun t=>ih (Nat.succ n) t k) l
def eA {β:Type} (n:Nat) (d:β) (f:Nat->β):β:=Nat.rec d (fun m _=>f m) (Nat.succ n)
def nth {α:Type} (l:List α):Nat->Option α:=List.rec (fun _=>none) (fun x _ ih n=>Nat.rec (some x) (fun m _=>ih m) n) l
def dr {α:Type} (n:Nat):List α->List α:=Nat.rec (fun l=>l) (fun _ ih l=>List.rec [] (fun _ r _=>ih r) l) n
def tk {α:Type} (n:Nat):List α->Option (List α):=Nat.rec (fun _=>some []) (fun _ ih l=>List.rec none (fun x r _=>Option.rec none (fun t=>some (x :: t)) (ih r)) l) n
def ap {α:Type} (l m:List α):List α:=List.rec m (fun x _ ih=>x :: ih) l
def ln {α:Type} (l:List α):Nat->Nat:=List.rec (fun n=>n) (fun _ _ ih n=>ih (Nat.succ n)) l
def ov {α:Type} (new:List α):List α->Option (List α):=List.rec (fun c=>some c) (fun x _ ih c=>List.rec none (fun _ r _=>Option.rec none (fun t=>some (x :: t)) (ih r)) c) new
def pl {α:Type} (new:List α) (off:Nat):List α->Option (List α):=Nat.rec (fun c=>ov new c) (fun _ ih c=>List.rec none (fun x r _=>Option.rec none (fun t=>some (x :: t)) (ih r)) c) off
def rep {α:Type} (l:List α) (n:Nat):List α:=Nat.rec [] (fun _ ih=>ap l ih) n
structure Ent where
 key:V
 val:V
 born:Nat
inductive Ob where
 | map (es:List Ent) (clock:Nat)
 | loop (st:LoopState) (pend:Option Code) (f:Nat) (e:Tr V) (n:Nat) (ps:List Nat) (sg bd:Code) (d:Nat)
 | dfr (live:Bool)
inductive Blk where
 | cells (c:List V) (t:Nat) (op:Nat)
 | obj (o:Ob)
inductive Fp where
 | cell (b lo hi:Nat) (w:Bool)
 | fresh (n0 n1:Nat)
structure S where
 h:Tr Blk
 nx:Nat
 log:List Fp
inductive AI where
 | ret (o:O)
 | fail
 | rd (b off n:Nat) (k:List V->AI)
 | rd1 (b off:Nat) (k:V->AI)
 | wr (b off:Nat) (l:List V) (k:AI)
 | sz (b:Nat) (k:Nat->Nat->Nat->AI)
 | new (c:List V) (t op:Nat) (k:Nat->AI)
 | del (b:Nat) (k:AI)
 | newO (o:Ob) (k:Nat->AI)
 | getO (b:Nat) (k:Ob->AI)
 | setO (b:Nat) (o:Ob) (k:AI)
 | sub (p:AI) (k:V->List Fp->AI)
def dP (n0 n1:Nat) (l:List Fp):List Fp:=List.rec [] (fun f _ ih=>Fp.rec (fun b lo hi w=>Bool.rec (Bool.rec (.cell b lo hi w :: ih) ih (Nat.blt b n1)) (.cell b lo hi w :: ih) (Nat.blt b n0)) (fun m0 m1=>Bool.rec (.fresh m0 m1 :: ih) (Bool.rec (.fresh m0 m1 :: ih) ih (Nat.ble m1 n1)) (Nat.ble n0 m0)) f) l
def ifN {β:Type} (b:Bool) (d p:β):β:=Bool.rec d p b
abbrev R:=Option (O × S)
abbrev St:=Tr Blk->Nat->List Fp->R
def rowK {β:Type} (x:Blk):(List V->Nat->Nat->β)->β->β:=Blk.rec (motive:=fun _=>(List V->Nat->Nat->β)->β->β) (fun c t op=>fun f _=>f c t op) (fun _=>fun _ d=>d) x
def obK {β:Type} (x:Blk):(Ob->β)->β->β:=Blk.rec (motive:=fun _=>(Ob->β)->β->β) (fun _ _ _=>fun _ d=>d) (fun o=>fun f _=>f o) x
def opt {α β:Type} (o:Option α) (d:β) (f:α->β):β:=Option.rec d f o
def rRd (b off n:Nat) (ih:List V->St):St:=fun h nx lg=>opt (gp h (pa b)) none fun k=>rowK k (fun c _ _=>opt (tk n (dr off c)) none fun l=>ifN (Nat.blt 0 n) none (ih l h nx (.cell b off (Nat.add off n) false :: lg))) none
def rRd1 (b off:Nat) (ih:V->St):St:=fun h nx lg=>opt (gp h (pa b)) none fun k=>rowK k (fun c _ _=>opt (nth c off) none fun v=>ih v h nx (.cell b off (Nat.succ off) false :: lg)) none
def rWr (b off:Nat) (l:List V) (ih:St):St:=fun h nx lg=>opt (gp h (pa b)) none fun k=>rowK k (fun c t op=>opt (pl l off c) none fun c'=>pp h (some (.cells c' t op)) (pa b) fun h=>ifN (Nat.blt 0 (ln l 0)) none (ih h nx (.cell b off (Nat.add off (ln l 0)) true :: lg))) none
def rSz (b:Nat) (ih:Nat->Nat->Nat->St):St:=fun h nx lg=>opt (gp h (pa b)) none fun k=>rowK k (fun c t op=>eA (ln c 0) none fun n=>ih n t op h nx (.cell b n (Nat.succ n) false :: lg)) none
def rNew (x:Blk) (ih:Nat->St):St:=fun h nx lg=>eA nx none fun n=>opt (gp h (pa n)) (pp h (some x) (pa n) fun h=>ih n h (Nat.succ n) (.fresh n (Nat.succ n) :: lg)) fun _=>none
def rDel (b:Nat) (ih:St):St:=fun h nx lg=>opt (gp h (pa b)) none fun k=>rowK k (fun c _ _=>pp h none (pa b) fun h=>ih h nx (.cell b 0 (Nat.succ (ln c 0)) true :: lg)) none
def rGetO (b:Nat) (ih:Ob->St):St:=fun h nx lg=>opt (gp h (pa b)) none fun k=>obK k (fun o=>ih o h nx (.cell b 0 1 false :: lg)) none
def rSetO (b:Nat) (o:Ob) (ih:St):St:=fun h nx lg=>opt (gp h (pa b)) none fun k=>obK k (fun _=>pp h (some (.obj o)) (pa b) fun h=>ih h nx (.cell b 0 1 true :: lg)) none
def rSub1 (ih:V->List Fp->St) (nx:Nat) (lg:List Fp) (r:R):R:=match r with
 | some (o,s)=>match o with
  | .val v=>match s with
   | ⟨h',nx',lg'⟩=>ih v (.fresh nx nx' :: dP nx nx' lg') h' nx' (.fresh nx nx' :: ap (dP nx nx' lg') lg)
  | .panic _=>none
 | none=>none
def rSub (ihp:St) (ih:V->List Fp->St):St:=fun h nx lg=>rSub1 ih nx lg (ihp h nx [])
def run (p:AI):St:=AI.rec (fun o h nx lg=>some (o,⟨h,nx,lg⟩)) (fun _ _ _=>none) (fun b off n _ ih=>rRd b off n ih) (fun b off _ ih=>rRd1 b off ih) (fun b off l _ ih=>rWr b off l ih)
 (fun b _ ih=>rSz b ih) (fun c t op _ ih=>rNew (.cells c t op) ih) (fun b _ ih=>rDel b ih) (fun o _ ih=>rNew (.obj o) ih) (fun b _ ih=>rGetO b ih) (fun b o _ ih=>rSetO b o ih) (fun _ _ ihp ih=>rSub ihp ih) p
end
noncomputable section
def tys (P:Program):Tr TypeInfo:=sO P.types.toList 0 .leaf fun t=>t
def fns (P:Program):Tr Func:=sO P.funcs.toList 0 .leaf fun t=>t
def info (P:Program) (t:Nat):Option TypeInfo:=gp (tys P) (pa t)
def fnAt (P:Program) (f:Nat):Option Func:=gp (fns P) (pa f)
def und1 (P:Program) (i:TypeInfo):Option TypeDesc:=match i.desc with
 | .named _ u=>match info P u with
  | some j=>some j.desc
  | none=>none
 | d=>some d
def und (P:Program) (t:Nat):Option TypeDesc:=match info P t with
 | some i=>und1 P i
 | none=>none
def szT (P:Program) (t:Nat):Option Nat:=match info P t with
 | some i=>some i.size
 | none=>none
def shp (P:Program) (t:Nat):Option (Option Nat):=match und P t with
 | some (.struct _)=>match szT P t with
  | some n=>some (some n)
  | none=>none
 | some (.array _ _)=>match szT P t with
  | some n=>some (some n)
  | none=>none
 | some _=>some none
 | none=>none
def isC:V->Bool
 | .agg _=>false
 | .tup _=>false
 | _=>true
def iA:List V->Bool
 | []=>true
 | v :: l=>match isC v with
  | true=>iA l
  | false=>false
mutual
def ofC:Value->Option V
 | .int k n=>some (.int k n)
 | .bool b=>some (.bool b)
 | .string s=>some (.str s)
 | .pointer none=>some .nilp
 | .slice none 0 0=>some .nils
 | .map none=>some .nilm
 | .nilFunc=>some .nilf
 | .nilIface=>some .nili
 | .iface t v=>match ofC v with
  | some x=>some (.iface t x)
  | none=>none
 | .agg cs=>match ofA cs with
  | some l=>match iA l with
   | true=>some (.agg l)
   | false=>none
  | none=>none
 | .tuple cs=>match ofA cs with
  | some l=>some (.tup l)
  | none=>none
 | _=>none
def ofA:Array Value->Option (List V)
 | ⟨l⟩=>ofL l
def ofL:List Value->Option (List V)
 | []=>some []
 | v :: l=>match ofC v with
  | some x=>match ofL l with
   | some r=>some (x :: r)
   | none=>none
  | none=>none
end
def zer (P:Program) (t:Nat):Option V:=match info P t with
 | some i=>match i.zero with
  | some z=>ofC z
  | none=>none
 | none=>none
def dY:V:= .tup []
def vc0 (x:V):V->Option (List V):=V.rec (motive_1:=fun _=>V->Option (List V)) (motive_2:=fun _=>Unit) (fun _ _=>fun v=>some [v]) (fun _=>fun v=>some [v]) (fun _=>fun v=>some [v]) (fun _ _=>fun v=>some [v]) (fun v=>some [v]) (fun _ _ _ _=>fun v=>some [v]) (fun _ _ _ _=>fun v=>some [v]) (fun v=>some [v]) (fun _=>fun v=>some [v]) (fun v=>some [v]) (fun _ _ _ _ _=>fun v=>some [v]) (fun _=>fun v=>some [v]) (fun v=>some [v]) (fun _ _ _=>fun v=>some [v]) (fun v=>some [v]) (fun cs _=>fun _=>some cs) (fun _ _=>fun _=>none) () (fun _ _ _ _=>()) x
def vc (v:V):Option (List V):=vc0 v v
inductive Df where
 | fn (f:Nat) (args cap:List V)
 | col (r:Nat)
structure Ac where
 e:Tr V
 n:Nat
 ds:List Df
 ro:Option Nat
inductive X where
 | normal
 | exit (id:Nat)
 | ret
 | panic (ch:List PE)
abbrev KX:=X->Ac->AI
abbrev Ex:=Code->Ac->KX->AI
abbrev KV:=V->AI
abbrev H:=Program->Ex->Tr V->KV->(List PE->AI)->(Df->AI)->AI
def ev (x:Operand):Tr V->Option V:=Operand.rec (motive:=fun _=>Tr V->Option V) (fun t=>fun e=>gp e (pa t)) (fun c=>fun _=>ofC c) (fun _=>fun _=>none) (fun f=>fun _=>some (.fn f [] [])) x
def bZ (x:Operand) (e:Tr V) (f:V->AI):AI:=Option.rec .fail f (ev x e)
def dM (x y:Operand) (e:Tr V) (f:V->V->AI):AI:=Option.rec .fail (fun v=>Option.rec .fail (f v) (ev y e)) (ev x e)
def dZ (x y z:Operand) (e:Tr V) (f:V->V->V->AI):AI:=bZ x e fun v=>dM y z e (f v)
def evs (l:List Operand) (e:Tr V):Option (List V):=List.rec (some []) (fun x _ ih=>Option.rec none (fun v=>Option.rec none (fun vs=>some (v :: vs)) ih) (ev x e)) l
def dV (l:List Operand) (e:Tr V) (f:List V->AI):AI:=opt (evs l e) .fail f
def evO (x:Option Operand) (e:Tr V):Option (Option V):=match x with
 | none=>some none
 | some x=>match ev x e with
  | some v=>some (some v)
  | none=>none
def xN (x:Option Operand) (e:Tr V) (f:Option V->AI):AI:=opt (evO x e) .fail f
def prt:List (Nat × Operand)->List Operand
 | []=>[]
 | (_,x) :: l=>x :: prt l
def cB (b:Bool) (p:AI):AI:=Bool.rec .fail p b
def ife {β:Type} (b:Bool) (p q:β):β:=Bool.rec q p b
def oo {α:Type} (o:Option α) (f:α->AI):AI:=opt o .fail f
def rO (x:V):(Nat->Nat->AI)->AI:=V.rec (motive_1:=fun _=>(Nat->Nat->AI)->AI) (motive_2:=fun _=>Unit) (fun _ _=>fun _=> .fail) (fun _=>fun _=> .fail) (fun _=>fun _=> .fail) (fun b off=>fun f=>f b off) (fun _=> .fail) (fun _ _ _ _=>fun _=> .fail) (fun _ _ _ _=>fun _=> .fail) (fun _=> .fail) (fun _=>fun _=> .fail) (fun _=> .fail) (fun _ _ _ _ _=>fun _=> .fail) (fun _=>fun _=> .fail) (fun _=> .fail) (fun _ _ _=>fun _=> .fail) (fun _=> .fail) (fun _ _=>fun _=> .fail) (fun _ _=>fun _=> .fail) () (fun _ _ _ _=>()) x
def vX {β:Type} (x:V):(IntKind->Int->β)->β->β:=V.rec (motive_1:=fun _=>(IntKind->Int->β)->β->β) (motive_2:=fun _=>Unit) (fun k n=>fun f _=>f k n) (fun _=>fun _ d=>d) (fun _=>fun _ d=>d) (fun _ _=>fun _ d=>d) (fun _ d=>d) (fun _ _ _ _=>fun _ d=>d) (fun _ _ _ _=>fun _ d=>d) (fun _ d=>d) (fun _=>fun _ d=>d) (fun _ d=>d) (fun _ _ _ _ _=>fun _ d=>d) (fun _=>fun _ d=>d) (fun _ d=>d) (fun _ _ _=>fun _ d=>d) (fun _ d=>d) (fun _ _=>fun _ d=>d) (fun _ _=>fun _ d=>d) () (fun _ _ _ _=>()) x
def asBool {β:Type} (x:V):(Bool->β)->β->β:=V.rec (motive_1:=fun _=>(Bool->β)->β->β) (motive_2:=fun _=>Unit) (fun _ _=>fun _ d=>d) (fun b=>fun f _=>f b) (fun _=>fun _ d=>d) (fun _ _=>fun _ d=>d) (fun _ d=>d) (fun _ _ _ _=>fun _ d=>d) (fun _ _ _ _=>fun _ d=>d) (fun _ d=>d) (fun _=>fun _ d=>d) (fun _ d=>d) (fun _ _ _ _ _=>fun _ d=>d) (fun _=>fun _ d=>d) (fun _ d=>d) (fun _ _ _=>fun _ d=>d) (fun _ d=>d) (fun _ _=>fun _ d=>d) (fun _ _=>fun _ d=>d) () (fun _ _ _ _=>()) x
def asAgg {β:Type} (x:V):(List V->β)->β->β:=V.rec (motive_1:=fun _=>(List V->β)->β->β) (motive_2:=fun _=>Unit) (fun _ _=>fun _ d=>d) (fun _=>fun _ d=>d) (fun _=>fun _ d=>d) (fun _ _=>fun _ d=>d) (fun _ d=>d) (fun _ _ _ _=>fun _ d=>d) (fun _ _ _ _=>fun _ d=>d) (fun _ d=>d) (fun _=>fun _ d=>d) (fun _ d=>d) (fun _ _ _ _ _=>fun _ d=>d) (fun _=>fun _ d=>d) (fun _ d=>d) (fun _ _ _=>fun _ d=>d) (fun _ d=>d) (fun cs _=>fun f _=>f cs) (fun _ _=>fun _ d=>d) () (fun _ _ _ _=>()) x
def asTup (x:V):(List V->AI)->AI:=V.rec (motive_1:=fun _=>(List V->AI)->AI) (motive_2:=fun _=>Unit) (fun _ _=>fun _=> .fail) (fun _=>fun _=> .fail) (fun _=>fun _=> .fail) (fun _ _=>fun _=> .fail) (fun _=> .fail) (fun _ _ _ _=>fun _=> .fail) (fun _ _ _ _=>fun _=> .fail) (fun _=> .fail) (fun _=>fun _=> .fail) (fun _=> .fail) (fun _ _ _ _ _=>fun _=> .fail) (fun _=>fun _=> .fail) (fun _=> .fail) (fun _ _ _=>fun _=> .fail) (fun _=> .fail) (fun _ _=>fun _=> .fail) (fun cs _=>fun f=>f cs) () (fun _ _ _ _=>()) x
def vZ {β:Type} (x:V):(ByteArray->β)->β->β:=V.rec (motive_1:=fun _=>(ByteArray->β)->β->β) (motive_2:=fun _=>Unit) (fun _ _=>fun _ d=>d) (fun _=>fun _ d=>d) (fun s=>fun f _=>f s) (fun _ _=>fun _ d=>d) (fun _ d=>d) (fun _ _ _ _=>fun _ d=>d) (fun _ _ _ _=>fun _ d=>d) (fun _ d=>d) (fun _=>fun _ d=>d) (fun _ d=>d) (fun _ _ _ _ _=>fun _ d=>d) (fun _=>fun _ d=>d) (fun _ d=>d) (fun _ _ _=>fun _ d=>d) (fun _ d=>d) (fun _ _=>fun _ d=>d) (fun _ _=>fun _ d=>d) () (fun _ _ _ _=>()) x
def asSl (x:V):(Nat->Nat->Nat->Nat->AI)->(Nat->Nat->Nat->Nat->AI)->AI->AI->AI:=V.rec (motive_1:=fun _=>(Nat->Nat->Nat->Nat->AI)->(Nat->Nat->Nat->Nat->AI)->AI->AI->AI) (motive_2:=fun _=>Unit) (fun _ _=>fun _ _ _ d=>d) (fun _=>fun _ _ _ d=>d) (fun _=>fun _ _ _ d=>d) (fun _ _=>fun _ _ _ d=>d) (fun _ _ _ d=>d) (fun b off len cap=>fun f _ _ _=>f b off len cap) (fun b off len es=>fun _ g _ _=>g b off len es) (fun _ _ n _=>n) (fun _=>fun _ _ _ d=>d) (fun _ _ _ d=>d) (fun _ _ _ _ _=>fun _ _ _ d=>d) (fun _=>fun _ _ _ d=>d) (fun _ _ _ d=>d) (fun _ _ _=>fun _ _ _ d=>d) (fun _ _ _ d=>d) (fun _ _=>fun _ _ _ d=>d) (fun _ _=>fun _ _ _ d=>d) () (fun _ _ _ _=>()) x
def asMap (x:V):(Nat->AI)->AI->AI:=V.rec (motive_1:=fun _=>(Nat->AI)->AI->AI) (motive_2:=fun _=>Unit) (fun _ _=>fun _ _=> .fail) (fun _=>fun _ _=> .fail) (fun _=>fun _ _=> .fail) (fun _ _=>fun _ _=> .fail) (fun _ _=> .fail) (fun _ _ _ _=>fun _ _=> .fail) (fun _ _ _ _=>fun _ _=> .fail) (fun _ _=> .fail) (fun b=>fun f _=>f b) (fun _ n=>n) (fun _ _ _ _ _=>fun _ _=> .fail) (fun _=>fun _ _=> .fail) (fun _ _=> .fail) (fun _ _ _=>fun _ _=> .fail) (fun _ _=> .fail) (fun _ _=>fun _ _=> .fail) (fun _ _=>fun _ _=> .fail) () (fun _ _ _ _=>()) x
def asIf (x:V):(Nat->V->AI)->AI->AI:=V.rec (motive_1:=fun _=>(Nat->V->AI)->AI->AI) (motive_2:=fun _=>Unit) (fun _ _=>fun _ _=> .fail) (fun _=>fun _ _=> .fail) (fun _=>fun _ _=> .fail) (fun _ _=>fun _ _=> .fail) (fun _ _=> .fail) (fun _ _ _ _=>fun _ _=> .fail) (fun _ _ _ _=>fun _ _=> .fail) (fun _ _=> .fail) (fun _=>fun _ _=> .fail) (fun _ _=> .fail) (fun _ _ _ _ _=>fun _ _=> .fail) (fun _=>fun _ _=> .fail) (fun _ _=> .fail) (fun t v _=>fun f _=>f t v) (fun _ n=>n) (fun _ _=>fun _ _=> .fail) (fun _ _=>fun _ _=> .fail) () (fun _ _ _ _=>()) x
def asFn (x:V):(Nat->List V->List V->AI)->(Nat->AI)->AI:=V.rec (motive_1:=fun _=>(Nat->List V->List V->AI)->(Nat->AI)->AI) (motive_2:=fun _=>Unit) (fun _ _=>fun _ _=> .fail) (fun _=>fun _ _=> .fail) (fun _=>fun _ _=> .fail) (fun _ _=>fun _ _=> .fail) (fun _ _=> .fail) (fun _ _ _ _=>fun _ _=> .fail) (fun _ _ _ _=>fun _ _=> .fail) (fun _ _=> .fail) (fun _=>fun _ _=> .fail) (fun _ _=> .fail) (fun g a c _ _=>fun f _=>f g a c) (fun l=>fun _ y=>y l) (fun _ _=> .fail) (fun _ _ _=>fun _ _=> .fail) (fun _ _=> .fail) (fun _ _=>fun _ _=> .fail) (fun _ _=>fun _ _=> .fail) () (fun _ _ _ _=>()) x
def noNil (x:V):AI->AI:=V.rec (motive_1:=fun _=>AI->AI) (motive_2:=fun _=>Unit) (fun _ _=>fun _=> .fail) (fun _=>fun _=> .fail) (fun _=>fun _=> .fail) (fun _ _=>fun k=>k) (fun _=> .fail) (fun _ _ _ _=>fun _=> .fail) (fun _ _ _ _=>fun _=> .fail) (fun _=> .fail) (fun _=>fun _=> .fail) (fun _=> .fail) (fun _ _ _ _ _=>fun k=>k) (fun _=>fun k=>k) (fun _=> .fail) (fun _ _ _=>fun _=> .fail) (fun _=> .fail) (fun _ _=>fun _=> .fail) (fun _ _=>fun _=> .fail) () (fun _ _ _ _=>()) x
def OPEN:Nat:=9223372036854775808
def natI (x:Int):Option Nat:=Int.rec (motive:=fun _=>Option Nat) (fun k=>some k) (fun _=>none) x
def nA (v:V):Option Nat:=vX v (fun _ n=>natI n) none
def inR (x:Int):(Int->AI)->AI:=Int.rec (motive:=fun _=>(Int->AI)->AI) (fun n=>fun k=>eA n .fail fun n=>cB (Nat.blt n OPEN) (k (.ofNat n))) (fun n=>fun k=>eA n .fail fun n=>cB (Nat.blt n OPEN) (k (.negSucc n))) x
def ltI (i j:Int):Bool:=match i,j with
 | .ofNat a, .ofNat b=>Nat.blt a b
 | .negSucc _, .ofNat _=>true
 | .negSucc a, .negSucc b=>Nat.blt b a
 | .ofNat _, .negSucc _=>false
def eqI (i j:Int):Bool:=match i,j with
 | .ofNat a, .ofNat b=>Nat.beq a b
 | .negSucc a, .negSucc b=>Nat.beq a b
 | _,_=>false
mutual
def gv:V->Option Value
 | .int k n=>some (.int k n)
 | .bool b=>some (.bool b)
 | .str s=>some (.string s)
 | .nilp=>some (.pointer none)
 | .nils=>some (.slice none 0 0)
 | .nilm=>some (.map none)
 | .nilf=>some .nilFunc
 | .nili=>some .nilIface
 | .iface t v=>match gv v with
  | some x=>some (.iface t x)
  | none=>none
 | .agg cs=>match iA cs with
  | true=>match gvs cs with
   | some l=>some (.agg ⟨l⟩)
   | none=>none
  | false=>none
 | .tup cs=>match gvs cs with
  | some l=>some (.tuple ⟨l⟩)
  | none=>none
 | _=>none
def gvs:List V->Option (List Value)
 | []=>some []
 | v :: l=>match gv v with
  | some x=>match gvs l with
   | some r=>some (x :: r)
   | none=>none
  | none=>none
end
def zW (P:Program) {α:Type}:Sem α->Option α
 | .pure a=>some a
 | .program k=>zW P (k P)
 | .mark _ k=>zW P k
 | _=>none
def gen (P:Program) (m:Sem Value) (k:V->AI):AI:=oo (zW P m) fun v=>oo (ofC v) k
def gen1 (P:Program) (m:Value->Sem Value) (x:V) (k:V->AI):AI:=oo (gv x) fun a=>gen P (m a) k
def gen2 (P:Program) (m:Value->Value->Sem Value) (x y:V) (k:V->AI):AI:=oo (gv x) fun a=>oo (gv y) fun b=>gen P (m a b) k
def iQ (n:Int):V:= .int .i64 n
def binI (x:BinOp):Int->Int->(V->AI)->AI->AI:=BinOp.rec (motive:=fun _=>Int->Int->(V->AI)->AI->AI) (fun i j k _=>inR (i+j) fun n=>k (.int .i64 n)) (fun i j k _=>inR (i - j) fun n=>k (.int .i64 n)) (fun i j k _=>inR (i*j) fun n=>k (.int .i64 n)) (fun _ _ _ d=>d) (fun _ _ _ d=>d) (fun _ _ _ d=>d) (fun _ _ _ d=>d) (fun _ _ _ d=>d) (fun _ _ _ d=>d) (fun _ _ _ d=>d) (fun _ _ _ d=>d) (fun i j k _=>k (.bool (eqI i j))) (fun i j k _=>k (.bool (Bool.not (eqI i j)))) (fun i j k _=>k (.bool (ltI i j))) (fun i j k _=>k (.bool (Bool.not (ltI j i)))) (fun i j k _=>k (.bool (ltI j i))) (fun i j k _=>k (.bool (Bool.not (ltI i j)))) x
def eqN1:V->V->Option Bool
 | .nilp, .ptr _ _=>some false
 | .ptr _ _, .nilp=>some false
 | .ptr b o, .ptr c q=>match Nat.beq b c with
  | true=>some (Nat.beq o q)
  | false=>none
 | _,_=>none
def eqN2:V->V->Option Bool
 | .nils, .sl _ _ _ _=>some false
 | .nils, .so _ _ _ _=>some false
 | .sl _ _ _ _, .nils=>some false
 | .so _ _ _ _, .nils=>some false
 | _,_=>none
def eqN3:V->V->Option Bool
 | .nilm, .map _=>some false
 | .map _, .nilm=>some false
 | _,_=>none
def eqN4:V->V->Option Bool
 | .nilf, .fn _ _ _=>some false
 | .fn _ _ _, .nilf=>some false
 | _,_=>none
def eqN5:V->V->Option Bool
 | .nili, .iface _ _=>some false
 | .iface _ _, .nili=>some false
 | _,_=>none
def eqN (P:Program) (T:Nat) (a b:V):Option Bool:=match und P T with
 | some (.pointer el)=>match szT P el with
  | some (_+1)=>eqN1 a b
  | _=>none
 | some (.slice _)=>eqN2 a b
 | some (.map _ _)=>eqN3 a b
 | some (.func _ _ _)=>eqN4 a b
 | some (.interface _)=>eqN5 a b
 | _=>none
def eqK (x:BinOp):Bool->(V->AI)->AI:=BinOp.rec (motive:=fun _=>Bool->(V->AI)->AI) (fun _ _=> .fail) (fun _ _=> .fail) (fun _ _=> .fail) (fun _ _=> .fail) (fun _ _=> .fail) (fun _ _=> .fail) (fun _ _=> .fail) (fun _ _=> .fail) (fun _ _=> .fail) (fun _ _=> .fail) (fun _ _=> .fail) (fun r k=>k (.bool r)) (fun r k=>k (.bool (Bool.not r))) (fun _ _=> .fail) (fun _ _=> .fail) (fun _ _=> .fail) (fun _ _=> .fail) x
def binG (P:Program) (op:BinOp) (T:Nat) (x y:Operand) (a b:V) (k:V->AI):AI:=opt (eqN P T a b) (gen2 P (fun a b=>do eqGuard op T x y a b;binOp op T a b) a b k) fun r=>eqK op r k
def isI64 (k:IntKind):Bool:=match k with
 | .i64=>true
 | _=>false
def binB (op:BinOp) (u v:V) (k:V->AI) (d:AI):AI:=vX u (fun ku i=>vX v (fun kv j=>ife (isI64 ku) (ife (isI64 kv) (binI op i j k d) d) d) d) d
def hBin (op:BinOp) (T:Nat) (x y:Operand):H:=fun P _ e k _ _=>dM x y e fun u v=>binB op u v k (binG P op T x y u v k)
def mF (x:Operand):H:=fun _ _ e k _ _=>bZ x e k
def xM (c x y:Operand):H:=fun _ _ e k _ _=>dZ c x y e fun c x y=>asBool c (fun b=>ife b (k x) (k y)) .fail
def loadS (s:Option Nat) (b off:Nat) (k:V->AI):AI:=opt s (.rd1 b off k) fun n=>ife (Nat.beq n 0) (k (.agg [])) (.rd b off n fun l=>k (.agg l))
def yM (t:Nat) (x:Operand):H:=fun P _ e k _ _=>bZ x e fun v=>oo (shp P t) fun s=>rO v fun b off=>loadS s b off k
def wA (t:Nat) (x y:Operand):H:=fun P _ e k _ _=>dM x y e fun p v=>oo (szT P t) fun n=>rO p fun b off=>oo (vc v) fun c=>cB (Nat.beq (ln c 0) n) (ife (Nat.beq n 0) (k dY) (.wr b off c (k dY)))
def yX (t:Nat):H:=fun P _ e k _ _=>oo (zer P t) fun z=>oo (vc z) fun c=> .new c t 0 fun b=>k (.ptr b 0)
def hBox (t:Nat) (x:Operand):H:=fun _ _ e k _ _=>bZ x e fun v=>oo (vc v) fun c=> .new c t 0 fun b=>k (.ptr b 0)
def fldOf (P:Program) (t f:Nat):Option (Nat × Nat):=match und P t with
 | some (.struct fs)=>match nth fs.toList f with
  | some fd=>some (fd.offset,fd.type)
  | none=>none
 | _=>none
def fldA (P:Program) (t f:Nat):Option Nat:=match fldOf P t f with
 | some (o,ft)=>match szT P ft with
  | some n=>match Nat.blt 0 n with
   | true=>some o
   | false=>none
  | none=>none
 | none=>none
def xU (t:Nat) (x:Operand) (f:Nat):H:=fun P _ e k _ _=>bZ x e fun v=>oo (fldA P t f) fun o=>rO v fun b off=>eA (Nat.add off o) .fail fun n=>k (.ptr b n)
def partV (s:Option Nat) (off:Nat) (cs:List V) (k:V->AI):AI:=opt s (oo (nth cs off) k) fun n=>oo (tk n (dr off cs)) fun l=>k (.agg l)
def fldV (P:Program) (t f:Nat):Option (Nat × Option Nat):=match fldOf P t f with
 | some (o,ft)=>match shp P ft with
  | some s=>some (o,s)
  | none=>none
 | none=>none
def yB (t:Nat) (x:Operand) (f:Nat):H:=fun P _ e k _ _=>bZ x e fun v=>oo (fldV P t f) fun q=>asAgg v (fun cs=>partV q.2 q.1 cs k) .fail
def elOf (P:Program) (t:Nat):Option Nat:=match und P t with
 | some (.slice el)=>some el
 | _=>none
def arOf (P:Program) (t:Nat):Option (Nat × Nat):=match und P t with
 | some (.array n el)=>some (n,el)
 | _=>none
def ixOf (P:Program) (t:Nat):Option (Nat × Option Nat):=match und P t with
 | some (.slice el)=>match szT P el with
  | some es=>some (es,none)
  | none=>none
 | some (.array n el)=>match szT P el with
  | some es=>some (es,some n)
  | none=>none
 | _=>none
def at' (b off es len:Nat) (i:V) (k:V->AI):AI:=oo (nA i) fun j=>cB (Nat.blt j len) (eA (Nat.add off (Nat.mul j es)) .fail fun n=>k (.ptr b n))
def xS (t:Nat) (x i:Operand):H:=fun P _ e k _ _=>dM x i e fun v i=>oo (ixOf P t) fun q=>
 opt q.2 (asSl v (fun b off len _=>at' b off q.1 len i k) (fun b off len _=>at' b off q.1 len i k) .fail .fail) fun n=>rO v fun b off=>at' b off q.1 n i k
def hIdx (t:Nat) (x i:Operand):H:=fun P _ e k _ _=>dM x i e fun v i=>asAgg v (fun cs=>oo (arOf P t) fun q=>oo (szT P q.2) fun es=>oo (shp P q.2) fun s=>oo (nA i) fun j=>cB (Nat.blt j q.1) (partV s (Nat.mul j es) cs k))
 (gen2 P (Instr.index t) v i k)
def hUn (op:UnOp) (_:Nat) (x:Operand):H:=fun P _ e k _ _=>bZ x e fun v=>match op with
 | .not=>asBool v (fun b=>k (.bool (Bool.not b))) .fail
 | op=>gen1 P (Op.unary op) v k
def hNil (x:Operand):H:=fun _ _ e k _ _=>bZ x e fun v=>noNil v (k v)
def hExt (x:Operand) (i:Nat):H:=fun _ _ e k _ _=>bZ x e fun v=>asTup v fun l=>oo (nth l i) k
def noIf (P:Program) (t:Nat):Bool:=match und P t with
 | none=>false
 | some (.interface _)=>false
 | some _=>true
def hMkI (t:Nat) (x:Operand):H:=fun P _ e k _ _=>bZ x e fun v=>cB (noIf P t) (k (.iface t v))
def fnOf (x:Fn):Option Nat:=Fn.rec (motive:=fun _=>Option Nat) (fun g=>some g) (fun _=>none) (fun _ _=>none) (fun _ _ _ _=>none) (fun _=>none) x
def hMkF (fn:Fn) (f c:Array Operand):H:=fun _ _ e k _ _=>oo (fnOf fn) fun g=>dV f.toList e fun f=>dV c.toList e fun c=>k (.fn g f c)
def okT (ok b:Bool) (v:V):V:=match ok with
 | true=> .tup [v, .bool b]
 | false=>v
def hTa (x:Operand) (_ T:Nat) (ok:Bool):H:=fun P _ e k _ _=>bZ x e fun v=>cB (noIf P T) (asIf v (fun t w=>ife (Nat.beq t T) (k (okT ok true w)) (cB ok (oo (zer P T) fun z=>k (.tup [z, .bool false]))))
 (cB ok (oo (zer P T) fun z=>k (.tup [z, .bool false]))))
def plc (P:Program) (fs:List Field) (i:Nat):Option (Nat × Nat):=match nth fs i with
 | some f=>match szT P f.type with
  | some n=>some (f.offset,n)
  | none=>none
 | none=>none
def tM (pc:Nat->Option (Nat × Nat)) (ps:List (Nat × Operand)):List V->List V->Option (List V):=List.rec (fun _ c=>some c) (fun p _ ih vs c=>List.rec none (fun v r _=>Option.rec none (fun q=>Option.rec none (fun u=>Bool.rec none (Option.rec none (fun c'=>ih r c') (pl u q.1 c)) (Nat.beq (ln u 0) q.2)) (vc v)) (pc p.1)) vs) ps
def szs (P:Program):List Field->Bool
 | []=>true
 | f :: r=>match szT P f.type with
  | some _=>szs P r
  | none=>false
def plcOf (P:Program) (t:Nat):Option (Nat->Option (Nat × Nat)):=match und P t with
 | some (.struct fs)=>match szs P fs.toList with
  | true=>some (plc P fs.toList)
  | false=>none
 | some (.array _ el)=>match szT P el with
  | some es=>some fun i=>some (Nat.mul i es,es)
  | none=>none
 | _=>none
def yD (t:Nat) (ps:Array (Nat × Operand)):H:=fun P _ e k _ _=>dV (prt ps.toList) e fun vs=>oo (zer P t) fun z=>oo (plcOf P t) fun pc=>oo (asAgg z some none) fun z=>oo (tM pc ps.toList vs z) fun c=>k (.agg c)
def lim:Nat:=1048576
def sP (P:Program) (t:Nat):Option (Nat × Nat × List V):=match elOf P t with
 | some el=>match info P el with
  | some i=>match zer P el with
   | some z=>match vc z with
    | some c=>match Bool.and (Nat.beq (ln c 0) i.size) (Bool.and (Nat.ble i.size lim) (Nat.ble i.bytes lim))with
     | true=>some (el,i.size,c)
     | false=>none
    | none=>none
   | none=>none
  | none=>none
 | none=>none
def uN (t len:Nat) (ps:Array (Nat × Operand)):H:=fun P _ e k _ _=>dV (prt ps.toList) e fun vs=>oo (sP P t) fun q=>
 cB (Nat.ble (Nat.mul len q.2.1) lim) (oo (tM (fun i=>some (Nat.mul i q.2.1,q.2.1)) ps.toList vs (rep q.2.2 len)) fun c=> .new c q.1 0 fun b=>k (.sl b 0 len len))
def hMks (t:Nat) (x y:Operand):H:=fun P _ e k _ _=>dM x y e fun l c=>oo (sP P t) fun q=>oo (nA l) fun l=>oo (nA c) fun c=>
 cB (Bool.and (Nat.ble l c) (Nat.ble c lim)) (.new (rep q.2.2 c) q.1 0 fun b=>k (.sl b 0 l c))
def isStr (P:Program) (t:Nat):Bool:=match und P t with
 | some .string=>true
 | _=>false
def ofB (x:Option V) (d:Nat) (f:Nat->AI):AI:=opt x (f d) fun v=>oo (nA v) f
def slN (es b off cap l h m:Nat) (k:V->AI):AI:=cB (Bool.and (Nat.ble l h) (Bool.and (Nat.ble h m) (Nat.ble m cap))) (ife (Nat.beq m l) (k (.sl b off (Nat.sub h l) (Nat.sub m l)))
 (eA (Nat.add off (Nat.mul l es)) .fail fun o=>eA (Nat.sub h l) .fail fun n=>eA (Nat.sub m l) .fail fun c=>k (.sl b o n c)))
def slO (es b off len l h:Nat) (k:V->AI):AI:=cB (Bool.and (Nat.blt 0 es) (Bool.and (Nat.ble l h) (Bool.and (Nat.ble h len) (Bool.or (Nat.beq l 0) (Nat.blt l len)))))
 (eA (Nat.add off (Nat.mul l es)) .fail fun o=>eA (Nat.sub h l) .fail fun n=>k (.so b o n es))
def soOk (es b off len es0:Nat) (p:AI):AI:=cB (Bool.and (Nat.blt 0 es) (Nat.beq es0 es)) (.sz b fun cl _ op=>cB (Bool.and (Nat.beq op es) (Nat.ble (Nat.add off (Nat.mul len es)) cl)) p)
def hiOk (hi mx:Option V):Bool:=opt mx true fun _=>opt hi false fun _=>true
def uV (t:Nat) (x:Operand) (lo hi mx:Option Operand):H:=fun P _ e k _ _=>bZ x e fun v=>xN lo e fun lo=>xN hi e fun hi=>xN mx e fun mx=>cB (hiOk hi mx) (match elOf P t with
 | some el=>oo (szT P el) fun es=>asSl v (fun b off len cap=>ofB lo 0 fun l=>ofB hi len fun h=>ofB mx cap fun m=>slN es b off cap l h m k)
  (fun b off len es0=>soOk es b off len es0 (ofB lo 0 fun l=>ofB hi len fun h=>opt mx (slO es b off len l h k) fun _=>ofB mx 0 fun m=>slN es b off len l h m k))
  (ofB lo 0 fun l=>ofB hi 0 fun h=>ofB mx 0 fun m=>cB (Nat.beq (Nat.add l (Nat.add h m)) 0) (k .nils)) .fail
 | none=>cB (isStr P t) (opt mx (vZ v (fun s=>ofB lo 0 fun l=>ofB hi s.size fun h=>cB (Bool.and (Nat.ble l h) (Nat.ble h s.size)) (k (.str (s.extract l h)))) .fail) fun _=> .fail))
def zQ (s:ByteArray):List V:=s.data.toList.map fun b=> .int .u8 (Int.ofNat b.toNat)
def rdN (b off n:Nat) (k:List V->AI):AI:=ife (Nat.beq n 0) (k []) (.rd b off n k)
def cellsOf (es:Nat) (v:V) (f:Nat->List V->AI):AI:=asSl v (fun b off len _=>rdN b off (Nat.mul len es) (f len)) (fun b off len _=>rdN b off (Nat.mul len es) (f len)) (f 0 [])
 (vZ v (fun s=>cB (Nat.beq es 1) (f s.size (zQ s))) .fail)
def grow (el es n:Nat) (c:List V) (k:V->AI):AI:=cB (Nat.ble n lim) (.new c el es fun b=>k (.so b 0 n es))
def appO (el es b off len n:Nat) (new:List V) (k:V->AI):AI:= .sz b fun cl t op=>cB (Bool.and (Nat.beq op es) (Nat.beq t el)) (eA (Nat.add len n) .fail fun ln'=>ife (Nat.ble (Nat.add off (Nat.mul ln' es)) cl)
 (.wr b (Nat.add off (Nat.mul len es)) new (k (.so b off ln' es)))
 (cB (Bool.and (Nat.beq off 0) (Nat.beq (Nat.mul len es) cl)) (rdN b 0 (Nat.mul len es) fun old=> .del b (grow el es ln' (ap old new) k))))
def appL (el es:Nat) (s:V) (n:Nat) (new:List V) (k:V->AI):AI:=ife (Nat.beq n 0) (asSl s (fun _ _ len cap=>cB (Nat.ble len cap) (k s)) (fun b off len es0=>soOk es b off len es0 (k s)) (k s) .fail)
 (asSl s (fun b off len cap=>eA (Nat.add len n) .fail fun ln'=>ife (Nat.ble ln' cap) (.wr b (Nat.add off (Nat.mul len es)) new (k (.sl b off ln' cap))) (rdN b off (Nat.mul len es) fun old=>grow el es ln' (ap old new) k))
  (fun b off len es0=>cB (Nat.beq es0 es) (appO el es b off len n new k)) (grow el es n new k) .fail)
def isInt (P:Program) (t:Nat):Bool:=match und P t with
 | some (.int _)=>true
 | none=>true
 | _=>false
def uY (c:Call):H:=fun P _ e k _ _=>dV c.args.toList e fun vs=>match c.argTypes.toList,vs with
 | T :: U :: _,s :: x :: _=>oo (sP P T) fun q=>cB (Bool.and (Nat.blt 0 q.2.1) (Bool.not (isInt P U))) (cellsOf q.2.1 x fun n new=>appL q.1 q.2.1 s n new k)
 | _,_=> .fail
def mapK (x:Ob):(List Ent->Nat->AI)->AI:=Ob.rec (motive:=fun _=>(List Ent->Nat->AI)->AI) (fun es c=>fun f=>f es c) (fun _ _ _ _ _ _ _ _ _=>fun _=> .fail) (fun _=>fun _=> .fail) x
def hLen (c:Call):H:=fun P _ e k _ _=>dV c.args.toList e fun vs=>match c.argTypes.toList,vs with
 | T :: _,v :: _=>match und P T with
  | some (.slice _)=>asSl v (fun _ _ len _=>k (iQ (.ofNat len))) (fun _ _ len _=>k (iQ (.ofNat len))) (k (iQ (.ofNat 0))) .fail
  | some .string=>vZ v (fun s=>k (iQ (.ofNat s.size))) .fail
  | some (.map _ _)=>asMap v (fun b=> .getO b fun o=>mapK o (fun es _=>k (iQ (.ofNat (ln es 0))))) (k (iQ (.ofNat 0)))
  | some (.array n _)=>k (iQ (.ofNat n))
  | _=> .fail
 | _,_=> .fail
def hMm (least:Bool) (c:Call):H:=fun _ _ e k _ _=>dV c.args.toList e fun vs=>match vs with
 | [.int .i64 i, .int .i64 j]=>ife least (ife (ltI j i) (k (iQ j)) (k (iQ i))) (ife (ltI i j) (k (iQ j)) (k (iQ i)))
 | _=> .fail
def wQ (c:Call):H:=fun P _ e k _ _=>dV c.args.toList e fun vs=>match c.argTypes.toList,vs with
 | T :: _,v :: _=>oo (sP P T) fun q=>asSl v (fun b off len _=>ife (Nat.beq len 0) (k dY) (.wr b off (rep q.2.2 len) (k dY))) (fun b off len _=>ife (Nat.beq len 0) (k dY) (.wr b off (rep q.2.2 len) (k dY))) (k dY) .fail
 | _,_=> .fail
def isKey (P:Program) (t:Nat):Option Bool:=match und P t with
 | some (.int _)=>some false
 | some .string=>some true
 | _=>none
def pR:V->V->Option Bool
 | .int .i64 a, .int .i64 b=>some (eqI a b)
 | .int .u8 a, .int .u8 b=>some (eqI a b)
 | .str a, .str b=>some (a==b)
 | _,_=>none
def keyOk (t:Bool) (v:V):Bool:=vX v (fun _ _=>Bool.not t) (vZ v (fun _=>t) false)
def vR (x:V):List Ent->Option (Option V)
 | []=>some none
 | e :: es=>match pR x e.key with
  | some true=>some (some e.val)
  | some false=>vR x es
  | none=>none
def mapOf (P:Program) (t:Nat):Option (Nat × Bool):=match und P t with
 | some (.map kt el)=>match isKey P kt with
  | some b=>some (el,b)
  | none=>none
 | _=>none
def uP (t:Nat) (x y:Operand) (ok:Bool):H:=fun P _ e k _ _=>dM x y e fun m x=>oo (mapOf P t) fun m'=>oo (zer P m'.1) fun z=>cB (keyOk m'.2 x) (asMap m
 (fun b=> .getO b fun o=>mapK o fun es _=>oo (vR x es) fun r=>opt r (k (okT ok false z)) fun v=>k (okT ok true v)) (k (okT ok false z)))
def setE (x v:V) (c:Nat):List Ent->Option (List Ent × Nat)
 | []=>some ([⟨x,v,c⟩],Nat.succ c)
 | e :: es=>match pR x e.key with
  | some true=>some (⟨x,v,e.born⟩ :: es,c)
  | some false=>match setE x v c es with
   | some (l,c')=>some (e :: l,c')
   | none=>none
  | none=>none
def hUpd (t:Nat) (x y z:Operand):H:=fun P _ e k _ _=>dZ x y z e fun m x v=>oo (mapOf P t) fun m'=>cB (keyOk m'.2 x) (asMap m
 (fun b=> .getO b fun o=>mapK o fun es c=>oo (setE x v c es) fun q=> .setO b (.map q.1 q.2) (k dY)) .fail)
def hMapN (_:Nat) (r:Option Operand):H:=fun _ _ _ k _ _=>opt r (.newO (.map [] 0) fun b=>k (.map b)) fun _=> .fail
def asPtrD {β:Type} (x:V):(Nat->Nat->β)->β->β:=V.rec (motive_1:=fun _=>(Nat->Nat->β)->β->β) (motive_2:=fun _=>Unit) (fun _ _=>fun _ d=>d) (fun _=>fun _ d=>d) (fun _=>fun _ d=>d) (fun b off=>fun f _=>f b off) (fun _ d=>d) (fun _ _ _ _=>fun _ d=>d) (fun _ _ _ _=>fun _ d=>d) (fun _ d=>d) (fun _=>fun _ d=>d) (fun _ d=>d) (fun _ _ _ _ _=>fun _ d=>d) (fun _=>fun _ d=>d) (fun _ d=>d) (fun _ _ _=>fun _ d=>d) (fun _ d=>d) (fun _ _=>fun _ d=>d) (fun _ _=>fun _ d=>d) () (fun _ _ _ _=>()) x
def pI (P:Program) (t:Nat):Option Nat:=match und P t with
 | some (.pointer e)=>some e
 | _=>none
def isUns (P:Program) (t:Nat):Bool:=match und P t with
 | some .unsafePointer=>true
 | _=>false
def convP (P:Program) (s t b off:Nat) (k:V->AI):AI:=opt (pI P s)
 (oo (pI P t) fun u=>cB (isUns P s) (oo (szT P u) fun _=> .sz b fun cl ty op=>cB (Bool.and (Nat.beq op 0) (liesAt P P.depth ty (cl / P.cellsOf ty) off u 1)) (k (.ptr b off))))
 fun e=>cB (isUns P t) (oo (szT P e) fun n=>cB (Nat.blt 0 n) (.sz b fun cl _ _=>cB (Nat.blt off cl) (k (.ptr b off))))
def xZ (s t:Nat) (x:Operand):H:=fun P _ e k _ _=>bZ x e fun v=>asPtrD v (fun b off=>convP P s t b off k) (gen1 P (convert s t) v k)
def hSlD (c:Call):H:=fun _ _ e k _ _=>dV c.args.toList e fun vs=>match vs with
 | [v]=>asSl v (fun b off _ cap=>cB (Nat.blt 0 cap) (k (.ptr b off))) (fun b off len es=>cB (Nat.blt 0 len) (soOk es b off len es (k (.ptr b off)))) (k .nilp) .fail
 | _=> .fail
def yJ:List V->Option (List UInt8)
 | []=>some []
 | .int .u8 (.ofNat n) :: l=>match Nat.blt n 256 with
  | true=>match yJ l with
   | some r=>some (n.toUInt8 :: r)
   | none=>none
  | false=>none
 | _=>none
def vI (c:Call):H:=fun P _ e k _ _=>dV c.args.toList e fun vs=>match c.argTypes.toList,vs with
 | [T,_],[p, .int .i64 (.ofNat n)]=>rO p fun b off=>oo (pI P T) fun u=>oo (szT P u) fun es=> .sz b fun cl ty _=>cB (Bool.and (Nat.beq ty u) (Bool.and (Nat.beq es 1) (Bool.and (Nat.beq off 0) (Bool.and (Nat.blt 0 n) (Nat.ble n lim))))) (.rd b 0 n fun c=>oo (yJ c) fun s=> .del b (k (.str ⟨⟨s⟩⟩)))
 | _,_=> .fail
def dE:H:=fun _ _ _ _ _ _=> .fail
def opB (x:Builtin):Call->H:=Builtin.rec (motive:=fun _=>Call->H) (uY) (fun _=>dE) (wQ) (fun _=>dE) (fun _=>dE) (fun _=>dE) (fun _=>dE) (fun _=>dE) (hLen) (fun _=>dE) (hMm false) (hMm true) (fun _=>dE) (fun _=>dE) (fun _=>dE) (fun _=>dE) (fun _=>dE) (fun _=>dE) (fun _=>dE) (fun _=>dE) (hSlD) (vI) (fun _=>dE) (fun _=>dE) (fun _=>dE) (fun _=>dE) x
end
noncomputable section
def insE (d:Option Nat) (v:V) (e:Tr V) (n:Nat) (k:Tr V->AI):AI:=Option.rec (k e) (fun t=>Bool.rec .fail (pp e (some v) (pa t) k) (Nat.blt t n)) d
def acK {β:Type} (a:Ac) (f:Tr V->Nat->List Df->Option Nat->β):β:=Ac.rec f a
def insK (d:Option Nat) (a:Ac) (v:V) (k:Ac->AI):AI:=acK a fun e n ds ro=>insE d v e n fun e=>k ⟨e,n,ds,ro⟩
inductive FM where
 | ret
 | pan (ch:List PE)
def vV:FM->FM
 | .pan (⟨_,true⟩ :: _)=> .ret
 | u=>u
def aBt (u:FM) (ch:List PE):FM:=match u with
 | .pan old=> .pan (ap ch old)
 | .ret=> .pan ch
def rcv:FM->V × FM
 | .pan (⟨v,false⟩ :: dP)=>(v, .pan (⟨v,true⟩ :: dP))
 | u=>(.nili,u)
def bod (P:Program) (f:Nat):Option (Func × Code):=match fnAt P f with
 | none=>none
 | some fn=>match fn.body with
  | none=>none
  | some c=>match fn.name== "runtime.NumGoroutine" with
   | true=>none
   | false=>some (fn,c)
def aBz (l:List V):Nat->Tr V->(Tr V->AI)->AI:=List.rec (fun _ e k=>k e) (fun v _ ih n e k=>pp e (some v) (pa n) fun e=>ih (Nat.succ n) e k) l
def res1 (P:Program) (e:Tr V) (r:ResultVar) (k:V->AI):AI:=match r with
 | .tmp t=>oo (gp e (pa t)) k
 | .cell t T=>oo (gp e (pa t)) fun v=>oo (shp P T) fun s=>rO v fun b off=>loadS s b off k
def resA (P:Program) (e:Tr V) (rs:List ResultVar):(List V->AI)->AI:=List.rec (fun k=>k []) (fun r _ ih k=>res1 P e r fun v=>ih fun vs=>k (v :: vs)) rs
def nJ (l:List V):V:=match l with
 | [v]=>v
 | l=> .tup l
def after (x:X) (ds:List Df) (u:FM):Option FM:=match ds with
 | _ :: _=>none
 | []=>match x with
  | .normal=>some (vV u)
  | .ret=>some (vV u)
  | .panic ch=>some (aBt u ch)
  | .exit _=>none
def mP (o:Oper):Option Nat:=match o.guard with
 | some _=>none
 | none=>match o.op with
  | .call c=>match c.callee with
   | .builtin .recover=>match c.args.toList with
    | []=>o.dst
    | _=>none
   | _=>none
  | _=>none
def wD (d:Nat) (o:Oper):Option Nat:=match o.guard with
 | some _=>none
 | none=>match o.op with
  | .assign (.tmp t)=>match Nat.beq t d with
   | true=>o.dst
   | false=>none
  | _=>none
def recB (c:Code):Option (Nat × Option Nat × Code):=match c with
 | .seq (.region _ ops false) y=>match ops.toList with
  | [o,p]=>match mP o with
   | some d=>match wD d p with
    | some e=>some (d,some e,y)
    | none=>none
   | none=>none
  | [o]=>match mP o with
   | some d=>some (d,none,y)
   | none=>none
  | _=>none
 | _=>none
def aCh (fn:Func) (args:List V) (k:Ac->AI):AI:=cB (Nat.ble (ln args 0) fn.ntmps) (aBz args 0 .leaf fun e=>k ⟨e,fn.ntmps,[],none⟩)
def noRes (l:List ResultVar):Bool:=match l with
 | []=>true
 | _ :: _=>false
def defer1 (P:Program) (ex:Ex) (d:Df) (u:FM) (k:FM->AI):AI:=match d with
 | .col r=> .getO r fun o=>match o with
  | .dfr true=> .setO r (.dfr false) (k u)
  | _=> .fail
 | .fn f args cap=>oo (bod P f) fun q=>cB (noRes q.1.results.toList) (aCh q.1 (ap args cap) fun a=>match recB q.2 with
  | some (d,e,y)=>insK (some d) a (rcv u).1 fun a=>insK e a (rcv u).1 fun a=>ex y a fun x a=>oo (after x a.ds (rcv u).2) k
  | none=>ex q.2 a fun x a=>oo (after x a.ds u) k)
def gone (P:Program) (fn:Func) (e:Tr V) (u:FM) (k:O->AI):AI:=match u with
 | .ret=>resA P e fn.results.toList fun l=>k (.val (nJ l))
 | .pan ch=>k (.panic ch)
def kB (P:Program) (ex:Ex) (fn:Func) (e:Tr V) (k:O->AI) (ds:List Df):FM->AI:=List.rec (fun u=>gone P fn e u k) (fun d _ ih u=>defer1 P ex d u ih) ds
def left (x:X):Option FM:=X.rec (motive:=fun _=>Option FM) (some .ret) (fun _=>none) (some .ret) (fun ch=>some (.pan ch)) x
def left1 (P:Program) (ex:Ex) (fn:Func) (k:O->AI) (x:X) (a:Ac):AI:=oo (left x) fun u=>acK a fun e _ ds _=>kB P ex fn e k ds u
def callQ (P:Program) (ex:Ex) (q:Func × Code) (args:List V) (k:O->AI):AI:=aCh q.1 args fun a=>ex q.2 a (left1 P ex q.1 k)
def sV (P:Program) (ex:Ex) (f:Nat) (args:List V) (k:O->AI):AI:=oo (bod P f) fun q=>callQ P ex q args k
def pendOf (x:X) (ds:List Df):Option (Option Code):=match ds with
 | _ :: _=>none
 | []=>match x with
  | .normal=>some none
  | .ret=>some (some .ret)
  | .exit id=>some (some (.exit id))
  | .panic _=>none
def putPs (ts:List Nat) (n:Nat):List V->Tr V->(Tr V->AI)->AI:=List.rec (fun vs e k=>List.rec (k e) (fun _ _ _=> .fail) vs) (fun t _ ih vs e k=>List.rec .fail (fun v r _=>cB (Nat.blt t n) (pp e (some v) (pa t) fun e=>ih r e k)) vs) ts
def stOf (j:Option Code):LoopState:=match j with
 | none=> .ready
 | some _=> .done
def aA9 (ex:Ex) (l:Nat) (args:List V) (k:O->AI):AI:= .getO l fun o=>match o with
 | .loop .ready p f e n ps sg bd d=>putPs ps n args e fun e'=>ex sg ⟨e',n,[],some l⟩ fun x a=>match x with
  | .normal=> .getO l fun o=>match o with
   | .loop .ready p f e n ps sg' bd' d=> .setO l (.loop .busy p f e n ps sg' bd' d) (ex bd a fun x a=>oo (pendOf x a.ds) fun j=> .getO l fun o=>match o with
    | .loop _ _ f e n ps sg bd d=> .setO l (.loop (stOf j) j f e n ps sg bd d) (k (.val (.bool j.isNone)))
    | _=> .fail)
   | _=> .fail
  | _=> .fail
 | _=> .fail
def extN (P:Program) (f:Nat):Bool:=match fnAt P f with
 | none=>false
 | some fn=>match fn.body with
  | none=>Bool.and (fn.name== "internal/abi.NoEscape") (fn.origin== "")
  | some _=>false
def extA (P:Program) (f:Nat) (args:List V) (k:KV):AI:=match args with
 | [v]=>cB (extN P f) (k v)
 | _=> .fail
def callE (P:Program) (ex:Ex) (f:Nat) (args:List V) (k:O->AI) (kv:KV):AI:=opt (bod P f) (extA P f args kv) fun q=>callQ P ex q args k
def zS (P:Program) (t:Nat) (name:String):Option Nat:=match info P t with
 | some i=>match i.methods.find? (·.name==name)with
  | some m=>match m.path.toList with
   | []=>match m.func with
    | some (f,p)=>match und P t with
     | some (.pointer _)=>match p with
      | true=>some f
      | false=>none
     | some _=>match p with
      | true=>none
      | false=>some f
     | none=>none
    | none=>none
   | _=>none
  | none=>none
 | none=>none
def oOut (x:O):KV->(List PE->AI)->AI:=O.rec (motive:=fun _=>KV->(List PE->AI)->AI) (fun v=>fun k _=>k v) (fun ch=>fun _ kp=>kp ch) x
def zU (f:Operand) (c:Call):H:=fun P ex e k kp _=>bZ f e fun fv=>dV c.args.toList e fun args=>asFn fv (fun g first cap=>callE P ex g (ap first (ap args cap)) (fun o=>oOut o k kp) k) fun l=>aA9 ex l args fun o=>oOut o k kp
def hInv (x:Operand) (name:String) (c:Call):H:=fun P ex e k kp _=>bZ x e fun v=>dV c.args.toList e fun args=>asIf v (fun t w=>oo (zS P t name) fun f=>sV P ex f (w :: args) fun o=>oOut o k kp) .fail
def hCal (x:Callee):Call->H:=Callee.rec (motive:=fun _=>Call->H) (fun f=>zU f) (fun x name=>hInv x name) (fun b=>opB b) x
def hCall (c:Call):H:=hCal c.callee c
def valOf (x:Callee):Option Operand:=Callee.rec (motive:=fun _=>Option Operand) (fun f=>some f) (fun _ _=>none) (fun _=>none) x
def sQ (c:Call):H:=fun _ _ e _ _ kd=>oo (valOf c.callee) fun f=>bZ f e fun fv=>dV c.args.toList e fun args=>asFn fv (fun g first cap=>kd (.fn g (ap first args) cap)) fun _=> .fail
def aAB (x:Operand):H:=fun _ _ e _ kp _=>bZ x e fun v=>asIf v (fun t w=>kp [⟨.iface t w,false⟩]) .fail
def opH (x:Op):H:=Op.rec (motive:=fun _=>H) (fun x=>mF x) (fun x=>mF x) (fun c x y=>xM c x y) (fun t=>yX t) (fun t x=>hBox t x) (fun t ps=>yD t ps) (fun t n ps=>uN t n ps) (fun t x y z=>hUpd t x y z) (fun t x=>yM t x) (fun t x y=>wA t x y) (fun _=>dE) (fun _=>dE) (fun x=>hNil x) (fun op t x y _=>hBin op t x y) (fun op t x=>hUn op t x) (fun s t x=>xZ s t x) (fun _ _=>dE) (fun t x=>hMkI t x) (fun fn f c=>hMkF fn f c) (fun t r=>hMapN t r) (fun _ _=>dE) (fun t x y=>hMks t x y) (fun t x lo hi mx=>uV t x lo hi mx) (fun t x f=>xU t x f) (fun t x f=>yB t x f) (fun t x i=>xS t x i) (fun t x i=>hIdx t x i) (fun t x y ok=>uP t x y ok) (fun t x y z=>hUpd t x y z) (fun _ _ _=>dE) (fun _ _ _ _=>dE) (fun _ _=>dE) (fun _ _=>dE) (fun _=>dE) (fun x t T ok=>hTa x t T ok) (fun x i=>hExt x i) (fun c=>hCall c) (fun _=>dE) (fun c=>sQ c) (fun x=>aAB x) (fun _ _=>dE) (fun _ _ _=>dE) (fun _ _=>dE) x
def jU (ops:List Oper) (j:Nat):Option Nat:=opt (nth ops j) none fun o=>o.dst
def aB1 (ops:List Oper) (j:Nat) (w:Bool) (e:Tr V) (yes no:AI):AI:=opt (jU ops j) no fun d=>oo (gp e (pa d)) fun v=>asBool v (fun b=>ife b (ife w yes no) (ife w no yes)) no
def fin (d:Option Nat) (e:Tr V) (n:Nat) (ds:List Df) (ro:Option Nat) (ih:Ac->KX->AI) (kx:KX) (v:V):AI:=insE d v e n fun e=>ih ⟨e,n,ds,ro⟩ kx
def pan (kx:KX) (a:Ac) (ch:List PE):AI:=kx (.panic ch) a
def dfr (d:Option Nat) (e:Tr V) (n:Nat) (ds:List Df) (ro:Option Nat) (ih:Ac->KX->AI) (kx:KX) (x:Df):AI:=opt ro (insE d dY e n fun e=>ih ⟨e,n,x :: ds,ro⟩ kx) fun _=> .fail
def opG (g:Option (Nat × Bool)) (all:List Oper) (e:Tr V) (yes no:AI):AI:=opt g yes fun g=>aB1 all g.1 g.2 e yes no
def opO (all:List Oper) (P:Program) (ex:Ex) (o:Oper) (ih:Ac->KX->AI) (a:Ac) (k:KX):AI:=acK a fun e n ds ro=>opG o.guard all e (opH o.op P ex e (fin o.dst e n ds ro ih k) (pan k ⟨e,n,ds,ro⟩) (dfr o.dst e n ds ro ih k)) (fin o.dst e n ds ro ih k dY)
def opsA (all:List Oper) (P:Program) (ex:Ex) (ops:List Oper):Ac->KX->AI:=List.rec (fun a k=>k .normal a) (fun o _ ih=>opO all P ex o ih) ops
def bit (n:Nat):Nat:=Nat.shiftLeft 1 n
def has (m i:Nat):Bool:=Nat.beq (Nat.land (Nat.shiftRight m i) 1) 1
def dis (a b:Nat):Bool:=Nat.beq (Nat.land a b) 0
def opTmp:Operand->Nat
 | .tmp t=>bit t
 | _=>0
def lN:List Operand->Nat
 | []=>0
 | x :: r=>Nat.lor (opTmp x) (lN r)
def nZ (ds:List Nat) (n:Nat) (l:List Edge):Option Nat:=List.rec (some 0) (fun e _ ih=>Option.rec none (fun m=>Bool.rec (some m) (Bool.rec none (Option.rec none (fun x=>eA (Nat.lor (Nat.lor (bit e.on) x) m) none some) (nth ds (Nat.sub (Nat.sub n 1) e.on))) (Nat.blt e.on n)) (Region.binds .any e)) ih) l
def mS:Option Nat->Nat
 | some t=>bit t
 | none=>0
def gBit (all:List Oper):Option (Nat × Bool)->Nat
 | none=>0
 | some (j,_)=>mS (jU all j)
structure Inf where
 anc:Nat
 tr:Nat
 tw:Nat
def plain?:Op->Bool
 | .defer _=>false
 | .panic _=>false
 | .select _ _=>false
 | _=>true
def infs (all:List Oper) (l:List Oper):List Nat->Nat->(List Inf->Option (List Inf))->Option (List Inf):=List.rec (fun _ _ k=>k []) (fun o _ ih ds n k=>Option.rec none (fun x=>Bool.rec none (eA (Nat.lor (lN o.op.operands.toList) (gBit all o.guard)) none fun tr=>eA (mS o.dst) none fun tw=>ih (x :: ds) (Nat.succ n) fun l=>k (⟨x,tr,tw⟩ :: l)) (plain? o.op)) (nZ ds n o.after.toList)) l
def sB (x:Inf) (l:List Inf):Nat->Bool:=List.rec (fun _=>true) (fun y _ ih n=>Bool.rec (Bool.rec false (Bool.rec false (ih (Nat.sub n 1)) (dis y.tw x.tr)) (dis x.tw (Nat.lor y.tr y.tw))) (ih (Nat.sub n 1)) (has x.anc n)) l
def xY (l:List Inf):Nat->List Inf->Bool:=List.rec (fun _ _=>true) (fun x _ ih n done=>Bool.rec false (ih (Nat.succ n) (x :: done)) (sB x done (Nat.sub n 1))) l
def drawn (ops:List Oper):Option (List Inf):=infs ops ops [] 0 fun l=>ife (xY l 0 []) (some l) none
def fpAp (f g:Fp):Bool:=Fp.rec (fun b lo hi w g=>Fp.rec (fun b' lo' hi' w'=>Bool.rec true (Bool.rec (Bool.rec (Bool.rec (Bool.not w') false w) true (Nat.ble hi' lo)) true (Nat.ble hi lo')) (Nat.beq b b')) (fun n0 n1=>Bool.rec (Nat.ble n1 b) true (Nat.blt b n0)) g)
 (fun n0 n1 g=>Fp.rec (fun b _ _ _=>Bool.rec (Nat.ble n1 b) true (Nat.blt b n0)) (fun m0 m1=>Bool.rec (Nat.ble m1 n0) true (Nat.ble n1 m0)) g) f g
def ap1 (f:Fp) (l:List Fp):Bool:=List.rec true (fun g _ ih=>Bool.rec false ih (fpAp f g)) l
def apL (l m:List Fp):Bool:=List.rec true (fun f _ ih=>Bool.rec false ih (ap1 f m)) l
def apart (anc:Nat) (lg:List Fp) (l:List (Nat × List Fp)):Bool:=List.rec true (fun p _ ih=>Bool.rec (Bool.rec false ih (apL lg p.2)) ih (has anc p.1)) l
def retV (v:V):AI:= .ret (.val v)
def noPan (_:List PE):AI:= .fail
def noDfr (_:Df):AI:= .fail
def opD1 (all:List Oper) (P:Program) (ex:Ex) (o:Oper) (x:Inf) (i:Nat) (lg:List (Nat × List Fp)) (e:Tr V) (n:Nat) (ih:Nat->List (Nat × List Fp)->Tr V->AI):AI:=
 opG o.guard all e (.sub (opH o.op P ex e retV noPan noDfr) fun v l=>cB (apart x.anc l lg) (insE o.dst v e n (ih (Nat.succ i) ((i,l) :: lg)))) (insE o.dst dY e n (ih (Nat.succ i) lg))
def opD (all:List Oper) (P:Program) (ex:Ex) (o:Oper) (x:Inf) (ih:Nat->List (Nat × List Fp)->Ac->KX->AI) (i:Nat) (lg:List (Nat × List Fp)) (a:Ac) (k:KX):AI:=acK a fun e n ds ro=>opD1 all P ex o x i lg e n fun i lg e=>ih i lg ⟨e,n,ds,ro⟩ k
def opsD (all:List Oper) (P:Program) (ex:Ex) (ops:List Oper):List Inf->Nat->List (Nat × List Fp)->Ac->KX->AI:=List.rec (fun _ _ _ a k=>k .normal a) (fun o _ ih is=>List.rec (fun _ _ _ _=> .fail) (fun x is _=>opD all P ex o x (ih is)) is) ops
def aEZ (ops:Array Oper) (draw:Bool) (P:Program) (ex:Ex) (a:Ac) (k:KX):AI:=ife draw (oo (drawn ops.toList) fun is=>opsD ops.toList P ex ops.toList is 0 [] a k) (opsA ops.toList P ex ops.toList a k)
def blkX (x:X):Nat->KX->Ac->AI:=X.rec (motive:=fun _=>Nat->KX->Ac->AI) (fun _ k=>k .normal) (fun i=>fun id k=>ife (Nat.beq i id) (k .normal) (k (.exit i))) (fun _ k=>k .ret) (fun ch=>fun _ k=>k (.panic ch)) x
def seqX (x:X):(Ac->KX->AI)->KX->Ac->AI:=X.rec (motive:=fun _=>(Ac->KX->AI)->KX->Ac->AI) (fun f k a=>f a k) (fun i=>fun _ k a=>k (.exit i) a) (fun _ k a=>k .ret a) (fun ch=>fun _ k a=>k (.panic ch) a) x
def condX (t f:Ac->KX->AI) (c:Operand) (a:Ac) (k:KX):AI:=bZ c a.e fun v=>asBool v (fun b=>ife b t f) (fun _ _=> .fail) a k
def markA (a:Ac) (k:Nat->Ac->AI):AI:=match a with
 | ⟨e,n,ds,ro⟩=>opt ro (.newO (.dfr true) fun r=>k r ⟨e,n, .col r :: ds,ro⟩) fun l=> .getO l fun o=>match o with
  | .loop _ _ _ _ _ _ _ _ d=>k d ⟨e,n,ds,ro⟩
  | _=> .fail
def jumpX:Option Code->Option X
 | none=>some .normal
 | some .ret=>some .ret
 | some (.exit id)=>some (.exit id)
 | _=>none
def isVal (x:O):AI->(List PE->AI)->AI:=O.rec (motive:=fun _=>AI->(List PE->AI)->AI) (fun _=>fun p _=>p) (fun ch=>fun _ f=>f ch) x
def aFw (l:Nat) (k:X->AI):AI:= .getO l fun o=>match o with
 | .loop st p f e n ps sg bd d=>match st with
  | .busy=> .fail
  | _=> .setO l (.loop .exhausted p f e n ps sg bd d) (oo (jumpX p) k)
 | _=> .fail
def rangeA (f:Operand) (ps:Array Tmp) (sg bd:Code) (P:Program) (ex:Ex) (a:Ac) (k:KX):AI:=bZ f a.e fun fv=>markA a fun d a=>
 .newO (.loop .ready none 0 a.e a.n ps.toList sg bd d) fun l=>asFn fv (fun g first cap=>sV P ex g (ap first (ap [.yld l] cap)) fun o=>isVal o (aFw l fun x=>k x a) (fun ch=>k (.panic ch) a)) fun _=> .fail
def nX (P:Program) (ex:Ex) (c:Code):Ac->KX->AI:=Code.rec (fun a k=>k .normal a) (fun _ ops d a k=>aEZ ops d P ex a k) (fun _ _ ia ib a k=>ia a fun x=>seqX x ib k) (fun c _ _ it if_ a k=>condX it if_ c a k)
 (fun id _ ib a k=>ib a fun x=>blkX x id k) (fun b ib a k=>ib a fun x=>seqX x (ex (.loop b)) k) (fun f ps sg bd _ _ a k=>rangeA f ps sg bd P ex a k) (fun id a k=>k (.exit id) a)
 (fun _ ib a k=>ib a k) (fun _ a k=>k .normal a) (fun _ _ _=> .fail) (fun a k=>k .ret a) (fun _ _ _=> .fail) c
def exec (P:Program) (n:Nat):Ex:=Nat.rec (fun _ _ _=> .fail) (fun _ ex c=>nX P ex c) n
def run0 (P:Program) (n:Nat) (f:Nat):R:=run (sV P (exec P n) f [] .ret) .leaf 0 []
def okB (r:R) (b:Bool):Bool:=match r with
 | some (.val (.bool c),_)=>c==b
 | _=>false
end
noncomputable section
theorem aE2 (d n:Nat):paD (d+1) n=bif Nat.beq n 0 then .h else bif Nat.beq (n % 2) 1 then .l (paD d (n / 2)) else .r (paD d (n / 2 - 1)):=by
 show(Bool.rec (Bool.rec (Pa.r (paD d (n / 2 - 1))) (Pa.l (paD d (n / 2))) (Nat.beq (n % 2) 1)) Pa.h (Nat.beq n 0):Pa)=_
 cases Nat.beq n 0 <;> cases Nat.beq (n % 2) 1 <;> rfl
theorem uG {a b:Nat} (h:a≠b):Nat.beq a b=false:=by
 grind [_root_.Nat.eq_of_beq_eq_true]
theorem zN {a b:Nat} (h:a=b):Nat.beq a b=true:=by subst h;simp
theorem aCc:∀ (d n e m:Nat),n<d->m<e->paD d n=paD e m->n=m
 | 0,_,_,_,h,_,_=>by omega
 | _+1,_,0,_,_,h,_=>by omega
 | d+1,n,e+1,m,hn,hm,h=>by
  rw [aE2,aE2]at h;rcases Nat.eq_zero_or_pos n with h0 | h0 <;> rcases Nat.eq_zero_or_pos m with g0 | g0
  ·omega
  ·subst h0;rw [zN rfl,uG (by omega:m≠0)]at h
   grind
  ·subst g0;rw [zN rfl,uG (by omega:n≠0)]at h
   grind
  ·rw [uG (by omega:n≠0),uG (by omega:m≠0)]at h;simp only [a1C]at h;by_cases h1:n % 2=1 <;> by_cases g1:m % 2=1
   ·rw [zN h1,zN g1]at h;simp only [a1D,Pa.l.injEq]at h;have:=aCc d (n / 2) e (m / 2) (by omega) (by omega) h
    omega
   ·grind [Nat.beq]
   ·grind [Nat.beq]
   ·rw [uG h1,uG g1]at h;simp only [a1C,Pa.r.injEq]at h;have:=aCc d (n / 2 - 1) e (m / 2 - 1) (by omega) (by omega) h
    omega
theorem pa_inj {n m:Nat} (h:pa n=pa m):n=m:=aCc (n+1) n (m+1) m (by omega) (by omega) h
section
variable {α:Type}
theorem gp_l (l r:Tr α) (v:Option α) (p:Pa):gp (.node l v r) (.l p)=gp l p:=rfl
theorem gp_r (l r:Tr α) (v:Option α) (p:Pa):gp (.node l v r) (.r p)=gp r p:=rfl
def put (t:Tr α) (v:Option α) (p:Pa):Tr α:=pp t v p fun t=>t
theorem pN (v:Option α):∀ (p:Pa) {β:Type} (k:Tr α->β),one' v p k=k (one' v p fun t=>t)
 | .h,_,_=>rfl
 | .l p,_,k=>by
  show one' v p _=k (one' v p _)
  rw [pN v p,pN v p (fun t=>Tr.node t none .leaf)]
 | .r p,_,k=>by
  show one' v p _=k (one' v p _)
  rw [pN v p,pN v p (fun t=>Tr.node .leaf none t)]
theorem pp_k (v:Option α):∀ (t:Tr α) (p:Pa) {β:Type} (k:Tr α->β),pp t v p k=k (put t v p)
 | .leaf,p,_,k=>pN v p k
 | .node l x r, .h,_,k=>rfl
 | .node l x r, .l p,_,k=>by
  show pp l v p _=k (pp l v p _)
  rw [pp_k v l p,pp_k v l p (fun l'=>Tr.node l' x r)]
 | .node l x r, .r p,_,k=>by
  show pp r v p _=k (pp r v p _)
  rw [pp_k v r p,pp_k v r p (fun r'=>Tr.node l x r')]
theorem aAL (v:Option α) (p:Pa):put (.leaf:Tr α) v (.l p)= .node (put .leaf v p) none .leaf:=by
 show one' v p _=_;rw [pN];rfl
theorem zP (v:Option α) (p:Pa):put (.leaf:Tr α) v (.r p)= .node .leaf none (put .leaf v p):=by
 show one' v p _=_;rw [pN];rfl
theorem put_l (l r:Tr α) (x v:Option α) (p:Pa):put (.node l x r) v (.l p)= .node (put l v p) x r:=by
 show pp l v p _=_;rw [pp_k]
theorem put_r (l r:Tr α) (x v:Option α) (p:Pa):put (.node l x r) v (.r p)= .node l x (put r v p):=by
 show pp r v p _=_;rw [pp_k]
theorem wB (v:Option α):∀ (t:Tr α) (p:Pa),gp (put t v p) p=v
 | .leaf, .h=>rfl
 | .leaf, .l p=>by rw [aAL,gp_l];exact wB v .leaf p
 | .leaf, .r p=>by rw [zP,gp_r];exact wB v .leaf p
 | .node l x r, .h=>rfl
 | .node l x r, .l p=>by rw [put_l,gp_l];exact wB v l p
 | .node l x r, .r p=>by rw [put_r,gp_r];exact wB v r p
theorem wU (v:Option α):∀ (t:Tr α) (p q:Pa),p≠q->gp (put t v p) q=gp t q
 | .leaf, .h, .h,h=>absurd rfl h
 | .leaf, .h, .l q,_=>rfl
 | .leaf, .h, .r q,_=>rfl
 | .leaf, .l p, .h,_=>by rw [aAL];rfl
 | .leaf, .l p, .l q,h=>by rw [aAL,gp_l,wU v .leaf p q (fun e=>h (e ▸ rfl))];rfl
 | .leaf, .l p, .r q,_=>by rw [aAL];rfl
 | .leaf, .r p, .h,_=>by rw [zP];rfl
 | .leaf, .r p, .l q,_=>by rw [zP];rfl
 | .leaf, .r p, .r q,h=>by rw [zP,gp_r,wU v .leaf p q (fun e=>h (e ▸ rfl))];rfl
 | .node l x r, .h, .h,h=>absurd rfl h
 | .node l x r, .h, .l q,_=>rfl
 | .node l x r, .h, .r q,_=>rfl
 | .node l x r, .l p, .h,_=>by rw [put_l];rfl
 | .node l x r, .l p, .l q,h=>by rw [put_l,gp_l,gp_l,wU v l p q (fun e=>h (e ▸ rfl))]
 | .node l x r, .l p, .r q,_=>by rw [put_l];rfl
 | .node l x r, .r p, .h,_=>by rw [put_r];rfl
 | .node l x r, .r p, .l q,_=>by rw [put_r];rfl
 | .node l x r, .r p, .r q,h=>by rw [put_r,gp_r,gp_r,wU v r p q (fun e=>h (e ▸ rfl))]
def at_ (t:Tr α) (n:Nat):Option α:=gp t (pa n)
def pu (t:Tr α) (n:Nat) (v:Option α):Tr α:=put t v (pa n)
theorem fG (t:Tr α) (n m:Nat) (v:Option α):at_ (pu t n v) m=if m=n then v else at_ t m:=by
 by_cases h:m=n
 ·subst h;rw [a1H rfl];exact wB v t _
 ·rw [a1G h];exact wU v t _ _ fun e=>h (pa_inj e).symm
theorem at_same {t:Tr α} {n:Nat} {v:Option α}:at_ (pu t n v) n=v:=by rw [fG,a1H rfl]
theorem at_ne {t:Tr α} {n m:Nat} {v:Option α} (h:m≠n):at_ (pu t n v) m=at_ t m:=by rw [fG,a1G h]
theorem xE (n:Nat):at_ (.leaf:Tr α) n=none:=rfl
theorem lO {β:Type} (t:Tr α) (v:Option α) (n:Nat) (k:Tr α->β):pp t v (pa n) k=k (pu t n v):=pp_k v t _ k
theorem aBg:∀ (l:List α) (n:Nat) (t:Tr α) (m:Nat),at_ (sO l n t fun t=>t) m=if n<=m/\m<n+l.length then l[m - n]? else at_ t m
 | [],n,t,m=>by rw [a1G (by simp)];rfl
 | x :: l,n,t,m=>by
  show at_ (pp t (some x) (pa n) _) m=_
  rw [lO];show at_ (sO l (n+1) (pu t n (some x)) fun t=>t) m=_
  rw [aBg l (n+1) _ m];by_cases h1:n+1<=m/\m<n+1+l.length
  ·grind
  grind [fG]
end
section
variable {α:Type}
theorem mC:∀ (l:List α) (n:Nat),nth l n=l[n]?
 | [],_=>rfl
 | _ :: _,0=>rfl
 | _ :: l,n+1=>by rw [a0z,<- mC l n];rfl
theorem xW:∀ (n:Nat) (l:List α),dr n l=l.drop n
 | 0,_=>rfl
 | _+1,[]=>rfl
 | n+1,_ :: l=>by rw [List.drop_succ_cons,<- xW n l];rfl
theorem sU:∀ (n:Nat) (l r:List α),tk n l=some r ↔ n<=l.length/\r=l.take n
 | 0,l,r=>by show some []=some r ↔ _;simp [eq_comm]
 | n+1,[],r=>by show none=some r ↔ _;simp
 | n+1,x :: l,r=>by
  show(Option.rec none (fun t=>some (x :: t)) (tk n l):Option (List α))=some r ↔ _
  cases h:tk n l with
  | none=>
   have:¬ n<=l.length:=fun e=>by have:=(sU n l (l.take n)).2 ⟨e,rfl⟩;rw [h]at this;cases this
   simp;omega
  | some t=>
   have:=(sU n l t).1 h;simp only [a1z,a0J,List.take_succ_cons];constructor
   ·rintro rfl;exact⟨by omega,by rw [this.2]⟩
   ·rintro⟨_,rfl⟩;rw [this.2]
theorem jD:∀ (l m:List α),ap l m=l++m
 | [],_=>rfl
 | x :: l,m=>by rw [a0r,<- jD l m];rfl
theorem ln_eq:∀ (l:List α) (n:Nat),ln l n=l.length+n
 | [],n=>by simp;rfl
 | _ :: l,n=>by
  show ln l (n+1)=_
  rw [ln_eq l (n+1),a0J];omega
theorem ln0 (l:List α):ln l 0=l.length:=ln_eq l 0
theorem ov_eq:∀ (new c r:List α),ov new c=some r ↔ new.length<=c.length/\r=new++c.drop new.length
 | [],c,r=>by show some c=some r ↔ _;simp [eq_comm]
 | x :: l,[],r=>by show none=some r ↔ _;simp
 | x :: l,_ :: c,r=>by
  show(Option.rec none (fun t=>some (x :: t)) (ov l c):Option (List α))=some r ↔ _
  cases h:ov l c with
  | none=>
   have:¬ l.length<=c.length:=fun e=>by have:=(ov_eq l c _).2 ⟨e,rfl⟩;rw [h]at this;cases this
   simp only [a0J];constructor
   ·intro e;cases e
   ·rintro⟨e,_⟩;omega
  | some t=>
   have:=(ov_eq l c t).1 h;simp only [a1z,a0J,a0r,List.drop_succ_cons];constructor
   ·rintro rfl;exact⟨by omega,by rw [this.2]⟩
   ·rintro⟨_,rfl⟩;rw [this.2]
theorem sF (new:List α):∀ (off:Nat) (c r:List α),pl new off c=some r ↔ off+new.length<=c.length/\r=c.take off++new++c.drop (off+new.length)
 | 0,c,r=>by
  show ov new c=some r ↔ _
  rw [ov_eq];simp
 | off+1,[],r=>by show none=some r ↔ _;simp
 | off+1,x :: c,r=>by
  show(Option.rec none (fun t=>some (x :: t)) (pl new off c):Option (List α))=some r ↔ _
  cases h:pl new off c with
  | none=>
   have:¬ off+new.length<=c.length:=fun e=>by have:=(sF new off c _).2 ⟨e,rfl⟩;rw [h]at this;cases this
   constructor
   ·intro e;cases e
   ·rintro⟨e,_⟩;simp at e;omega
  | some t=>
   have:=(sF new off c t).1 h;have e:off+1+new.length=(off+new.length)+1:=by omega
   simp only [a1z,a0J,e,List.take_succ_cons,List.drop_succ_cons,a0r];constructor
   ·rintro rfl;exact⟨by omega,by rw [this.2]⟩
   ·rintro⟨_,rfl⟩;rw [this.2]
theorem aCq (l:List α):∀ n,rep l n=(List.replicate n l).flatten
 | 0=>rfl
 | n+1=>by
  show ap l (rep l n)=_
  rw [jD,aCq l n,List.replicate_succ,List.flatten_cons]
theorem vH {β:Type} (n:Nat) (d:β) (f:Nat->β):eA n d f=f n:=rfl
end
end
noncomputable section
inductive CV where
 | val (v:V)
 | mark (n t op:Nat)
 | obj (o:Ob)
def cvB (k:Option Blk) (i:Nat):Option CV:=match k with
 | none=>none
 | some (.cells c t op)=>if i=c.length then some (.mark i t op) else c[i]?.map .val
 | some (.obj o)=>if i=0 then some (.obj o) else none
def cv (h:Tr Blk) (b i:Nat):Option CV:=cvB (at_ h b) i
theorem kQ {k:Option Blk} {i:Nat} {v:V}:cvB k i=some (.val v) ↔ ∃ c t op,k=some (.cells c t op)/\c[i]? =some v:=by
 match k with
 | none=>simp [cvB]
 | some (.obj o)=>grind [cvB]
 | some (.cells c t op)=>
  simp only [cvB,a1z,Blk.cells.injEq]
  grind
theorem yQ {k:Option Blk} {i n t op:Nat}:cvB k i=some (.mark n t op) ↔ ∃ c,k=some (.cells c t op)/\c.length=n/\i=n:=by
 match k with
 | none=>simp [cvB]
 | some (.obj o)=>grind [cvB]
 | some (.cells c t' op')=>
  grind [cvB]
theorem oR {k:Option Blk} {i:Nat} {o:Ob}:cvB k i=some (.obj o) ↔ k=some (.obj o)/\i=0:=by
 match k with
 | none=>simp [cvB]
 | some (.obj o')=>grind [cvB]
 | some (.cells c t' op')=>
  grind [cvB]
theorem aEy {k:Option Blk} (h:∀ i,cvB k i=none):k=none:=by
 match k with
 | none=>rfl
 | some (.obj o)=>simp_all [cvB]
 | some (.cells c t op)=>have:=h c.length;simp [cvB]at this
theorem cvB_ext {k k':Option Blk} (h:∀ i,cvB k i=cvB k' i):k=k':=by
 match k with
 | none=>exact(aEy fun i=>(h i).symm).symm
 | some (.obj o)=>
  have:=(h 0).symm.trans (oR.2 ⟨rfl,rfl⟩)
  grind [oR]
 | some (.cells c t op)=>
  have h1:cvB (some (.cells c t op)) c.length=some (.mark c.length t op):=by grind [yQ]
  obtain⟨c',hk,hl,_⟩:=yQ.1 ((h _).symm.trans h1);subst hk;have:c'=c:=by
   apply a0v
   intro i;by_cases hi:i<c.length
   ·have h2:cvB (some (.cells c t op)) i=some (.val c[i]):=by grind [kQ]
    grind [kQ]
   grind
  rw [this]
def Fp.t:Fp->Nat->Nat->Prop
 | .cell b lo hi _,c,i=>c=b/\lo<=i/\i<hi
 | .fresh n0 n1,c,_=>n0<=c/\c<n1
def Fp.w:Fp->Nat->Nat->Prop
 | .cell b lo hi w,c,i=>w=true/\c=b/\lo<=i/\i<hi
 | .fresh n0 n1,c,_=>n0<=c/\c<n1
def T (l:List Fp) (b i:Nat):Prop:=∃ f∈l,f.t b i
def W (l:List Fp) (b i:Nat):Prop:=∃ f∈l,f.w b i
theorem w_t {f:Fp} {b i:Nat} (h:f.w b i):f.t b i:=by
 cases f with
 | cell=>exact h.2
 | fresh=>exact h
theorem W.t {l:List Fp} {b i:Nat} (h:W l b i):T l b i:=let ⟨f,m,x⟩:=h;⟨f,m,w_t x⟩
theorem T_app {l m:List Fp} {b i:Nat}:T (l++m) b i ↔ T l b i\/T m b i:=by grind [T]
theorem W_app {l m:List Fp} {b i:Nat}:W (l++m) b i ↔ W l b i\/W m b i:=by grind [W]
theorem yH {f:Fp} {b i:Nat}:T [f] b i ↔ f.t b i:=by simp [T]
theorem tO {f:Fp} {b i:Nat}:W [f] b i ↔ f.w b i:=by simp [W]
theorem aF6 {b i:Nat}:¬ W [] b i:=fun ⟨_,h,_⟩=>by cases h
def Agr (l:List Fp) (g h:Tr Blk):Prop:=∀ b i,T l b i->cv g b i=cv h b i
structure Dif (l:List Fp) (g h1 g1:Tr Blk):Prop where
 inn:∀ b i,W l b i->cv g1 b i=cv h1 b i
 out:∀ b i,¬ W l b i->cv g1 b i=cv g b i
abbrev Pr (α:Type):=Tr Blk->Nat->Option (α × Tr Blk × Nat × List Fp)
structure iB {α:Type} (pr:Pr α):Prop where
 mono:∀ {h nx x h1 n1 l},pr h nx=some (x,h1,n1,l)->nx<=n1
 out:∀ {h nx x h1 n1 l},pr h nx=some (x,h1,n1,l)->∀ b i,¬ W l b i->cv h1 b i=cv h b i
 loc:∀ {h nx x h1 n1 l},pr h nx=some (x,h1,n1,l)->∀ g,Agr l g h->∃ g1,pr g nx=some (x,g1,n1,l)/\Dif l g h1 g1
structure Loc (f:St):Prop where
 shape:∀ {h nx lg r},f h nx lg=some r->∃ l,r.2.log=l++lg/\nx<=r.2.nx/\(∀ b i,¬ W l b i->cv r.2.h b i=cv h b i) /\
  ∀ g lg2,Agr l g h->∃ g1,f g nx lg2=some (r.1,⟨g1,r.2.nx,l++lg2⟩)/\Dif l g r.2.h g1
theorem Agr.app1 {l m:List Fp} {g h:Tr Blk} (a:Agr (m++l) g h):Agr l g h:=by grind [T_app,Agr]
theorem Loc.seq {α:Type} {pr:Pr α} {k:α->St} {f:St} (hp:iB pr) (hk:∀ x,Loc (k x))
 (hf:∀ h nx lg,f h nx lg=match pr h nx with
  | none=>none
  | some (x,h1,n1,l)=>k x h1 n1 (l++lg)):Loc f:=⟨fun {h nx lg r} e=>by
 rw [hf]at e
 cases hq:pr h nx with
 | none=>rw [hq]at e;cases e
 | some q=>
  obtain⟨x,h1,n1,l1⟩:=q;rw [hq]at e;obtain⟨l2,e1,e2,e3,e4⟩:=(hk x).shape e;refine⟨l2++l1,by rw [e1];simp,a1m (hp.mono hq) e2,fun b i hw=>?_,fun g lg2 ha=>?_⟩
  ·rw [e3 b i fun w=>hw (W_app.2 (.inl w)),hp.out hq b i fun w=>hw (W_app.2 (.inr w))]
  ·obtain⟨g1,f1,d1⟩:=hp.loc hq g ha.app1;have ha2:Agr l2 g1 h1:=fun b i t=>by
    by_cases hw:W l1 b i
    ·exact d1.inn b i hw
    ·rw [d1.out b i hw,ha b i (T_app.2 (.inl t)),hp.out hq b i hw]
   obtain⟨g2,f2,d2⟩:=e4 g1 (l1++lg2) ha2;refine⟨g2,by grind,fun b i hw=>?_,fun b i hw=>?_⟩
   ·by_cases hw2:W l2 b i
    ·exact d2.inn b i hw2
    ·rw [d2.out b i hw2,e3 b i hw2];exact d1.inn b i (by grind [W])
   ·rw [d2.out b i fun w=>hw (W_app.2 (.inl w)),d1.out b i fun w=>hw (W_app.2 (.inr w))]⟩
theorem uE {h:Tr Blk} {b c i:Nat} {k:Option Blk}:cv (pu h b k) c i=if c=b then cvB k i else cv h c i:=by
 unfold cv;rw [fG];split <;> rfl
def pRd (b off n:Nat):Pr (List V):=fun h nx=>match at_ h b with
 | some (.cells c _ _)=>match tk n (dr off c)with
  | some l=>if 0<n then some (l,h,nx,[.cell b off (off+n) false]) else none
  | none=>none
 | _=>none
theorem tk_dr {n off:Nat} {c l:List V}:tk n (dr off c)=some l ↔ (n=l.length/\(0<n->off+n<=c.length)/\∀ j,j<n->c[off+j]? =l[j]?):=by
 rw [xW,sU]
 constructor
 ·grind
 ·rintro⟨h1,h2,h3⟩
  have hle:n<=(c.drop off).length:=by
   grind
  refine⟨hle,a0v fun j=>?_⟩
  grind
theorem pRd_loc (b off n:Nat):iB (pRd b off n):=by
 have inv:∀ {h nx x h1 n1 l},pRd b off n h nx=some (x,h1,n1,l)->h1=h/\n1=nx/\l=[.cell b off (off+n) false]/\0<n/\n=x.length/\∀ j,j<n->cv h b (off+j)=x[j]?.map .val:=by
  intro h nx x h1 n1 l e;unfold pRd at e;split at e
  ·rename_i c t op hb;split at e
   ·rename_i l' htk;split at e
    ·rename_i hn;cases e;obtain⟨e1,e2,e3⟩:=tk_dr.1 htk;refine⟨rfl,rfl,rfl,hn,e1,fun j hj=>?_⟩
     grind [cv,kQ]
    ·cases e
   ·cases e
  ·cases e
 refine⟨fun e=>?_,fun e b i _=>?_,fun {h nx x h1 n1 l} e g ha=>?_⟩
 ·grind
 ·grind
 ·obtain⟨rfl,rfl,rfl,hn,hx,hv⟩:=inv e;refine⟨g,?_,fun c i hw=>?_,fun _ _ _=>rfl⟩
  ·have hg:∀ j,j<n->cv g b (off+j)=x[j]?.map .val:=fun j hj=>by
    rw [ha b (off+j) (yH.2 ⟨rfl,by omega,by omega⟩)];exact hv j hj
   have h0:=hg 0 hn;rw [a0B (by omega),a1w]at h0;obtain⟨c,t,op,hb,_⟩:=kQ.1 h0;have:tk n (dr off c)=some x:=tk_dr.2 ⟨hx,fun _=>?_,fun j hj=>?_⟩
   ·grind [pRd]
   ·have h1:=hg (n - 1) (by omega)
    grind [kQ,cv]
   grind [cv,kQ]
  ·rw [tO]at hw;cases hw.1
theorem zX {g h:Tr Blk} {b:Nat} {k k':Option Blk} {l:List Fp} (hl:∀ c i,W l c i->c=b) (hi:∀ i,W l b i->cvB k' i=cvB k i) (ho:∀ i,¬ W l b i->cvB k' i=cv g b i):Dif l g (pu h b k) (pu g b k'):=
 ⟨(by grind [uE]),
  (by grind [uE])⟩
theorem yS {g h:Tr Blk} {l:List Fp} (hl:∀ c i,¬ W l c i):Dif l g h g:=⟨(by grind),fun _ _ _=>rfl⟩
def pRd1 (b off:Nat):Pr V:=fun h nx=>match at_ h b with
 | some (.cells c _ _)=>match c[off]? with
  | some v=>some (v,h,nx,[.cell b off (off+1) false])
  | none=>none
 | _=>none
theorem zV {b off:Nat} {h:Tr Blk} {nx:Nat} {q:V × Tr Blk × Nat × List Fp}:pRd1 b off h nx=some q ↔ cv h b off=some (.val q.1)/\q.2=(h,nx,[.cell b off (off+1) false]):=by
 obtain⟨v,q⟩:=q
 unfold pRd1 cv
 grind [kQ]
theorem aBe {b lo hi:Nat}:∀ c i,¬ W [.cell b lo hi false] c i:=by grind [Fp.w,tO]
theorem pRd1_loc (b off:Nat):iB (pRd1 b off):=by
 refine⟨fun e=>?_,fun e b i _=>?_,fun e g ha=>?_⟩
 ·grind [pRd1]
 ·grind [zV]
 ·obtain⟨e1,e2⟩:=zV.1 e;cases e2;exact⟨g,zV.2 ⟨by rw [ha b off (yH.2 ⟨rfl,by omega,by omega⟩)];exact e1,rfl⟩,yS aBe⟩
def pWr (b off:Nat) (l:List V):Pr Unit:=fun h nx=>match at_ h b with
 | some (.cells c t op)=>match pl l off c with
  | some c'=>if 0<l.length then some ((),pu h b (some (.cells c' t op)),nx,[.cell b off (off+l.length) true]) else none
  | none=>none
 | _=>none
theorem over_get {c l:List V} {off i:Nat} (h:off+l.length<=c.length):(c.take off++l++c.drop (off+l.length))[i]? =if off<=i/\i<off+l.length then l[i - off]? else c[i]?:=by
 rw [a0p,List.getElem?_append,a0M,a1o (by omega)]
 grind
theorem over_len {c l:List V} {off:Nat} (h:off+l.length<=c.length):(c.take off++l++c.drop (off+l.length)).length=c.length:=by
 simp;omega
theorem aAC {c l:List V} {off t op i:Nat} (h:off+l.length<=c.length):cvB (some (.cells (c.take off++l++c.drop (off+l.length)) t op)) i =
 if off<=i/\i<off+l.length then l[i - off]?.map .val else cvB (some (.cells c t op)) i:=by
 simp only [cvB,over_len h,over_get h]
 grind
theorem pWr_loc (b off:Nat) (l:List V):iB (pWr b off l):=by
 have inv:∀ {h nx q},pWr b off l h nx=some q ↔ ∃ c t op,at_ h b=some (.cells c t op)/\off+l.length<=c.length/\0<l.length/\q=((),pu h b (some (.cells (c.take off++l++c.drop (off+l.length)) t op)),nx,[.cell b off (off+l.length) true]):=by
  intro h nx q;unfold pWr;constructor
  ·intro e;split at e
   ·rename_i c t op hb;split at e
    ·rename_i c' hpl;split at e
     ·rename_i hn;cases e;obtain⟨h1,rfl⟩:=(sF l off c c').1 hpl;exact⟨c,t,op,hb,h1,hn,rfl⟩
     ·cases e
    ·cases e
   ·cases e
  ·rintro⟨c,t,op,hb,h1,hn,rfl⟩
   rw [hb];simp only [];rw [(sF l off c _).2 ⟨h1,rfl⟩];simp only [hn,if_true]
 have hw:∀ c i,W [.cell b off (off+l.length) true] c i ↔ c=b/\off<=i/\i<off+l.length:=fun c i=>by rw [tO];exact⟨fun h=>h.2,fun h=>⟨rfl,h⟩⟩
 refine⟨fun e=>?_,fun e c i hn=>?_,fun {h nx x h1 n1 m} e g ha=>?_⟩
 ·obtain⟨_,_,_,_,_,_,q⟩:=inv.1 e;cases q;exact a1l _
 ·obtain⟨cs,t,op,hb,hle,_,q⟩:=inv.1 e;cases q;rw [uE];split
  ·rename_i hc;subst hc
   rw [aAC hle,a1G fun hx=>hn ((hw _ _).2 ⟨rfl,hx⟩)];unfold cv;rw [hb]
  ·rfl
 ·obtain⟨cs,t,op,hb,hle,hpos,q⟩:=inv.1 e;cases q;have hcell:∀ j,off<=j->j<off+l.length->∃ c' t' op',at_ g b=some (.cells c' t' op')/\j<c'.length:=fun j h1 h2=>by
   have hx:cv h b j=some (.val (cs[j]'(by omega))):=kQ.2 ⟨cs,t,op,hb,by simp⟩
   obtain⟨c',t',op',e1,e2⟩:=kQ.1 ((ha b j (yH.2 ⟨rfl,h1,h2⟩)).trans hx);exact⟨c',t',op',e1,(a0C.1 e2).1⟩
  obtain⟨c',t',op',hg,_⟩:=hcell off (by omega) (by omega)
  have hle':off+l.length<=c'.length:=by
   obtain⟨c'',_,_,hg',hl⟩:=hcell (off+l.length - 1) (by omega) (by omega)
   rw [hg]at hg';cases hg';omega
  refine⟨_,inv.2 ⟨c',t',op',hg,hle',hpos,rfl⟩,zX (fun c i h=>((hw c i).1 h).1) (fun i h=>?_) fun i h=>?_⟩
  ·have:=((hw _ _).1 h).2;rw [aAC hle',aAC hle,a1H this,a1H this]
  ·rw [aAC hle',a1G fun hx=>h ((hw _ _).2 ⟨rfl,hx⟩)];unfold cv;rw [hg]
def pSz (b:Nat):Pr (Nat × Nat × Nat):=fun h nx=>match at_ h b with
 | some (.cells c t op)=>some ((c.length,t,op),h,nx,[.cell b c.length (c.length+1) false])
 | _=>none
theorem pSz_loc (b:Nat):iB (pSz b):=by
 have inv:∀ {h nx q},pSz b h nx=some q ↔ ∃ n t op,cv h b n=some (.mark n t op)/\q=((n,t,op),h,nx,[.cell b n (n+1) false]):=by
  intro h nx q;unfold pSz cv
  grind [yQ]
 refine⟨fun e=>?_,fun e b i _=>?_,fun e g ha=>?_⟩
 ·grind
 ·grind
 ·obtain⟨n,t,op,h1,q⟩:=inv.1 e;cases q;exact⟨g,inv.2 ⟨n,t,op,by rw [ha b n (yH.2 ⟨rfl,by omega,by omega⟩)];exact h1,rfl⟩,yS aBe⟩
def iS (x:Blk):Pr Nat:=fun h nx=>match at_ h nx with
 | none=>some (nx,pu h nx (some x),nx+1,[.fresh nx (nx+1)])
 | some _=>none
theorem aCK (x:Blk):iB (iS x):=by
 have inv:∀ {h nx q},iS x h nx=some q ↔ at_ h nx=none/\q=(nx,pu h nx (some x),nx+1,[.fresh nx (nx+1)]):=by
  grind [iS]
 have hw:∀ {nx c i},W [.fresh nx (nx+1)] c i ↔ c=nx:=by grind [Fp.w,tO]
 refine⟨fun e=>?_,fun e c i hn=>?_,fun {h nx y h1 n1 m} e g ha=>?_⟩
 ·grind
 ·grind [uE]
 ·obtain⟨h0,q⟩:=inv.1 e;cases q;have:at_ g nx=none:=aEy fun i=>by
   have:=ha nx i (W.t (hw.2 rfl));unfold cv at this;rw [this,h0];rfl
  simp_all [zX]
def pDel (b:Nat):Pr Unit:=fun h nx=>match at_ h b with
 | some (.cells c _ _)=>some ((),pu h b none,nx,[.cell b 0 (c.length+1) true])
 | _=>none
theorem aFX {c:List V} {t op i:Nat} (h:c.length<i):cvB (some (.cells c t op)) i=none:=by
 grind [cvB]
theorem pDel_loc (b:Nat):iB (pDel b):=by
 have inv:∀ {h nx q},pDel b h nx=some q ↔ ∃ c t op,at_ h b=some (.cells c t op)/\q=((),pu h b none,nx,[.cell b 0 (c.length+1) true]):=by
  grind [pDel]
 have hw:∀ {n c i},W [.cell b 0 (n+1) true] c i ↔ c=b/\i<=n:=by grind [Fp.w,tO]
 refine⟨fun e=>?_,fun e c i hn=>?_,fun {h nx y h1 n1 m} e g ha=>?_⟩
 ·grind
 ·obtain⟨cs,t,op,hb,q⟩:=inv.1 e;cases q;rw [uE];split
  ·rename_i hc;subst hc
   have:cs.length<i:=by
    grind
   unfold cv;rw [hb,aFX this];rfl
  ·rfl
 ·obtain⟨cs,t,op,hb,q⟩:=inv.1 e;cases q;have h1:cv h b cs.length=some (.mark cs.length t op):=yQ.2 ⟨cs,hb,rfl,rfl⟩;obtain⟨c',hg,hl,_⟩:=yQ.1 ((ha b _ (by grind [W.t])).trans h1)
  refine⟨_,(by grind),zX (fun c i h=>(hw.1 h).1) (fun _ _=>rfl) fun i h=>?_⟩
  have:c'.length<i:=by
   grind
  unfold cv;rw [hg,aFX this];rfl
def mQ (b:Nat):Pr Ob:=fun h nx=>match at_ h b with
 | some (.obj o)=>some (o,h,nx,[.cell b 0 1 false])
 | _=>none
theorem aHY (b:Nat):iB (mQ b):=by
 have inv:∀ {h nx q},mQ b h nx=some q ↔ cv h b 0=some (.obj q.1)/\q.2=(h,nx,[.cell b 0 1 false]):=by
  intro h nx q;obtain⟨o,q⟩:=q;unfold mQ cv
  grind [oR]
 refine⟨fun e=>?_,fun e b i _=>?_,fun e g ha=>?_⟩
 ·grind
 ·grind
 ·obtain⟨e1,e2⟩:=inv.1 e;cases e2;exact⟨g,inv.2 ⟨by rw [ha b 0 (yH.2 ⟨rfl,by omega,by omega⟩)];exact e1,rfl⟩,yS aBe⟩
def oG (b:Nat) (o:Ob):Pr Unit:=fun h nx=>match at_ h b with
 | some (.obj _)=>some ((),pu h b (some (.obj o)),nx,[.cell b 0 1 true])
 | _=>none
theorem aGT (b:Nat) (o:Ob):iB (oG b o):=by
 have inv:∀ {h nx q},oG b o h nx=some q ↔ (∃ o',cv h b 0=some (.obj o'))/\q=((),pu h b (some (.obj o)),nx,[.cell b 0 1 true]):=by
  intro h nx q;unfold oG cv;constructor
  ·intro e;split at e
   ·simp_all [oR]
   ·cases e
  grind [oR]
 have hw:∀ {c i},W [.cell b 0 1 true] c i ↔ c=b/\i=0:=by grind [Fp.w,tO]
 have far:∀ (o:Ob) i,i≠0->cvB (some (.obj o)) i=none:=fun o i h=>by simp [cvB,h]
 refine⟨fun e=>?_,fun e c i hn=>?_,fun {h nx y h1 n1 m} e g ha=>?_⟩
 ·grind
 ·obtain⟨⟨o',h0⟩,q⟩:=inv.1 e;cases q;rw [uE];split
  ·rename_i hc;subst hc
   have:i≠0:=by grind
   grind [cv,oR]
  ·rfl
 ·obtain⟨⟨o',h0⟩,q⟩:=inv.1 e;cases q;have hg:=(ha b 0 (W.t (hw.2 ⟨rfl,rfl⟩))).trans h0;refine⟨_,inv.2 ⟨⟨o',hg⟩,rfl⟩,zX (fun c i h=>(hw.1 h).1) (fun _ _=>rfl) fun i h=>?_⟩
  have:i≠0:=by grind
  grind [cv,oR]
theorem aCk {n0 n1:Nat} {f:Fp}:∀ {l:List Fp},f∈l->f∈dP n0 n1 l\/∀ b i,f.t b i->n0<=b/\b<n1
 | [],h=>by cases h
 | g :: l,h=>by
  have key:(dP n0 n1 (g :: l)=g :: dP n0 n1 l)\/(dP n0 n1 (g :: l)=dP n0 n1 l/\∀ b i,g.t b i->n0<=b/\b<n1):=by
   cases g with
   | cell b lo hi w=>
    have e:dP n0 n1 (.cell b lo hi w :: l)=bif Nat.blt b n0 then .cell b lo hi w :: dP n0 n1 l else bif Nat.blt b n1 then dP n0 n1 l else .cell b lo hi w :: dP n0 n1 l:=by
     show(Bool.rec (Bool.rec (Fp.cell b lo hi w :: dP n0 n1 l) (dP n0 n1 l) (Nat.blt b n1)) (Fp.cell b lo hi w :: dP n0 n1 l) (Nat.blt b n0):List Fp)=_
     cases Nat.blt b n0 <;> cases Nat.blt b n1 <;> rfl
    rw [e];cases h1:Nat.blt b n0 with
    | true=>exact .inl rfl
    | false=>
     cases h2:Nat.blt b n1 with
     | false=>exact .inl rfl
     | true=>
      refine .inr ⟨rfl,fun c i hc=>?_⟩
      obtain⟨rfl,_⟩:=hc;have h3:¬ c<n0:=fun hlt=>by rw [(a1i ▸ hlt:Nat.blt c n0=true)]at h1;cases h1
      exact⟨by omega,by rw [a1i]at h2;exact h2⟩
   | fresh m0 m1=>
    have e:dP n0 n1 (.fresh m0 m1 :: l)=bif Nat.ble n0 m0 then(bif Nat.ble m1 n1 then dP n0 n1 l else .fresh m0 m1 :: dP n0 n1 l) else .fresh m0 m1 :: dP n0 n1 l:=by
     show(Bool.rec (Fp.fresh m0 m1 :: dP n0 n1 l) (Bool.rec (Fp.fresh m0 m1 :: dP n0 n1 l) (dP n0 n1 l) (Nat.ble m1 n1)) (Nat.ble n0 m0):List Fp)=_
     cases Nat.ble n0 m0 <;> cases Nat.ble m1 n1 <;> rfl
    rw [e];cases h1:Nat.ble n0 m0 with
    | false=>exact .inl rfl
    | true=>
     cases h2:Nat.ble m1 n1 with
     | false=>exact .inl rfl
     | true=>
      refine .inr ⟨rfl,fun c i hc=>?_⟩
      have:=a1k h1;have:=a1k h2;have:m0<=c/\c<m1:=hc;omega
  rcases a0S.1 h with rfl | h
  ·rcases key with k | k
   ·exact .inl (by rw [k];exact .head _)
   ·exact .inr k.2
  ·rcases aCk h with o | o
   ·rcases key with k | k
    ·exact .inl (by rw [k];exact .tail _ o)
    ·exact .inl (by rw [k.1];exact o)
   ·exact .inr o
def kF (p:St):Pr (V × List Fp):=fun h nx=>match p h nx []with
 | some (.val v,s)=>some ((v, .fresh nx s.nx :: dP nx s.nx s.log),s.h,s.nx, .fresh nx s.nx :: dP nx s.nx s.log)
 | _=>none
theorem aDg {p:St} (hp:Loc p):iB (kF p):=by
 have inv:∀ {h nx q},kF p h nx=some q ↔ ∃ v s,p h nx []=some (.val v,s)/\q=((v, .fresh nx s.nx :: dP nx s.nx s.log),s.h,s.nx, .fresh nx s.nx :: dP nx s.nx s.log):=by
  grind [kF]
 have sub:∀ {n0 n1 l b i},T l b i->T (.fresh n0 n1 :: dP n0 n1 l) b i:=fun {n0 n1 l b i} ⟨f,hf,ht⟩=>by
  rcases aCk hf with h | h
  ·exact⟨f, .tail _ h,ht⟩
  ·exact⟨_, .head _,h b i ht⟩
 have subw:∀ {n0 n1 l b i},W l b i->W (.fresh n0 n1 :: dP n0 n1 l) b i:=fun {n0 n1 l b i} ⟨f,hf,ht⟩=>by
  rcases aCk hf with h | h
  ·exact⟨f, .tail _ h,ht⟩
  ·exact⟨_, .head _,h b i (w_t ht)⟩
 refine⟨fun e=>?_,fun e b i hn=>?_,fun {h nx y h1 n1 m} e g ha=>?_⟩
 ·obtain⟨v,s,h1,q⟩:=inv.1 e;cases q;obtain⟨l,_,h2,_⟩:=hp.shape h1;exact h2
 ·obtain⟨v,s,h1,q⟩:=inv.1 e;cases q;obtain⟨l,h0,_,h3,_⟩:=hp.shape h1
  grind
 ·obtain⟨v,s,h1,q⟩:=inv.1 e;cases q;obtain⟨l,h0,_,h3,h4⟩:=hp.shape h1;simp only [a0q]at h0;subst h0;obtain⟨g1,f1,d1⟩:=h4 g [] fun b i t=>ha b i (sub t)
  simp only [a0q]at f1;refine⟨g1,inv.2 ⟨v,_,f1,rfl⟩,fun b i hw=>?_,(by grind [Dif.out])⟩
  by_cases hw':W s.log b i
  ·exact d1.inn b i hw'
  ·rw [d1.out b i hw',ha b i hw.t,h3 b i hw']
theorem ifN_eq {β:Type} (a b:Nat) (d p:β):ifN (Nat.blt a b) d p=if a<b then p else d:=by
 cases h:Nat.blt a b with
 | true=>rw [a1i]at h;rw [a1H h];rfl
 | false=>rw [a1G fun e=>by rw [(a1i ▸ e:Nat.blt a b=true)]at h;cases h];rfl
section
variable {α:Type} (h:Tr Blk) (nx:Nat) (lg:List Fp)
def thn (pr:Pr α) (ih:α->St):St:=fun h nx lg=>match pr h nx with
 | none=>none
 | some (x,h1,n1,l)=>ih x h1 n1 (l++lg)
theorem rRd_eq (b off n:Nat) (ih:List V->St):rRd b off n ih h nx lg=thn (pRd b off n) ih h nx lg:=by
 unfold rRd thn pRd at_
 cases gp h (pa b)with
 | none=>rfl
 | some x=>cases x with
  | obj o=>rfl
  | cells c t op=>
   show opt (tk n (dr off c)) none _=_
   simp only [];cases tk n (dr off c)with
   | none=>rfl
   | some l=>
    show ifN (Nat.blt 0 n) none _=_
    grind [ifN_eq]
theorem rRd1_eq (b off:Nat) (ih:V->St):rRd1 b off ih h nx lg=thn (pRd1 b off) ih h nx lg:=by
 unfold rRd1 thn pRd1 at_
 cases gp h (pa b)with
 | none=>rfl
 | some x=>cases x with
  | obj o=>rfl
  | cells c t op=>
   show opt (nth c off) none _=_
   rw [mC];simp only [];cases c[off]? <;> rfl
theorem rWr_eq (b off:Nat) (l:List V) (ih:St):rWr b off l ih h nx lg=thn (pWr b off l) (fun _=>ih) h nx lg:=by
 unfold rWr thn pWr at_
 cases gp h (pa b)with
 | none=>rfl
 | some x=>cases x with
  | obj o=>rfl
  | cells c t op=>
   show opt (pl l off c) none _=_
   simp only [];cases pl l off c with
   | none=>rfl
   | some c'=>
    show pp h _ (pa b) _=_
    rw [lO,ifN_eq,ln0]
    grind
theorem rSz_eq (b:Nat) (ih:Nat->Nat->Nat->St):rSz b ih h nx lg=thn (pSz b) (fun x=>ih x.1 x.2.1 x.2.2) h nx lg:=by
 unfold rSz thn pSz at_
 cases gp h (pa b)with
 | none=>rfl
 | some x=>cases x with
  | obj o=>rfl
  | cells c t op=>
   show eA (ln c 0) none (fun n=>ih n t op h nx (.cell b n (Nat.succ n) false :: lg))=_
   rw [vH,ln0];rfl
theorem aDt (x:Blk) (ih:Nat->St):rNew x ih h nx lg=thn (iS x) ih h nx lg:=by
 unfold rNew thn iS
 rw [vH]
 show opt (at_ h nx) _ _=_
 cases at_ h nx with
 | none=>
  show pp h _ (pa nx) _=_
  rw [lO];rfl
 | some x=>rfl
theorem rDel_eq (b:Nat) (ih:St):rDel b ih h nx lg=thn (pDel b) (fun _=>ih) h nx lg:=by
 unfold rDel thn pDel at_
 cases gp h (pa b)with
 | none=>rfl
 | some x=>cases x with
  | obj o=>rfl
  | cells c t op=>
   show pp h none (pa b) _=_
   rw [lO,ln0];rfl
theorem rGetO_eq (b:Nat) (ih:Ob->St):rGetO b ih h nx lg=thn (mQ b) ih h nx lg:=by
 unfold rGetO thn mQ at_
 cases gp h (pa b)with
 | none=>rfl
 | some x=>cases x with
  | obj o=>rfl
  | cells c t op=>rfl
theorem rSetO_eq (b:Nat) (o:Ob) (ih:St):rSetO b o ih h nx lg=thn (oG b o) (fun _=>ih) h nx lg:=by
 unfold rSetO thn oG at_
 cases gp h (pa b)with
 | none=>rfl
 | some x=>cases x with
  | obj o'=>
   show pp h _ (pa b) _=_
   rw [lO];rfl
  | cells c t op=>rfl
theorem rSub_eq (p:St) (ih:V->List Fp->St):rSub p ih h nx lg=thn (kF p) (fun x=>ih x.1 x.2) h nx lg:=by
 unfold rSub rSub1 thn kF
 grind [jD]
end
theorem zO (b off n:Nat) (k:List V->AI):run (.rd b off n k)=thn (pRd b off n) fun x=>run (k x):=funext fun h=>funext fun nx=>funext fun lg=>rRd_eq h nx lg b off n fun x=>run (k x)
theorem aEn (b off:Nat) (k:V->AI):run (.rd1 b off k)=thn (pRd1 b off) fun x=>run (k x):=funext fun h=>funext fun nx=>funext fun lg=>rRd1_eq h nx lg b off fun x=>run (k x)
theorem yL (b off:Nat) (l:List V) (k:AI):run (.wr b off l k)=thn (pWr b off l) fun _=>run k:=funext fun h=>funext fun nx=>funext fun lg=>rWr_eq h nx lg b off l (run k)
theorem yW (b:Nat) (k:Nat->Nat->Nat->AI):run (.sz b k)=thn (pSz b) fun x=>run (k x.1 x.2.1 x.2.2):=funext fun h=>funext fun nx=>funext fun lg=>rSz_eq h nx lg b fun x y z=>run (k x y z)
theorem aAs (c:List V) (t op:Nat) (k:Nat->AI):run (.new c t op k)=thn (iS (.cells c t op)) fun x=>run (k x):=funext fun h=>funext fun nx=>funext fun lg=>aDt h nx lg _ fun x=>run (k x)
theorem aBN (b:Nat) (k:AI):run (.del b k)=thn (pDel b) fun _=>run k:=funext fun h=>funext fun nx=>funext fun lg=>rDel_eq h nx lg b (run k)
theorem aAQ (o:Ob) (k:Nat->AI):run (.newO o k)=thn (iS (.obj o)) fun x=>run (k x):=funext fun h=>funext fun nx=>funext fun lg=>aDt h nx lg _ fun x=>run (k x)
theorem kP (b:Nat) (k:Ob->AI):run (.getO b k)=thn (mQ b) fun x=>run (k x):=funext fun h=>funext fun nx=>funext fun lg=>rGetO_eq h nx lg b fun x=>run (k x)
theorem sL (b:Nat) (o:Ob) (k:AI):run (.setO b o k)=thn (oG b o) fun _=>run k:=funext fun h=>funext fun nx=>funext fun lg=>rSetO_eq h nx lg b o (run k)
theorem aDf (p:AI) (k:V->List Fp->AI):run (.sub p k)=thn (kF (run p)) fun x=>run (k x.1 x.2):=funext fun h=>funext fun nx=>funext fun lg=>rSub_eq h nx lg (run p) fun x y=>run (k x y)
theorem gM:∀ p:AI,Loc (run p)
 | .ret o=>⟨fun {h nx lg r} e=>by cases e;exact⟨[],rfl,a1l _,fun _ _ _=>rfl,fun g lg2 _=>⟨g,rfl,yS fun _ _=>aF6⟩⟩⟩
 | .fail=>⟨fun e=>by cases e⟩
 | .rd b off n k=>Loc.seq (pRd_loc b off n) (fun x=>gM (k x)) fun h nx lg=>by rw [zO];rfl
 | .rd1 b off k=>Loc.seq (pRd1_loc b off) (fun x=>gM (k x)) fun h nx lg=>by rw [aEn];rfl
 | .wr b off l k=>Loc.seq (pWr_loc b off l) (fun _=>gM k) fun h nx lg=>by rw [yL];rfl
 | .sz b k=>Loc.seq (pSz_loc b) (fun x=>gM (k x.1 x.2.1 x.2.2)) fun h nx lg=>by rw [yW];rfl
 | .new c t op k=>Loc.seq (aCK (.cells c t op)) (fun x=>gM (k x)) fun h nx lg=>by rw [aAs];rfl
 | .del b k=>Loc.seq (pDel_loc b) (fun _=>gM k) fun h nx lg=>by rw [aBN];rfl
 | .newO o k=>Loc.seq (aCK (.obj o)) (fun x=>gM (k x)) fun h nx lg=>by rw [aAQ];rfl
 | .getO b k=>Loc.seq (aHY b) (fun x=>gM (k x)) fun h nx lg=>by rw [kP];rfl
 | .setO b o k=>Loc.seq (aGT b o) (fun _=>gM k) fun h nx lg=>by rw [sL];rfl
 | .sub p k=>Loc.seq (aDg (gM p)) (fun x=>gM (k x.1 x.2)) fun h nx lg=>by rw [aDf];rfl
end
noncomputable section
abbrev Rho:=Nat->Option (Nat × Nat)
def Rho.le (ρ ρ':Rho):Prop:=∀ b x,ρ b=some x->ρ' b=some x
theorem Rho.le_refl (ρ:Rho):ρ.le ρ:=fun _ _ h=>h
theorem Rho.le_trans {a b c:Rho} (h:a.le b) (k:b.le c):a.le c:=fun x y e=>k x y (h x y e)
mutual
def tv (ρ:Rho):V->Option Value
 | .int k n=>some (.int k n)
 | .bool b=>some (.bool b)
 | .str s=>some (.string s)
 | .ptr b off=>(ρ b).map fun x=> .pointer (some ⟨x.1,off,none⟩)
 | .nilp=>some (.pointer none)
 | .sl b off len cap=>(ρ b).map fun x=> .slice (some ⟨x.1,off,none⟩) len cap
 | .so b off len es=>(ρ b).map fun x=> .slice (some ⟨x.1,off,none⟩) len (x.2 - off / es)
 | .nils=>some (.slice none 0 0)
 | .map b=>(ρ b).map fun x=> .map (some x.1)
 | .nilm=>some (.map none)
 | .fn f a c=>match tvs ρ a with
  | some x=>match tvs ρ c with
   | some y=>some (.func (.func f) ⟨x⟩ ⟨y⟩)
   | none=>none
  | none=>none
 | .yld l=>(ρ l).map fun x=> .func (.yield x.1) #[] #[]
 | .nilf=>some .nilFunc
 | .iface t v=>match tv ρ v with
  | some x=>some (.iface t x)
  | none=>none
 | .nili=>some .nilIface
 | .agg cs=>match iA cs with
  | true=>match tvs ρ cs with
   | some l=>some (.agg ⟨l⟩)
   | none=>none
  | false=>none
 | .tup vs=>match tvs ρ vs with
  | some l=>some (.tuple ⟨l⟩)
  | none=>none
def tvs (ρ:Rho):List V->Option (List Value)
 | []=>some []
 | v :: l=>match tv ρ v with
  | some x=>match tvs ρ l with
   | some r=>some (x :: r)
   | none=>none
  | none=>none
end
theorem vK {α:Type} {ρ ρ':Rho} (h:ρ.le ρ') {b:Nat} {f:Nat × Nat->α} {y:α} (e:(ρ b).map f=some y):(ρ' b).map f=some y:=by
 cases hb:ρ b with
 | none=>rw [hb]at e;cases e
 | some x=>rw [h b x hb];rw [hb]at e;exact e
mutual
theorem lP {ρ ρ':Rho} (h:ρ.le ρ'):∀ (v:V) {x:Value},tv ρ v=some x->tv ρ' v=some x
 | .int _ _,_,e=>e
 | .bool _,_,e=>e
 | .str _,_,e=>e
 | .ptr _ _,_,e=>vK h e
 | .nilp,_,e=>e
 | .sl _ _ _ _,_,e=>vK h e
 | .so _ _ _ _,_,e=>vK h e
 | .nils,_,e=>e
 | .map _,_,e=>vK h e
 | .nilm,_,e=>e
 | .fn f a c,x,e=>by
  simp only [tv]at e ⊢;cases ha:tvs ρ a with
  | none=>rw [ha]at e;cases e
  | some y=>
   rw [ha]at e;cases hc:tvs ρ c with
   | none=>rw [hc]at e;cases e
   | some z=>rw [hc]at e;rw [qE h a ha,qE h c hc];exact e
 | .yld _,_,e=>vK h e
 | .nilf,_,e=>e
 | .iface t v,x,e=>by
  simp only [tv]at e ⊢;cases ha:tv ρ v with
  | none=>rw [ha]at e;cases e
  | some y=>rw [ha]at e;rw [lP h v ha];exact e
 | .nili,_,e=>e
 | .agg cs,x,e=>by
  simp only [tv]at e ⊢;cases hc:iA cs with
  | false=>rw [hc]at e;cases e
  | true=>
   rw [hc]at e;simp only at e ⊢
   cases ha:tvs ρ cs with
   | none=>rw [ha]at e;cases e
   | some y=>rw [ha]at e;rw [qE h cs ha];exact e
 | .tup cs,x,e=>by
  simp only [tv]at e ⊢;cases ha:tvs ρ cs with
  | none=>rw [ha]at e;cases e
  | some y=>rw [ha]at e;rw [qE h cs ha];exact e
theorem qE {ρ ρ':Rho} (h:ρ.le ρ'):∀ (l:List V) {x:List Value},tvs ρ l=some x->tvs ρ' l=some x
 | [],_,e=>e
 | v :: l,x,e=>by
  simp only [tvs]at e ⊢;cases ha:tv ρ v with
  | none=>rw [ha]at e;cases e
  | some y=>
   rw [ha]at e;cases hc:tvs ρ l with
   | none=>rw [hc]at e;cases e
   | some z=>rw [hc]at e;rw [lP h v ha,qE h l hc];exact e
end
theorem dR {ρ:Rho} {v:V} {l:List V} {r:List Value}:tvs ρ (v :: l)=some r ↔ ∃ x y,tv ρ v=some x/\tvs ρ l=some y/\r=x :: y:=by
 simp only [tvs]
 cases tv ρ v with
 | none=>simp
 | some x=>cases tvs ρ l with
  | none=>simp
  | some y=>simp [eq_comm]
theorem lC {ρ:Rho} {r:List Value}:tvs ρ []=some r ↔ r=[]:=by simp [tvs,eq_comm]
theorem lS {ρ:Rho}:∀ {l m:List V} {r:List Value},tvs ρ (l++m)=some r ↔ ∃ x y,tvs ρ l=some x/\tvs ρ m=some y/\r=x++y
 | [],m,r=>by
  constructor
  ·intro h;exact⟨[],r,rfl,h,rfl⟩
  ·rintro⟨x,y,h1,h2,rfl⟩;rw [lC]at h1;subst h1;exact h2
 | v :: l,m,r=>by
  rw [a0r,dR];constructor
  ·rintro⟨x,y,h1,h2,rfl⟩
   obtain⟨a,b,h3,h4,rfl⟩:=lS.1 h2;exact⟨x :: a,b,dR.2 ⟨x,a,h1,h3,rfl⟩,h4,rfl⟩
  ·rintro⟨a,b,h1,h2,rfl⟩
   obtain⟨x,y,h3,h4,rfl⟩:=dR.1 h1;exact⟨x,y++b,h3,lS.2 ⟨y,b,h4,h2,rfl⟩,rfl⟩
theorem sX {ρ:Rho}:∀ {l:List V} {r:List Value},tvs ρ l=some r->r.length=l.length
 | [],r,h=>by rw [lC]at h;subst h;rfl
 | v :: l,r,h=>by
  obtain⟨x,y,_,h2,rfl⟩:=dR.1 h;simp [sX h2]
theorem aAH {ρ:Rho}:∀ {l:List V} {r:List Value} {i:Nat} {v:V},tvs ρ l=some r->l[i]? =some v->∃ x,r[i]? =some x/\tv ρ v=some x
 | [],_,_,_,_,h=>by simp at h
 | u :: l,r,0,v,h,e=>by
  obtain⟨x,y,h1,h2,rfl⟩:=dR.1 h;simp only [a0A,a1z]at e ⊢;subst e;exact⟨x,rfl,h1⟩
 | u :: l,r,i+1,v,h,e=>by
  obtain⟨x,y,h1,h2,rfl⟩:=dR.1 h;simp only [a0z]at e ⊢;exact aAH h2 e
theorem aEp {ρ:Rho} {l:List V} {r:List Value} (n:Nat) (h:tvs ρ l=some r):tvs ρ (l.take n)=some (r.take n)/\tvs ρ (l.drop n)=some (r.drop n):=by
 have h':=h
 rw [<- a1f n l,lS]at h'
 obtain⟨x,y,h1,h2,rfl⟩:=h'
 have hx:=sX h1
 have hy:=sX h2
 simp only [a0M,List.length_drop]at hx hy
 by_cases hn:n<=l.length
 ·have:x.length=n:=by omega
  rw [h1,h2,List.take_left' this,List.drop_left' this];exact⟨rfl,rfl⟩
 ·have hy0:y=[]:=a0u (by omega)
  subst hy0;rw [h1,h2,a0q,List.take_of_length_le (by omega),List.drop_of_length_le (by omega)];exact⟨rfl,rfl⟩
def cO:Value->Prop
 | .agg _ | .tuple _=>False
 | _=>True
theorem oQ {v:V} {l:List V}:iA (v :: l)=true ↔ isC v=true/\iA l=true:=by
 simp only [iA];cases isC v <;> simp
theorem mI:∀ {l:List V},iA l=true ↔ ∀ v∈l,isC v=true
 | []=>by simp [iA]
 | v :: l=>by rw [oQ,mI (l:=l)];simp
theorem aBl {ρ:Rho}:∀ {v:V} {x:Value},isC v=true->tv ρ v=some x->cO x
 | .int _ _,_,_,e=>by cases e;trivial
 | .bool _,_,_,e=>by cases e;trivial
 | .str _,_,_,e=>by cases e;trivial
 | .ptr _ _,_,_,e=>by simp only [tv,a1v]at e;obtain⟨y,_,rfl⟩:=e;trivial
 | .nilp,_,_,e=>by cases e;trivial
 | .sl _ _ _ _,_,_,e=>by simp only [tv,a1v]at e;obtain⟨y,_,rfl⟩:=e;trivial
 | .so _ _ _ _,_,_,e=>by simp only [tv,a1v]at e;obtain⟨y,_,rfl⟩:=e;trivial
 | .nils,_,_,e=>by cases e;trivial
 | .map _,_,_,e=>by simp only [tv,a1v]at e;obtain⟨y,_,rfl⟩:=e;trivial
 | .nilm,_,_,e=>by cases e;trivial
 | .fn _ a c,x,_,e=>by
  simp only [tv]at e;cases ha:tvs ρ a with
  | none=>rw [ha]at e;cases e
  | some y=>rw [ha]at e;cases hc:tvs ρ c with
   | none=>rw [hc]at e;cases e
   | some z=>rw [hc]at e;cases e;trivial
 | .yld _,_,_,e=>by simp only [tv,a1v]at e;obtain⟨y,_,rfl⟩:=e;trivial
 | .nilf,_,_,e=>by cases e;trivial
 | .iface _ v,x,_,e=>by
  simp only [tv]at e;cases ha:tv ρ v with
  | none=>rw [ha]at e;cases e
  | some y=>rw [ha]at e;cases e;trivial
 | .nili,_,_,e=>by cases e;trivial
 | .agg _,_,h,_=>by cases h
 | .tup _,_,h,_=>by cases h
def cells (ρ:Rho) (l:List V) (r:List Value):Prop:=iA l=true/\tvs ρ l=some r
theorem cells.is {ρ:Rho}:∀ {l:List V} {r:List Value},cells ρ l r->∀ x∈r,cO x
 | [],r,h,x,hx=>by rw [lC.1 h.2]at hx;cases hx
 | v :: l,r,h,x,hx=>by
  obtain⟨y,z,h1,h2,rfl⟩:=dR.1 h.2;obtain⟨h3,h4⟩:=oQ.1 h.1;rcases a0S.1 hx with rfl | hx
  ·exact aBl h3 h1
  ·exact cells.is ⟨h4,h2⟩ x hx
theorem cells.mono {ρ ρ':Rho} (h:ρ.le ρ') {l:List V} {r:List Value} (c:cells ρ l r):cells ρ' l r:=⟨c.1,qE h l c.2⟩
theorem cells.app {ρ:Rho} {l m:List V} {r s:List Value} (c:cells ρ l r) (d:cells ρ m s):cells ρ (l++m) (r++s):=
 ⟨mI.2 fun v hv=>by
  rcases a0P.1 hv with h | h
  ·exact mI.1 c.1 v h
  ·exact mI.1 d.1 v h,lS.2 ⟨r,s,c.2,d.2,rfl⟩⟩
theorem cells.take {ρ:Rho} {l:List V} {r:List Value} (c:cells ρ l r) (n:Nat):cells ρ (l.take n) (r.take n):=⟨mI.2 fun v hv=>mI.1 c.1 v (List.mem_of_mem_take hv),(aEp n c.2).1⟩
theorem cells.drop {ρ:Rho} {l:List V} {r:List Value} (c:cells ρ l r) (n:Nat):cells ρ (l.drop n) (r.drop n):=⟨mI.2 fun v hv=>mI.1 c.1 v (List.mem_of_mem_drop hv),(aEp n c.2).2⟩
theorem cells.len {ρ:Rho} {l:List V} {r:List Value} (c:cells ρ l r):r.length=l.length:=sX c.2
theorem cells.nil {ρ:Rho}:cells ρ [] []:=⟨rfl,rfl⟩
theorem cells.get {ρ:Rho} {l:List V} {r:List Value} (c:cells ρ l r) {i:Nat} {v:V} (h:l[i]? =some v):∃ x,r[i]? =some x/\tv ρ v=some x/\isC v=true:=
 let ⟨x,h1,h2⟩:=aAH c.2 h
 ⟨x,h1,h2,mI.1 c.1 v (a0X h)⟩
theorem cO.cells {v:Value} (h:cO v):v.cells=#[v]:=by cases v <;> first | rfl | exact h.elim
theorem gU {ρ:Rho} {v:V} {x:Value} (hc:isC v=true) (e:tv ρ v=some x):vc v=some [v]/\BX.cells ρ [v] x.cells.toList:=
 ⟨(by cases v <;> first | rfl | cases hc),oQ.2 ⟨hc,rfl⟩,dR.2 ⟨x,[],e,rfl,by rw [(aBl hc e).cells]⟩⟩
theorem aAU {ρ:Rho} {cs:List V} {x:Value} (e:tv ρ (.agg cs)=some x):∃ l,cells ρ cs l/\x= .agg ⟨l⟩:=by
 simp only [tv]at e
 cases hc:iA cs with
 | false=>rw [hc]at e;cases e
 | true=>
  rw [hc]at e;simp only at e
  cases ha:tvs ρ cs with
  | none=>rw [ha]at e;cases e
  | some y=>rw [ha]at e;cases e;exact⟨y,⟨hc,ha⟩,rfl⟩
theorem uK {ρ:Rho}:∀ {v:V} {x:Value} {c:List V},vc v=some c->tv ρ v=some x->BX.cells ρ c x.cells.toList
 | .agg cs,x,c,h,e=>by
  obtain⟨l,h1,rfl⟩:=aAU e;cases h;exact h1
 | .tup _,_,_,h,_=>by cases h
 | .int _ _,_,_,h,e=>by cases h;exact(gU rfl e).2
 | .bool _,_,_,h,e=>by cases h;exact(gU rfl e).2
 | .str _,_,_,h,e=>by cases h;exact(gU rfl e).2
 | .ptr _ _,_,_,h,e=>by cases h;exact(gU rfl e).2
 | .nilp,_,_,h,e=>by cases h;exact(gU rfl e).2
 | .sl _ _ _ _,_,_,h,e=>by cases h;exact(gU rfl e).2
 | .so _ _ _ _,_,_,h,e=>by cases h;exact(gU rfl e).2
 | .nils,_,_,h,e=>by cases h;exact(gU rfl e).2
 | .map _,_,_,h,e=>by cases h;exact(gU rfl e).2
 | .nilm,_,_,h,e=>by cases h;exact(gU rfl e).2
 | .fn _ _ _,_,_,h,e=>by cases h;exact(gU rfl e).2
 | .yld _,_,_,h,e=>by cases h;exact(gU rfl e).2
 | .nilf,_,_,h,e=>by cases h;exact(gU rfl e).2
 | .iface _ _,_,_,h,e=>by cases h;exact(gU rfl e).2
 | .nili,_,_,h,e=>by cases h;exact(gU rfl e).2
theorem zY {ρ:Rho} {cs:List V} {l:List Value} (h:cells ρ cs l):tv ρ (.agg cs)=some (.agg ⟨l⟩):=by
 simp only [tv,h.1,h.2]
def entR (ρ:Rho) (e:Ent) (m:MapEntry):Prop:=tv ρ e.key=some m.key/\tv ρ e.val=some m.val/\m.born=e.born
def kA (ρ:Rho):List Ent->List MapEntry->Prop
 | [],[]=>True
 | e :: es,m :: ms=>entR ρ e m/\kA ρ es ms
 | _,_=>False
structure bN (ρ:Rho) (e:Tr V) (n:Nat) (a:Array Value):Prop where
 size:a.size=n
 get:∀ t v,at_ e t=some v->∃ x,a[t]? =some x/\tv ρ v=some x
def obR (ρ:Rho):Ob->Obj->Prop
 | .map es c, .map ms c'=>c'=c/\kA ρ es ms.toList
 | .loop st p _ e n ps sg bd d, .loop r=>r.state=st/\r.pending=p/\bN ρ e n r.tmps/\r.params.toList=ps/\r.assign=sg/\r.body=bd/\∃ x,ρ d=some x/\r.defers=x.1
 | .dfr l, .deferred c=>c=if l then some [] else none
 | _,_=>False
def blkR (ρ:Rho) (κ:Nat):Blk->Obj->Prop
 | .cells c t op, .cells a t' fz=>t'=t/\fz=(0,0)/\∃ l junk,cells ρ c l/\a=⟨l++junk⟩/\(op=0->junk=[])/\(0<op->l.length+junk.length=κ*op)
 | .obj o,o'=>obR ρ o o'
 | _,_=>False
structure G where
 w:World
 lo:Nat
 hi:Nat
 ρ:Rho
structure Rel (g:G) (ρ:Rho) (h:Tr Blk) (nx:Nat) (w:World):Prop where
 blk:∀ b k,at_ h b=some k->∃ x o,ρ b=some x/\w.heap[x.1]? =some o/\blkR ρ x.2 k o
 inj:∀ b b' x x',at_ h b≠none->at_ h b'≠none->ρ b=some x->ρ b'=some x'->x.1=x'.1->b=b'
 new:∀ b x,ρ b=some x->g.w.heap.size<=x.1
 below:RowKit.Below g.w.heap.size g.w w
 lo:g.lo<=nx
 fresh:∀ b,nx<=b->b<g.hi->ρ b=none
 le:g.ρ.le ρ
 out:∀ b,b<g.lo\/g.hi<=b->ρ b=g.ρ b
theorem entR.mono {ρ ρ':Rho} (h:ρ.le ρ') {e:Ent} {m:MapEntry} (r:entR ρ e m):entR ρ' e m:=⟨lP h _ r.1,lP h _ r.2.1,r.2.2⟩
theorem kA.mono {ρ ρ':Rho} (h:ρ.le ρ'):∀ {es:List Ent} {ms:List MapEntry},kA ρ es ms->kA ρ' es ms
 | [],[],_=>trivial
 | _ :: _,_ :: _,r=>⟨r.1.mono h,kA.mono h r.2⟩
 | [],_ :: _,r=>r.elim
 | _ :: _,[],r=>r.elim
theorem bN.mono {ρ ρ':Rho} (h:ρ.le ρ') {e:Tr V} {n:Nat} {a:Array Value} (r:bN ρ e n a):bN ρ' e n a:=
 ⟨r.size,fun t v ht=>let ⟨x,h1,h2⟩:=r.get t v ht;⟨x,h1,lP h v h2⟩⟩
theorem obR.mono {ρ ρ':Rho} (h:ρ.le ρ') {o:Ob} {o':Obj} (r:obR ρ o o'):obR ρ' o o':=by
 cases o with
 | map es c=>cases o' <;> first | exact⟨r.1,r.2.mono h⟩ | exact r.elim
 | loop st p f e n ps sg bd d=>
  cases o' <;> first
   | (obtain⟨h1,h2,h3,h4,h5,h6,x,h7,h8⟩:=r;exact⟨h1,h2,h3.mono h,h4,h5,h6,x,h _ _ h7,h8⟩)
   | exact r.elim
 | dfr b=>cases o' <;> exact r
theorem blkR.mono {ρ ρ':Rho} (h:ρ.le ρ') {κ:Nat} {k:Blk} {o:Obj} (r:blkR ρ κ k o):blkR ρ' κ k o:=by
 cases k with
 | obj o'=>exact obR.mono h r
 | cells c t op=>
  cases o <;> first
   | (obtain⟨h1,h2,l,j,h3,h4⟩:=r;exact⟨h1,h2,l,j,h3.mono h,h4⟩)
   | exact r.elim
end
open RowKit (Below)
noncomputable section
section
variable {h:Tr Blk} {nx:Nat} {lg:List Fp} {r:O × S}
theorem iU {α:Type} {o:Option α} {p:AI} {f:α->AI} (e:run (opt o p f) h nx lg=some r):(o=none/\run p h nx lg=some r)\/∃ a,o=some a/\run (f a) h nx lg=some r:=by
 cases o with
 | none=>exact .inl ⟨rfl,e⟩
 | some a=>exact .inr ⟨a,rfl,e⟩
theorem bI {α:Type} {o:Option α} {f:α->AI} (e:run (oo o f) h nx lg=some r):∃ a,o=some a/\run (f a) h nx lg=some r:=by
 rcases iU e with⟨_,e⟩ | e
 ·cases e
 ·exact e
theorem fH {x:Operand} {e:Tr V} {f:V->AI} (q:run (bZ x e f) h nx lg=some r):∃ v,ev x e=some v/\run (f v) h nx lg=some r:=bI (o:=ev x e) (f:=f) q
theorem rJ {x y:Operand} {e:Tr V} {f:V->V->AI} (q:run (dM x y e f) h nx lg=some r):∃ v u,ev x e=some v/\ev y e=some u/\run (f v u) h nx lg=some r:=by
 obtain⟨v,h1,q⟩:=bI (o:=ev x e) (f:=fun v=>oo (ev y e) (f v)) q
 simp_all [bI]
theorem aC2 {x y z:Operand} {e:Tr V} {f:V->V->V->AI} (q:run (dZ x y z e f) h nx lg=some r):∃ v u t,ev x e=some v/\ev y e=some u/\ev z e=some t/\run (f v u t) h nx lg=some r:=by
 obtain⟨v,h1,q⟩:=fH q
 grind [rJ]
theorem iO {l:List Operand} {e:Tr V} {f:List V->AI} (q:run (dV l e f) h nx lg=some r):∃ vs,evs l e=some vs/\run (f vs) h nx lg=some r:=bI q
theorem aCd {x:Option Operand} {e:Tr V} {f:Option V->AI} (q:run (xN x e f) h nx lg=some r):∃ v,evO x e=some v/\run (f v) h nx lg=some r:=bI q
theorem cC {b:Bool} {p:AI} (q:run (cB b p) h nx lg=some r):b=true/\run p h nx lg=some r:=by
 cases b with
 | true=>exact⟨rfl,q⟩
 | false=>cases q
theorem gT {b:Bool} {p p':AI} (q:run (ife b p p') h nx lg=some r):(b=true/\run p h nx lg=some r)\/(b=false/\run p' h nx lg=some r):=by
 cases b with
 | true=>exact .inl ⟨rfl,q⟩
 | false=>exact .inr ⟨rfl,q⟩
theorem sC {v:V} {f:Nat->Nat->AI} (q:run (rO v f) h nx lg=some r):∃ b off,v= .ptr b off/\run (f b off) h nx lg=some r:=by
 cases v <;> first
  | exact⟨_,_,rfl,q⟩
  | cases q
theorem aFN {v:V} {f:Bool->AI} (q:run (asBool v f .fail) h nx lg=some r):∃ b,v= .bool b/\run (f b) h nx lg=some r:=by
 cases v <;> first
  | exact⟨_,rfl,q⟩
  | cases q
theorem aGw {v:V} {f:List V->AI} (q:run (asTup v f) h nx lg=some r):∃ l,v= .tup l/\run (f l) h nx lg=some r:=by
 cases v <;> first
  | exact⟨_,rfl,q⟩
  | cases q
theorem aBx {v:V} {f:Nat->AI} {p:AI} (q:run (asMap v f p) h nx lg=some r):(∃ b,v= .map b/\run (f b) h nx lg=some r)\/(v= .nilm/\run p h nx lg=some r):=by
 cases v <;> first
  | exact .inl ⟨_,rfl,q⟩
  | exact .inr ⟨rfl,q⟩
  | cases q
theorem aB8 {v:V} {f:Nat->V->AI} {p:AI} (q:run (asIf v f p) h nx lg=some r):(∃ t u,v= .iface t u/\run (f t u) h nx lg=some r)\/(v= .nili/\run p h nx lg=some r):=by
 cases v <;> first
  | exact .inl ⟨_,_,rfl,q⟩
  | exact .inr ⟨rfl,q⟩
  | cases q
theorem aCg {v:V} {f:Nat->List V->List V->AI} {y:Nat->AI} (q:run (asFn v f y) h nx lg=some r):(∃ g a c,v= .fn g a c/\run (f g a c) h nx lg=some r)\/(∃ l,v= .yld l/\run (y l) h nx lg=some r):=by
 cases v <;> first
  | exact .inl ⟨_,_,_,rfl,q⟩
  | exact .inr ⟨_,rfl,q⟩
  | cases q
theorem oK {v:V} {f:Nat->Nat->Nat->Nat->AI} {f':Nat->Nat->Nat->Nat->AI} {p d:AI} (q:run (asSl v f f' p d) h nx lg=some r):
 (∃ b off len cap,v= .sl b off len cap/\run (f b off len cap) h nx lg=some r)\/(∃ b off len es,v= .so b off len es/\run (f' b off len es) h nx lg=some r)\/(v= .nils/\run p h nx lg=some r)\/run d h nx lg=some r:=by
 cases v <;> first
  | exact .inl ⟨_,_,_,_,rfl,q⟩
  | exact .inr (.inl ⟨_,_,_,_,rfl,q⟩)
  | exact .inr (.inr (.inl ⟨rfl,q⟩))
  | exact .inr (.inr (.inr q))
theorem aEB {v:V} {f:IntKind->Int->AI} {d:AI} (q:run (vX v f d) h nx lg=some r):(∃ k n,v= .int k n/\run (f k n) h nx lg=some r)\/run d h nx lg=some r:=by
 cases v <;> first
  | exact .inl ⟨_,_,rfl,q⟩
  | exact .inr q
theorem aFA {v:V} {f:List V->AI} {d:AI} (q:run (asAgg v f d) h nx lg=some r):(∃ cs,v= .agg cs/\run (f cs) h nx lg=some r)\/run d h nx lg=some r:=by
 cases v <;> first
  | exact .inl ⟨_,rfl,q⟩
  | exact .inr q
theorem aA5 {v:V} {f:ByteArray->AI} {d:AI} (q:run (vZ v f d) h nx lg=some r):(∃ s,v= .str s/\run (f s) h nx lg=some r)\/run d h nx lg=some r:=by
 cases v <;> first
  | exact .inl ⟨_,rfl,q⟩
  | exact .inr q
theorem cZ {α:Type} {pr:Pr α} {k:α->St} (q:thn pr k h nx lg=some r):∃ x h1 n1 l,pr h nx=some (x,h1,n1,l)/\k x h1 n1 (l++lg)=some r:=by
 unfold thn at q
 grind
theorem xB {v:V} {n:Nat} (q:nA v=some n):∃ k,v= .int k (.ofNat n):=by
 cases v <;> try (cases q;done)
 rename_i k i
 cases i with
 | ofNat m=>exact⟨k,by cases q;rfl⟩
 | negSucc m=>cases q
theorem pH {p:AI} (q:run p h nx lg=some r):nx<=r.2.nx:=let ⟨_,_,h2,_⟩:=(gM p).shape q;h2
end
mutual
theorem uI (ρ:Rho):∀ (c:Value) {v:V},ofC c=some v->tv ρ v=some c
 | .int _ _,_,e=>by cases e;rfl
 | .bool _,_,e=>by cases e;rfl
 | .float _ _,_,e=>by cases e
 | .complex _ _ _,_,e=>by cases e
 | .string _,_,e=>by cases e;rfl
 | .pointer none,_,e=>by cases e;rfl
 | .pointer (some _),_,e=>by cases e
 | .slice none 0 0,_,e=>by cases e;rfl
 | .slice none 0 (_+1),_,e=>by cases e
 | .slice none (_+1) _,_,e=>by cases e
 | .slice (some _) _ _,_,e=>by cases e
 | .map none,_,e=>by cases e;rfl
 | .map (some _),_,e=>by cases e
 | .chan _,_,e=>by cases e
 | .func _ _ _,_,e=>by cases e
 | .nilFunc,_,e=>by cases e;rfl
 | .nilIface,_,e=>by cases e;rfl
 | .iface t c,v,e=>by
  simp only [ofC]at e;cases h:ofC c with
  | none=>rw [h]at e;cases e
  | some x=>rw [h]at e;cases e;simp only [tv,uI ρ c h]
 | .agg cs,v,e=>by
  simp only [ofC]at e;cases h:ofA cs with
  | none=>rw [h]at e;cases e
  | some l=>
   rw [h]at e;simp only at e
   cases hc:iA l with
   | false=>rw [hc]at e;cases e
   | true=>rw [hc]at e;cases e;simp only [tv,hc,ofA_tv ρ cs h]
 | .tuple cs,v,e=>by
  simp only [ofC]at e;cases h:ofA cs with
  | none=>rw [h]at e;cases e
  | some l=>rw [h]at e;cases e;simp only [tv,ofA_tv ρ cs h]
theorem ofA_tv (ρ:Rho):∀ (cs:Array Value) {l:List V},ofA cs=some l->tvs ρ l=some cs.toList
 | ⟨l⟩,_,e=>ofL_tv ρ l e
theorem ofL_tv (ρ:Rho):∀ (cs:List Value) {l:List V},ofL cs=some l->tvs ρ l=some cs
 | [],_,e=>by cases e;rfl
 | c :: cs,l,e=>by
  simp only [ofL]at e;cases h:ofC c with
  | none=>rw [h]at e;cases e
  | some x=>
   rw [h]at e;simp only at e
   cases h2:ofL cs with
   | none=>rw [h2]at e;cases e
   | some y=>rw [h2]at e;cases e;exact dR.2 ⟨c,cs,uI ρ c h,ofL_tv ρ cs h2,rfl⟩
end
theorem cJ {ρ:Rho} {e:Tr V} {n:Nat} {a:Act} (he:bN ρ e n a.tmps):∀ {x:Operand} {v:V},ev x e=some v->tv ρ v=some (a.eval x)
 | .tmp t,v,q=>by
  obtain⟨x,h1,h2⟩:=he.get t v q
  simp_all [Act.eval]
 | .const c,v,q=>uI ρ c q
 | .global _,_,q=>by cases q
 | .func f,v,q=>by cases q;rfl
theorem iC {ρ:Rho} {e:Tr V} {n:Nat} {a:Act} (he:bN ρ e n a.tmps):∀ {l:List Operand} {vs:List V},evs l e=some vs->tvs ρ vs=some (l.map a.eval)
 | [],vs,q=>by cases q;rfl
 | x :: l,vs,q=>by
  have q':(Option.rec none (fun v=>Option.rec none (fun vs=>some (v :: vs)) (evs l e)) (ev x e):Option (List V))=some vs:=q
  cases h1:ev x e with
  | none=>rw [h1]at q';cases q'
  | some v=>
   rw [h1]at q';cases h2:evs l e with
   | none=>simp_all
   | some us=>
    simp only [h2]at q';cases q';exact dR.2 ⟨_,_,cJ he h1,iC he h2,rfl⟩
theorem bN.put {ρ:Rho} {e:Tr V} {n:Nat} {a:Act} (he:bN ρ e n a.tmps) {t:Nat} (ht:t<n) {v:V} {x:Value} (hv:tv ρ v=some x):bN ρ (pu e t (some v)) n (a.put (some t) x).tmps:=by
 refine⟨by simp [Act.put,he.size],fun s u hu=>?_⟩
 rw [fG]at hu
 by_cases hs:s=t
 ·subst hs;rw [a1H rfl]at hu;cases hu
  exact⟨x,by simp [Act.put,he.size,ht],hv⟩
 ·rw [a1G hs]at hu;obtain⟨y,h1,h2⟩:=he.get s u hu;exact⟨y,by simp [Act.put,a0c (Ne.symm hs),h1],h2⟩
theorem Rel.lt {g:G} {ρ:Rho} {h:Tr Blk} {nx:Nat} {w:World} (R:Rel g ρ h nx w) {b:Nat} {k:Blk} (e:at_ h b=some k):∃ x o,ρ b=some x/\w.heap[x.1]? =some o/\blkR ρ x.2 k o/\x.1<w.heap.size:=by
 grind [blk]
theorem Rel.row {g:G} {ρ:Rho} {h:Tr Blk} {nx:Nat} {w:World} (R:Rel g ρ h nx w) {b:Nat} {c:List V} {t op:Nat} (e:at_ h b=some (.cells c t op)):
 ∃ x l junk,ρ b=some x/\w.heap[x.1]? =some (.cells ⟨l++junk⟩ t (0,0))/\cells ρ c l/\(op=0->junk=[])/\(0<op->l.length+junk.length=x.2*op):=by
 obtain⟨x,o,h1,h2,h3⟩:=R.blk b _ e
 cases o <;> first
  | (obtain⟨rfl,rfl,l,j,h4,rfl,h5,h6⟩:=h3;exact⟨x,l,j,h1,h2,h4,h5,h6⟩)
  | exact h3.elim
theorem tN (b off i:Nat):Addr.add ⟨b,off,none⟩ i=⟨b,off+i,none⟩:=by
 grind [Addr.add]
theorem tJ {w:World} {x:Nat} {a:Array Value} {t:Nat} {fz:Nat × Nat} (h:w.heap[x]? =some (.cells a t fz)) (i:Nat):w.cell? ⟨x,i,none⟩=a[i]?:=by
 simp [World.cell?,h]
theorem aCt {P:Program} {g:G} {ρ:Rho} {h:Tr Blk} {nx:Nat} {w:World} (R:Rel g ρ h nx w) {b off n:Nat} {l:List V} {h1:Tr Blk} {n1:Nat} {m:List Fp}
 (e:pRd b off n h nx=some (l,h1,n1,m)):∃ x r,ρ b=some x/\(loadCells ⟨x.1,off,none⟩ n).run P w= .ok ⟨r⟩ w/\cells ρ l r/\l.length=n/\h1=h/\n1=nx:=by
 unfold pRd at e
 split at e
 ·rename_i c t op hb;split at e
  ·rename_i l' htk;split at e
   ·cases e;obtain⟨x,cl,junk,hx,hw,hc,_,_⟩:=R.row hb;rw [xW,sU]at htk;obtain⟨h2,rfl⟩:=htk;simp only [List.length_drop]at h2;have hcl:=hc.len;have hlen:((cl.drop off).take n).length=n:=by simp;omega
    refine⟨x,(cl.drop off).take n,hx,?_,(hc.drop off).take n,by simp;omega,rfl,rfl⟩
    have:=SX.run_loadCellsFrom (P:=P) (w:=w) (p:=⟨x.1,off,none⟩) ((cl.drop off).take n) 0 #[] (fun j v hj=>by
     rw [tN,tJ hw]
     grind)
    grind [loadCells]
   ·cases e
  ·cases e
 ·cases e
theorem aGx {g:G} {ρ:Rho} {h:Tr Blk} {nx:Nat} {w:World} (R:Rel g ρ h nx w) {b off:Nat} {v:V} {h1:Tr Blk} {n1:Nat} {m:List Fp}
 (e:pRd1 b off h nx=some (v,h1,n1,m)):∃ x u,ρ b=some x/\w.cell? ⟨x.1,off,none⟩=some u/\tv ρ v=some u/\isC v=true/\h1=h/\n1=nx:=by
 obtain⟨e1,e2⟩:=zV.1 e
 cases e2
 obtain⟨c,t,op,hb,hv⟩:=kQ.1 e1
 obtain⟨x,cl,junk,hx,hw,hc,_,_⟩:=R.row hb
 obtain⟨u,h2,h3,h4⟩:=hc.get hv
 refine⟨x,u,hx,?_,h3,h4,rfl,rfl⟩
 rw [tJ hw,a0G,a0y (a0C.1 h2).1];exact h2
theorem Rel.ext {g:G} {ρ:Rho} {h h':Tr Blk} {nx:Nat} {w:World} (R:Rel g ρ h nx w) (e:∀ b,at_ h' b=at_ h b):Rel g ρ h' nx w:=
 ⟨(by grind [blk]),fun b b' x x' p q=>R.inj b b' x x' (by rw [<- e];exact p) (by rw [<- e];exact q),R.new,R.below,R.lo,R.fresh,R.le,R.out⟩
theorem Rel.write {g:G} {ρ:Rho} {h:Tr Blk} {nx:Nat} {w w':World} (R:Rel g ρ h nx w) {b:Nat} {x:Nat × Nat} {k k':Blk} {o':Obj} (hb:at_ h b=some k) (hx:ρ b=some x) (hw:w'.heap[x.1]? =some o')
 (ho:∀ c,c≠x.1->w'.heap[c]? =w.heap[c]?) (hsz:w'.heap.size=w.heap.size) (hos:w'.os=w.os) (hout:w'.output=w.output) (htp:w'.tape=w.tape) (hk:blkR ρ x.2 k' o'):Rel g ρ (pu h b (some k')) nx w':=by
 refine⟨fun c q hc=>?_,fun c c' y y' h1 h2 h3 h4 h5=>?_,R.new,⟨hos.trans R.below.os,htp.trans R.below.tape,hout.trans R.below.output,by rw [hsz];exact R.below.size,fun c hc=>?_⟩,R.lo,R.fresh,R.le,R.out⟩
 ·rw [fG]at hc;by_cases e:c=b
  ·grind
  ·rw [a1G e]at hc;obtain⟨y,o,h1,h2,h3⟩:=R.blk c q hc;refine⟨y,o,h1,?_,h3⟩;rw [ho y.1 fun e2=>e (R.inj c b y x (by rw [hc];simp) (by rw [hb];simp) h1 hx e2)];exact h2
 ·refine R.inj c c' y y' (fun e=>h1 ?_) (fun e=>h2 ?_) h3 h4 h5
  ·grind [fG]
  grind [fG]
 ·have:=R.new b x hx;rw [ho c (by omega)];exact R.below.block c hc
theorem aFo {w:World} {b off:Nat} {a:Array Value} {t:Nat} {fz:Nat × Nat} (h:w.heap[b]? =some (.cells a t fz)) (u:Value):
 (w.setCell ⟨b,off,none⟩ u).heap[b]? =some (.cells (a.setIfInBounds off u) t fz):=SX.setCell_self w ⟨b,off,none⟩ u h rfl
theorem aCz {α:Type} {c l:List α} {off:Nat} {v:α} (h:off+(v :: l).length<=c.length):((c.set off v).take (off+1)++l++(c.set off v).drop (off+1+l.length))=c.take off++(v :: l)++c.drop (off+(v :: l).length):=by
 simp only [a0J]at h
 have h2:(c.set off v).take (off+1)=c.take off++[v]:=by
  rw [List.take_set,a1g (by omega),List.set_append_right _ _ (by simp;omega)];simp [a1o (by omega:off<=c.length)]
 grind [List.drop_set]
theorem aGq {ρ:Rho} {c:List V} {l:List Value} (h:cells ρ c l) {i:Nat} {v:V} {u:Value} (hv:isC v=true) (e:tv ρ v=some u) (hi:i<c.length):cells ρ (c.set i v) (l.set i u):=by
 have hl:=h.len
 have e1:c.set i v=c.take i++v :: c.drop (i+1):=by rw [List.set_eq_take_append_cons_drop,a1H hi]
 have e2:l.set i u=l.take i++u :: l.drop (i+1):=by grind [List.set_eq_take_append_cons_drop]
 rw [e1,e2]
 have h1:cells ρ [v] [u]:=⟨oQ.2 ⟨hv,rfl⟩,(by grind [tvs])⟩
 exact(h.take i).app (h1.app (h.drop (i+1)))
theorem aFU {P:Program} {g:G} {ρ:Rho} {nx:Nat} {b t op:Nat} {x:Nat × Nat}:∀ (l:List V) (r:List Value) (off:Nat) (c:List V) (h:Tr Blk) (w:World) (k i:Nat),Rel g ρ h nx w->at_ h b=some (.cells c t op)->ρ b=some x ->
 cells ρ l r->off+l.length<=c.length->off=k+i->∃ w',(storeCells ⟨x.1,k,none⟩ r i).run P w= .ok () w'/\Rel g ρ (pu h b (some (.cells (c.take off++l++c.drop (off+l.length)) t op))) nx w'
 | [],r,off,c,h,w,k,i,R,hb,hx,hc,hle,hk=>by
  rw [lC.1 hc.2];refine⟨w,rfl,R.ext fun d=>?_⟩
  simp_all [fG]
 | v :: l,r,off,c,h,w,k,i,R,hb,hx,hc,hle,hk=>by
  obtain⟨u,r,h1,h2,rfl⟩:=dR.1 hc.2;obtain⟨h3,h4⟩:=oQ.1 hc.1;obtain⟨y,cl,junk,hy,hw,hcc,hj0,hj1⟩:=R.row hb;rw [hx]at hy;cases hy
  have hlen:=hcc.len;have hoff:off<c.length:=by simp at hle;omega
  have hcell:w.cell? ⟨x.1,off,none⟩=some (cl[off]'(by omega)):=by
   rw [tJ hw,a0G,a0y (by omega)];simp
  have hfr:w.frozen? ⟨x.1,off,none⟩=false:=by simp [World.frozen?,hw]
  have hrun:(Go.store ⟨x.1,off,none⟩ u).run P w= .ok () (w.setCell ⟨x.1,off,none⟩ u):=SX.run_store (P:=P) (by
   have:=aBl h3 h1;cases u <;> first | exact this.elim | trivial) hcell hfr
  have hcc':=aGq hcc h3 h1 hoff;have R':Rel g ρ (pu h b (some (.cells (c.set off v) t op))) nx (w.setCell ⟨x.1,off,none⟩ u):=
   R.write hb hx (aFo hw u) (by grind [SX.setCell_other]) (SX.setCell_size _ _ _) rfl rfl rfl
    ⟨rfl,rfl,cl.set off u,junk,hcc',by simp [List.set_append_left _ _ (by omega:off<cl.length)],hj0,fun h=>by simp;exact hj1 h⟩
  obtain⟨w',hr,hR⟩:=aFU (P:=P) l r (off+1) (c.set off v) _ _ k (i+1) R' at_same hx ⟨h4,h2⟩ (by simp at hle ⊢;omega) (by omega)
  refine⟨w',?_,hR.ext fun d=>?_⟩
  ·have e0:Addr.add ⟨x.1,k,none⟩ i=⟨x.1,off,none⟩:=by rw [tN,hk]
   simp_all [storeCells]
  grind [fG,aCz]
theorem zI {P:Program} {g:G} {ρ:Rho} {h:Tr Blk} {nx:Nat} {w:World} (R:Rel g ρ h nx w) {b off:Nat} {l:List V} {r:List Value} {h1:Tr Blk} {n1:Nat} {m:List Fp}
 (e:pWr b off l h nx=some ((),h1,n1,m)) (hc:cells ρ l r):∃ x w',ρ b=some x/\(storeCells ⟨x.1,off,none⟩ r).run P w= .ok () w'/\Rel g ρ h1 n1 w':=by
 unfold pWr at e
 split at e
 ·rename_i c t op hb;split at e
  ·rename_i c' hpl;split at e
   ·cases e;obtain⟨h2,rfl⟩:=(sF l off c c').1 hpl;obtain⟨x,_,_,hx,_⟩:=R.row hb;obtain⟨w',h3,h4⟩:=aFU (P:=P) l r off c h w off 0 R hb hx hc h2 rfl
    grind
   ·cases e
  ·cases e
 ·cases e
def Rho.ins (ρ:Rho) (b:Nat) (x:Nat × Nat):Rho:=fun c=>if c=b then some x else ρ c
theorem Rho.le_ins {ρ:Rho} {b:Nat} {x:Nat × Nat} (h:ρ b=none):ρ.le (ρ.ins b x):=by grind [Rho.ins,Rho.le]
theorem Rho.ins_self {ρ:Rho} {b:Nat} {x:Nat × Nat}:ρ.ins b x b=some x:=by simp [Rho.ins]
theorem yG {g:G} {ρ:Rho} {h:Tr Blk} {nx:Nat} {w:World} (R:Rel g ρ h nx w) {k:Blk} {b:Nat} {h1:Tr Blk} {n1:Nat} {m:List Fp}
 (e:iS k h nx=some (b,h1,n1,m)) (hi:n1<=g.hi) (κ:Nat) (o:Obj) (hk:blkR (ρ.ins nx (w.heap.size,κ)) κ k o):b=nx/\ρ.le (ρ.ins nx (w.heap.size,κ))/\Rel g (ρ.ins nx (w.heap.size,κ)) h1 n1 (w.alloc o):=by
 unfold iS at e
 split at e
 ·rename_i h0;cases e;have hn:ρ nx=none:=R.fresh nx (a1l _) hi;have hle:=Rho.le_ins (x:=(w.heap.size,κ)) hn;have hnew:(w.alloc o).heap[w.heap.size]? =some o:=by show(w.heap.push o)[w.heap.size]? =_;simp
  refine⟨rfl,hle,⟨fun c q hc=>?_,fun c c' y y' h1 h2 h3 h4 h5=>?_,fun c y hy=>?_,R.below.alloc R.below.size o,Nat.le_succ_of_le R.lo,fun c hc hc2=>?_,Rho.le_trans R.le hle,fun c hc=>?_⟩⟩
  ·rw [fG]at hc;by_cases e:c=nx
   ·simp_all [Rho.ins]
   ·rw [a1G e]at hc;obtain⟨y,o2,h1,h2,h3,h4⟩:=R.lt hc;exact⟨y,o2,hle _ _ h1,by grind [World.alloc],h3.mono hle⟩
  ·have key:∀ {d:Nat} {z:Nat × Nat},at_ (pu h nx (some k)) d≠none->ρ.ins nx (w.heap.size,κ) d=some z->(d=nx/\z.1=w.heap.size)\/(d≠nx/\at_ h d≠none/\ρ d=some z/\z.1<w.heap.size):=fun {d z} hd hz=>by
    by_cases e:d=nx
    ·grind [Rho.ins]
    ·rw [at_ne e]at hd;have hz':ρ d=some z:=by simpa [Rho.ins,e] using hz
     refine .inr ⟨e,hd,hz',?_⟩;cases hq:at_ h d with
     | none=>exact absurd hq hd
     | some q=>
      grind [Rel.lt]
   grind [Rel.inj]
  ·unfold Rho.ins at hy;split at hy
   ·cases hy;exact R.below.size
   ·exact R.new c y hy
  ·have:c≠nx:=by omega
   simp only [Rho.ins,a1G this];exact R.fresh c (by omega) hc2
  ·have:=R.lo;have:c≠nx:=by omega
   simp only [Rho.ins,a1G this];exact R.out c hc
 ·cases e
theorem aHJ {g:G} {ρ:Rho} {h:Tr Blk} {nx:Nat} {w:World} (R:Rel g ρ h nx w) {b:Nat} {h1:Tr Blk} {n1:Nat} {m:List Fp} (e:pDel b h nx=some ((),h1,n1,m)):Rel g ρ h1 n1 w:=by
 unfold pDel at e
 split at e
 ·cases e;refine⟨fun c q hc=>?_,fun c c' y y' h1 h2=>R.inj c c' y y' (fun e=>h1 ?_) (fun e=>h2 ?_),R.new,R.below,R.lo,R.fresh,R.le,R.out⟩
  ·grind [Rel.blk,fG]
  ·grind [fG]
  grind [fG]
 ·cases e
theorem lL {g:G} {ρ:Rho} {h:Tr Blk} {nx:Nat} {w:World} (R:Rel g ρ h nx w) {b:Nat} {o:Ob} {h1:Tr Blk} {n1:Nat} {m:List Fp} (e:mQ b h nx=some (o,h1,n1,m)):
 ∃ x o',ρ b=some x/\w.heap[x.1]? =some o'/\obR ρ o o'/\at_ h b=some (.obj o)/\h1=h/\n1=nx:=by
 unfold mQ at e
 split at e
 ·rename_i hb;cases e
  obtain⟨x,o',h1,h2,h3⟩:=R.blk b _ hb;exact⟨x,o',h1,h2,h3,hb,rfl,rfl⟩
 ·cases e
theorem tE {g:G} {ρ:Rho} {h:Tr Blk} {nx:Nat} {w:World} (R:Rel g ρ h nx w) {b:Nat} {o:Ob} {x:Nat × Nat} {o1:Obj} {h1:Tr Blk} {n1:Nat} {m:List Fp} (e:oG b o h nx=some ((),h1,n1,m)) (hx:ρ b=some x) (ho:obR ρ o o1):
 Rel g ρ h1 n1 { w with heap:=w.heap.setIfInBounds x.1 o1 }:=by
 unfold oG at e
 split at e
 ·rename_i o0 hb;cases e
  obtain⟨y,o',h1,h2,h3,h4⟩:=R.lt hb;rw [hx]at h1;cases h1
  refine R.write hb hx ?_ (fun c hc=>?_) (by simp) rfl rfl rfl ho
  ·simp [h4]
  grind
 ·cases e
end
end Go.BX
