/- Parts of the proof: lemmas, and the steps through the program. -/
import Derived.Test.YtgidgoahhepmlaaGreatFo0
import Derived.Laws.StructEq
import Derived.Test.YtgidgoahhepmlaaGreatRows
set_option linter.unusedVariables false
set_option linter.unusedSimpArgs false
set_option maxRecDepth 100000
set_option maxHeartbeats 2000000
namespace Go.SW
open Go.SX
def odS:Env'->OD:=fun _=> .skip
def odC (ps:List Nat) (wr:Bool) (φ:AK) (Δo:List Tk):Env'->OD:=fun _=> .op ps wr (fun _=>φ) (fun _=>Δo)
def odN (ps:List Nat) (wr:Bool) (Φ:Nat->Value->AK) (Δo:Nat->Value->List Tk):Env'->OD:=fun _=> .op ps wr (fun c=>Φ c.n c.v) (fun c=>Δo c.n c.v)
def od1 (j:Nat) (ps:List Nat) (wr:Bool) (Φ:Nat->Value->AK) (Δo:Nat->Value->List Tk):Env'->OD:=fun e=> .op ps wr (fun _=>Φ (e j).n (e j).v) (fun _=>Δo (e j).n (e j).v)
def od2 (j k:Nat) (ps:List Nat) (wr:Bool) (Φ:Nat->Value->Nat->Value->AK) (Δo:Nat->Value->Nat->Value->List Tk):Env'->OD:=
 fun e=> .op ps wr (fun _=>Φ (e j).n (e j).v (e k).n (e k).v) (fun _=>Δo (e j).n (e j).v (e k).n (e k).v)
def od3 (j k l:Nat) (ps:List Nat) (wr:Bool) (Φ:Nat->Value->Nat->Value->Nat->Value->AK) (Δo:Nat->Value->Nat->Value->Nat->Value->List Tk):Env'->OD:=
 fun e=> .op ps wr (fun _=>Φ (e j).n (e j).v (e k).n (e k).v (e l).n (e l).v) (fun _=>Δo (e j).n (e j).v (e k).n (e k).v (e l).n (e l).v)
def odN1 (j:Nat) (ps:List Nat) (wr:Bool) (Φ:Nat->Value->Nat->Value->AK) (Δo:Nat->Value->Nat->Value->List Tk):Env'->OD:=
 fun e=> .op ps wr (fun c=>Φ (e j).n (e j).v c.n c.v) (fun c=>Δo (e j).n (e j).v c.n c.v)
def odN2 (j k:Nat) (ps:List Nat) (wr:Bool) (Φ:Nat->Value->Nat->Value->Nat->Value->AK) (Δo:Nat->Value->Nat->Value->Nat->Value->List Tk):Env'->OD:=
 fun e=> .op ps wr (fun c=>Φ (e j).n (e j).v (e k).n (e k).v c.n c.v) (fun c=>Δo (e j).n (e j).v (e k).n (e k).v c.n c.v)
def odN3 (j k l:Nat) (ps:List Nat) (wr:Bool) (Φ:Nat->Value->Nat->Value->Nat->Value->Nat->Value->AK) (Δo:Nat->Value->Nat->Value->Nat->Value->Nat->Value->List Tk):Env'->OD:=
 fun e=> .op ps wr (fun c=>Φ (e j).n (e j).v (e k).n (e k).v (e l).n (e l).v c.n c.v) (fun c=>Δo (e j).n (e j).v (e k).n (e k).v (e l).n (e l).v c.n c.v)
section
variable {ods:List (Env'->OD)} {us:List Us} {ps:List Nat} {wr:Bool}
theorem FkS (h:dZ ods us):dZ (odS :: ods) (([],false,[]) :: us):= .cons (fits0 rfl rfl) h
theorem FkC {φ:AK} {Δo:List Tk} (h:dZ ods us):dZ (odC ps wr φ Δo :: ods) ((ps,wr,[]) :: us):= .cons (fits0 rfl rfl) h
theorem FkN {Φ:Nat->Value->AK} {Δo:Nat->Value->List Tk} (h:dZ ods us):dZ (odN ps wr Φ Δo :: ods) ((ps,wr,[]) :: us):= .cons (fits0 rfl rfl) h
theorem FkD1 {j:Nat} {Φ:Nat->Value->AK} {Δo:Nat->Value->List Tk} (h:dZ ods us):dZ (od1 j ps wr Φ Δo :: ods) ((ps,wr,[j]) :: us):= .cons (fits1 (od:=fun c=> .op ps wr (fun _=>Φ c.n c.v) (fun _=>Δo c.n c.v)) fun _=>⟨rfl,rfl⟩) h
theorem FkD2 {j k:Nat} {Φ:Nat->Value->Nat->Value->AK} {Δo:Nat->Value->Nat->Value->List Tk} (h:dZ ods us):dZ (od2 j k ps wr Φ Δo :: ods) ((ps,wr,[j,k]) :: us):=
 .cons (fits2 (od:=fun c d=> .op ps wr (fun _=>Φ c.n c.v d.n d.v) (fun _=>Δo c.n c.v d.n d.v)) fun _ _=>⟨rfl,rfl⟩) h
theorem FkD3 {j k l:Nat} {Φ:Nat->Value->Nat->Value->Nat->Value->AK} {Δo:Nat->Value->Nat->Value->Nat->Value->List Tk} (h:dZ ods us):dZ (od3 j k l ps wr Φ Δo :: ods) ((ps,wr,[j,k,l]) :: us):=
 .cons (fits3 (od:=fun c d b=> .op ps wr (fun _=>Φ c.n c.v d.n d.v b.n b.v) (fun _=>Δo c.n c.v d.n d.v b.n b.v)) fun _ _ _=>⟨rfl,rfl⟩) h
theorem FkN3 {j k l:Nat} {Φ:Nat->Value->Nat->Value->Nat->Value->Nat->Value->AK} {Δo:Nat->Value->Nat->Value->Nat->Value->Nat->Value->List Tk} (h:dZ ods us):dZ (odN3 j k l ps wr Φ Δo :: ods) ((ps,wr,[j,k,l]) :: us):=
 .cons (fits3 (od:=fun c d a=> .op ps wr (fun b=>Φ c.n c.v d.n d.v a.n a.v b.n b.v) (fun b=>Δo c.n c.v d.n d.v a.n a.v b.n b.v)) fun _ _ _=>⟨rfl,rfl⟩) h
end
section
variable {P:Program} {r:Option Nat} {ops:Array Oper} {β:bL} {n:Nat} {ds:List Deferred} {Γ:Ctx} {Δ:List Tk} {o:Oper} {l:List NO} {e:Env'} {i:Nat} {G:Env'->Cf->(Nat->Tk)->Prop} {Q:Exit->Act->World->Prop}
theorem bD {id:Nat} {lo:List Oper} {ods:List (Env'->OD)} {us:List Us} (h k q:Nat) (hm:P.follows .mixedOrders=true) (hle:(lo.take h).length=h) (hol:ods.length=h) (hq:(Δ++List.replicate k gG).length=q)
 (hn:NC P r lo.toArray (NG P r lo.toArray β n ds Q (lo.drop h) q) (iI 0 (lo.take h) ods) env0 (lk Γ) (dOf (Δ++List.replicate k gG))) (hu:dZ ods us) (hB:(netB lo.toArray h us && ((lo.take h).zip us).all (wfU n q))=true):
 T β n ds Γ Δ ((Code.region id lo.toArray true).wpIn (fw r) 0 P Q):=by
 grind [T_net]
theorem My {d:Nat} {φ:AK} (h:OpT P Γ [] o φ) (k:∀ b,NC P r ops G l (e.set i b) (lk ((d,φ) :: Γ)) (dOf Δ)) (hw:cN ops Γ o:=by exact trivial) (hd:o.dst=some d:=by exact rfl):
 NC P r ops G ((i,o,odC [] false φ []) :: l) e (lk Γ) (dOf Δ):=N_y rfl (fun _=>rfl) hw hd h k
theorem Mg {d:Nat} {φ:AK} {c want:Bool} (hc:c=want) (h:OpT P Γ [] o φ) (k:∀ b,NC P r ops G l (e.set i b) (lk ((d,φ) :: Γ)) (dOf Δ)) (hg:GW ops Γ o c want:=by exact⟨_,_,rfl,rfl,rfl⟩) (hd:o.dst=some d:=by exact rfl):
 NC P r ops G ((i,o,odC [] false φ []) :: l) e (lk Γ) (dOf Δ):=N_y rfl (fun _=>rfl) (hg.wants hc) hd h k
theorem Mo {d:Nat} {φ:AK} {τ:Tk} (p:Nat) (hp:[p].map (dOf Δ)=[τ]) (h:OpT P Γ [τ] o φ) (k:∀ b,NC P r ops G l (e.set i b) (lk ((d,φ) :: Γ)) (dOf Δ)) (hw:cN ops Γ o:=by exact trivial) (hd:o.dst=some d:=by exact rfl):
 NC P r ops G ((i,o,odC [p] false φ [gG]) :: l) e (lk Γ) (dOf Δ):=N_op (ps:=[p]) rfl (fun _=>rfl) hw hp hd h k
theorem Mn {d:Nat} (p:Nat) (f:Nat->Value) (τ:Nat->Tk) (hp:Δ[p]? =some gG) (h:OpN P Γ o f τ) (k:∀ b u,NC P r ops G l (e.set i ⟨b,u⟩) (lk ((d,fEq (f b)) :: Γ)) (dOf (Δ.set p (τ b)))) (hw:cN ops Γ o:=by exact trivial) (hd:o.dst=some d:=by exact rfl):
 NC P r ops G ((i,o,odN [p] true (fun b _=>fEq (f b)) (fun b _=>[τ b])) :: l) e (lk Γ) (dOf Δ):=N_new rfl (fun _=>rfl) (fun _=>rfl) hw hp hd h k
theorem Mf {d:Nat} {f:Nat->Value} {τ:Nat->Tk} {φ:AK} (h:OpN P Γ o f τ) (hz:∀ b,Frz (τ b) φ (f b)) (k:∀ b,NC P r ops G l (e.set i b) (lk ((d,φ) :: Γ)) (dOf Δ)) (hw:cN ops Γ o:=by exact trivial) (hd:o.dst=some d:=by exact rfl):
 NC P r ops G ((i,o,odC [] true φ []) :: l) e (lk Γ) (dOf Δ):=N_newF rfl (fun _=>rfl) hw hd h hz k
theorem D1 {d:Nat} (j:Nat) (b:Nat) (u:Value) (Φ:Nat->Value->AK) (hj:e j=⟨b,u⟩) (h:OpT P Γ [] o (Φ b u)) (k:∀ c,NC P r ops G l (e.set i c) (lk ((d,Φ b u) :: Γ)) (dOf Δ)) (hw:cN ops Γ o:=by exact trivial) (hd:o.dst=some d:=by exact rfl):
 NC P r ops G ((i,o,od1 j [] false Φ (fun _ _=>[])) :: l) e (lk Γ) (dOf Δ):=N_y (f:=fun _=>[]) (by simp only [od1,hj]) (fun _=>rfl) hw hd h k
end
open Go.SX
structure cE (Q:Prop):Prop where
 h:Q
def tb:List (Nat × Nat)->Nat->Option Nat
 | [],_=>none
 | (a,b) :: l,t=>bif Nat.beq a t then some b else tb l t
theorem xL:∀ {l:List (Nat × Nat)} {t k:Nat},tb l t=some k->(t,k)∈l
 | (a,b) :: l,t,k,h=>by
  unfold tb at h;cases e:Nat.beq a t with
  | true=>simp_all
  | false=>rw [e]at h;exact .tail _ (xL h)
def tb3:List (Nat × Nat × Nat)->Nat->Nat->Option Nat
 | [],_,_=>none
 | (a,b,c) :: l,s,f=>bif Nat.beq a s && Nat.beq b f then some c else tb3 l s f
theorem aEF:∀ {l:List (Nat × Nat × Nat)} {s f k:Nat},tb3 l s f=some k->(s,f,k)∈l
 | (a,b,c) :: l,s,f,k,h=>by
  unfold tb3 at h;cases e:Nat.beq a s && Nat.beq b f with
  | true=>
   simp_all
  | false=>rw [e]at h;exact .tail _ (aEF h)
def onb (x:Option Nat) (n:Nat):Bool:=match x with | some m=>Nat.beq m n | none=>false
theorem aBq {x:Option Nat} {n:Nat} (h:onb x n=true):x=some n:=by
 cases x with
 | none=>cases h
 | some m=>rw [a1i h]
section
variable {P:Program}
def slB (P:Program) (t:TypeId):Option Nat:=match P.underlying t with | some (.slice e)=>some e | _=>none
theorem us_of {l:List (Nat × Nat)} (h:(l.all fun p=>onb (slB P p.1) p.2)=true) {t e:Nat} (k:tb l t=some e):gM P t (.slice e):=by
 have:=aBq (a0o.1 h _ (xL k))
 unfold slB at this
 split at this
 ·rename_i q;cases this;exact q
 ·cases this
theorem el_of {l:List (Nat × Nat)} (h:(l.all fun p=>onb (wB P p.1) p.2)=true) {t e:Nat} (k:tb l t=some e):nP P t e:=aBq (by simp_all [xL])
theorem sz_of {l:List (Nat × Nat)} (h:(l.all fun p=>onb (lS P p.1) p.2)=true) {t e:Nat} (k:tb l t=some e):hO P t e:=aBq (by simp_all [xL])
theorem ag_of {l:List (Nat × Nat)} (h:(l.all fun p=>aggB P p.1 p.2)=true) {t e:Nat} (k:tb l t=some e):kO P t e:=a0o.1 h _ (xL k)
theorem sc_of {l:List Nat} (h:(l.all fun p=>scalB P p)=true) {t:Nat} (k:(l.any fun p=>Nat.beq p t)=true):Scal P t:=by
 grind [_root_.Nat.eq_of_beq_eq_true,Scal]
theorem cb_of {l:List Nat} (h:(l.all fun p=>callB P p)=true) {t:Nat} (k:(l.any fun p=>Nat.beq p t)=true):Au P t:=by
 grind [_root_.Nat.eq_of_beq_eq_true,Au]
theorem fa_of {l:List (Nat × Nat × Nat)} (h:(l.all fun p=>onb (aBx P p.1 p.2.1) p.2.2)=true) {s f k:Nat} (e:tb3 l s f=some k):sX P s f k:=aBq (by simp_all [aEF])
def tb4:List (Nat × Nat × Nat × Nat)->Nat->Option (Nat × Nat × Nat)
 | [],_=>none
 | (a,b) :: l,t=>bif Nat.beq a t then some b else tb4 l t
theorem aHA:∀ {l:List (Nat × Nat × Nat × Nat)} {t:Nat} {k:Nat × Nat × Nat},tb4 l t=some k->(t,k)∈l
 | (a,b) :: l,t,k,h=>by
  unfold tb4 at h;cases e:Nat.beq a t with
  | true=>simp_all
  | false=>rw [e]at h;exact .tail _ (aHA h)
theorem et_of {l:List (Nat × Nat × Nat × Nat)} (h:(l.all fun p=>elB P p.1 p.2.1 p.2.2.1 p.2.2.2)=true) {t e s b:Nat} (k:tb4 l t=some (e,s,b)):ElT P t e s b:=a0o.1 h _ (aHA k)
end
theorem o_fieldC {α γ:Type} {P:Program} {Γ:Ctx} {o:Oper} {t:Ty α} (t':Ty γ) (L:List (Nat × Nat × Nat)) {y:α} {z:γ} {S f k:Nat} {x:Operand} (ho:o.op= .fieldAddr S x f) (_:(tb3 L S f).isSome=true) (hx:Has Γ x (aL t y)) (hf:sX P S f k) (hs:((t.An y).drop k).take t'.sz=t'.An z):OpT P Γ [] o (aL t' z):=wS ho hx hf hs
theorem o_nilP {α:Type} {P:Program} {Γ:Ctx} {o:Oper} {t:Ty α} {y:α} {x:Operand} (ho:o.op= .nilCheck x) (hx:Has Γ x (aL t y)):OpT P Γ [] o (aL t y):=aFS ho hx (fun _ _ ⟨p,h,_⟩=>⟨p,h⟩)
theorem o_nilE {P:Program} {Γ:Ctx} {o:Oper} {p:Addr} {x:Operand} (ho:o.op= .nilCheck x) (hx:Has Γ x (fEq (.pointer (some p)))):OpT P Γ [] o (fEq (.pointer (some p))):=aFS ho hx (fun _ _ h=>⟨_,h⟩)
theorem cc {b w:Bool} (h:b=w:=by first | with_reducible assumption | exact rfl | exact not_t (by with_reducible assumption) | exact not_f (by with_reducible assumption)):b=w:=h
theorem ct {b:Bool} (h:b=true:=by first | with_reducible assumption | exact rfl | exact not_f (by with_reducible assumption)):b=true:=h
theorem cf {b:Bool} (h:b=false:=by first | with_reducible assumption | exact rfl | exact not_t (by with_reducible assumption)):b=false:=h
theorem cn {b w:Bool} (h:b≠w:=by first | exact ne_ft ct | exact ne_tf cf):b≠w:=h
section
variable {P:Program} {β:bL} {n:Nat} {ds:List Deferred} {Γ:Ctx} {Δ:List Tk} {r:Option Nat} {Q Q':Exit->Act->World->Prop} {N F:Act->World->Prop} {ops:Array Oper} {o:Oper} {rest:List Oper}
theorem hl {xs:List Operand} {φs:List AK} (h:aP Γ xs φs:=by repeat (first | exact aP.nil | apply aP.cons (has rfl))):aP Γ xs φs:=h
theorem Tc {g:Operand} {args:List Operand} {ts:Array TypeId} {f:FuncId} {first captured:Array Value} {φs ψs:List AK} {Δi Δr Δo:List Tk} {Φ:AK} {d:Option Nat} (hc:FnS P f ψs Δi Φ (fun _=>Δo)) (k:T β n ds (putG d Φ Γ) (Δo++Δr) (wpListIn (fw r) 0 P ops Q rest))
 (hw:cN ops Γ o:=by first | exact trivial | exact⟨_,_,rfl,rfl,cc⟩) (ho:o.op= .call { callee:= .value g,args:=args.toArray,argTypes:=ts }:=by exact rfl) (hd:o.dst=d:=by exact rfl) (hn:dstOk d n=true:=by exact rfl) (hg:Has Γ g (fEq (.func (.func f) first captured)):=by exact has rfl)
 (hargs:aP Γ args φs:=by exact hl) (hall:first.toList.map fEq++φs++captured.toList.map fEq=ψs:=by exact rfl) (hf:Au P f:=by exact cb rfl) (hΔ:Δ=Δi++Δr:=by exact rfl):T β n ds Γ Δ (wpListIn (fw r) 0 P ops Q (o :: rest)):=by grind [oX]
theorem Tp {g:Operand} {args:List Operand} {ts:Array TypeId} {f:FuncId} {first captured:Array Value} {φs ψs:List AK} {Δi Δr:List Tk} {c:List PanicEntry} (hc:FnP P f ψs Δi c) (k:T β n ds Γ Δr (Q (.panic c))) (hw:cN ops Γ o:=by first | exact trivial | exact⟨_,_,rfl,rfl,cc⟩)
 (ho:o.op= .call { callee:= .value g,args:=args.toArray,argTypes:=ts }:=by exact rfl) (hg:Has Γ g (fEq (.func (.func f) first captured)):=by exact has rfl) (hargs:aP Γ args φs:=by exact hl) (hall:first.toList.map fEq++φs++captured.toList.map fEq=ψs:=by exact rfl) (hf:Au P f:=by exact cb rfl)
 (hΔ:Δ=Δi++Δr:=by exact rfl):T β n ds Γ Δ (wpListIn (fw r) 0 P ops Q (o :: rest)):=by grind [T_callP]
def AllE (Γ:Ctx) (v:Value):List Nat->Prop
 | []=>True
 | s :: ss=>lk Γ s=some (fEq v)/\AllE Γ v ss
theorem AllE.all {v:Value}:∀ {ss:List Nat},AllE Γ v ss->∀ s∈ss,lk Γ s=some (fEq v)
 | _ :: _,h,_, .head _=>h.1
 | _ :: _,h,s, .tail _ k=>AllE.all h.2 s k
theorem fz {v:Value} {ss:List Nat} (h:AllE Γ v ss:=by repeat (first | exact trivial | refine⟨by exact rfl,?_⟩)):∀ s∈ss,lk Γ s=some (fEq v):=h.all
theorem Tn {d:Nat} {f:Nat->Value} {τ:Nat->Tk} (h:OpN P Γ o f τ) (k:∀ b,T β n ds ((d,fEq (f b)) :: Γ) (τ b :: Δ) (wpListIn (fw r) 0 P ops Q rest)) (hw:cN ops Γ o:=by first | exact trivial | exact⟨_,_,rfl,rfl,cc⟩) (hd:o.dst=some d:=by exact rfl) (hn:Nat.ble (d+1) n=true:=by exact rfl):
 T β n ds Γ Δ (wpListIn (fw r) 0 P ops Q (o :: rest)):=T_new hw hd hn h k
theorem sb {Γ' Γ:Ctx} (h:fM Γ' Γ:=by repeat (first | exact fM.nil | refine Sc ?_)):fM Γ' Γ:=h
theorem Tm {ι:Type} {ok:ι->Prop} {Γf:ι->Ctx} {Δf:ι->List Tk} (i:ι) (h:ok i) (hs:fM (Γf i) Γ:=by exact sb) (hd:Δ=Δf i:=by exact rfl):T β n ds Γ Δ (fun a w=>∃ i,ok i/\AtT β n ds (Γf i) (Δf i) a w):=T_meet i h hs hd
theorem ij {α:Type} {a b:α} (h:some a=some b):b=a:=(a1u h).symm
theorem ls {n:Nat}:n<n+1:=Nat.lt_succ_self n
theorem To {fn:Func} {Φ:AK} {Δ':List Tk} {t:Nat} (hr:fn.results=#[.tmp t]:=by exact rfl) (hv:gX Γ t Φ:=by exact bO rfl) (hd:Δ=Δ':=by exact rfl):T β n [] Γ Δ (bodyPost P fn (fX β Φ (fun _=>Δ')) .ret):=fV hr hv hd
theorem Zy {d:Nat} {φ:AK} (hw:cN ops Γ o) (h:OpT P Γ [] o φ) (hd:o.dst=some d) (hn:Nat.ble (d+1) n=true) (k:T β n ds ((d,φ) :: Γ) Δ (wpListIn (fw r) 0 P ops Q rest)):T β n ds Γ Δ (wpListIn (fw r) 0 P ops Q (o :: rest)):=T_y hw hd hn h k
theorem Zg {d:Nat} {φ:AK} {c want:Bool} (hg:GW ops Γ o c want) (hc:c=want) (h:OpT P Γ [] o φ) (hd:o.dst=some d) (hn:Nat.ble (d+1) n=true) (k:T β n ds ((d,φ) :: Γ) Δ (wpListIn (fw r) 0 P ops Q rest)):
 T β n ds Γ Δ (wpListIn (fw r) 0 P ops Q (o :: rest)):=T_y (hg.wants hc) hd hn h k
theorem Zk {d:Nat} {c want:Bool} (hg:GW ops Γ o c want) (hc:c≠want) (hd:o.dst=some d) (hn:Nat.ble (d+1) n=true) (k:T β n ds ((d,fEq undef) :: Γ) Δ (wpListIn (fw r) 0 P ops Q rest)):
 T β n ds Γ Δ (wpListIn (fw r) 0 P ops Q (o :: rest)):=cR (hg.unwants hc) hd hn k
theorem Zo {d:Nat} {φ:AK} {τ:Tk} (i:Nat) (hw:cN ops Γ o) (hτ:Δ[i]? =some τ) (h:OpT P Γ [τ] o φ) (hd:o.dst=some d) (hn:Nat.ble (d+1) n=true) (k:T β n ds ((d,φ) :: Γ) Δ (wpListIn (fw r) 0 P ops Q rest)):
 T β n ds Γ Δ (wpListIn (fw r) 0 P ops Q (o :: rest)):=T_o1 i hw hτ hd hn h k
theorem Zh {d:Nat} {φ:AK} {τ:Tk} {c want:Bool} (i:Nat) (hg:GW ops Γ o c want) (hc:c=want) (hτ:Δ[i]? =some τ) (h:OpT P Γ [τ] o φ) (hd:o.dst=some d) (hn:Nat.ble (d+1) n=true) (k:T β n ds ((d,φ) :: Γ) Δ (wpListIn (fw r) 0 P ops Q rest)):
 T β n ds Γ Δ (wpListIn (fw r) 0 P ops Q (o :: rest)):=T_o1 i (hg.wants hc) hτ hd hn h k
end
section
variable {P:Program} {r:Option Nat} {ops:Array Oper} {β:bL} {n:Nat} {ds:List Deferred} {Γ:Ctx} {Δ:List Tk} {o:Oper} {l:List NO} {e:Env'} {i:Nat} {G:Env'->Cf->(Nat->Tk)->Prop} {Q:Exit->Act->World->Prop}
theorem Ny {d:Nat} {φ:AK} (hw:cN ops Γ o) (h:OpT P Γ [] o φ) (hd:o.dst=some d) (k:∀ b,NC P r ops G l (e.set i b) (lk ((d,φ) :: Γ)) (dOf Δ)):
 NC P r ops G ((i,o,odC [] false φ []) :: l) e (lk Γ) (dOf Δ):=N_y rfl (fun _=>rfl) hw hd h k
theorem Ng {d:Nat} {φ:AK} {c want:Bool} (hg:GW ops Γ o c want) (hc:c=want) (h:OpT P Γ [] o φ) (hd:o.dst=some d) (k:∀ b,NC P r ops G l (e.set i b) (lk ((d,φ) :: Γ)) (dOf Δ)):
 NC P r ops G ((i,o,odC [] false φ []) :: l) e (lk Γ) (dOf Δ):=N_y rfl (fun _=>rfl) (hg.wants hc) hd h k
theorem No {d:Nat} {φ:AK} {τ:Tk} (p:Nat) (hw:cN ops Γ o) (hp:[p].map (dOf Δ)=[τ]) (h:OpT P Γ [τ] o φ) (hd:o.dst=some d) (k:∀ b,NC P r ops G l (e.set i b) (lk ((d,φ) :: Γ)) (dOf Δ)):
 NC P r ops G ((i,o,odC [p] false φ [gG]) :: l) e (lk Γ) (dOf Δ):=N_op (ps:=[p]) rfl (fun _=>rfl) hw hp hd h k
theorem Nh {d:Nat} {φ:AK} {τ:Tk} {c want:Bool} (p:Nat) (hg:GW ops Γ o c want) (hc:c=want) (hp:[p].map (dOf Δ)=[τ]) (h:OpT P Γ [τ] o φ) (hd:o.dst=some d) (k:∀ b,NC P r ops G l (e.set i b) (lk ((d,φ) :: Γ)) (dOf Δ)):
 NC P r ops G ((i,o,odC [p] false φ [gG]) :: l) e (lk Γ) (dOf Δ):=N_op (ps:=[p]) rfl (fun _=>rfl) (hg.wants hc) hp hd h k
theorem Nc {g:Operand} {args:List Operand} {ts:Array TypeId} {f:FuncId} {first captured:Array Value} {φs ψs:List AK} {Φ:AK} {d:Nat} (hc:FnS P f ψs [] Φ (fun _=>[])) (k:∀ b,NC P r ops G l (e.set i b) (lk ((d,Φ) :: Γ)) (dOf Δ)) (hw:cN ops Γ o:=by first | exact trivial | exact⟨_,_,rfl,rfl,cc⟩)
 (ho:o.op= .call { callee:= .value g,args:=args.toArray,argTypes:=ts }:=by exact rfl) (hd:o.dst=some d:=by exact rfl) (hg:Has Γ g (fEq (.func (.func f) first captured)):=by exact has rfl) (hargs:aP Γ args φs:=by exact hl) (hall:first.toList.map fEq++φs++captured.toList.map fEq=ψs:=by exact rfl) (hf:Au P f:=by exact cb rfl):
 NC P r ops G ((i,o,odC [] true Φ []) :: l) e (lk Γ) (dOf Δ):=aD3 (od:=odC [] true Φ []) rfl (fun _=>rfl) hw ho hd hg hargs hall hf hc k
theorem Nk {d:Nat} {c want:Bool} (hg:GW ops Γ o c want) (hc:c≠want) (hd:o.dst=some d) (k:∀ b,NC P r ops G l (e.set i b) (lk ((d,fEq undef) :: Γ)) (dOf Δ)):NC P r ops G ((i,o,odS) :: l) e (lk Γ) (dOf Δ):=cV rfl (hg.unwants hc) hd k
theorem fk {ods:List (Env'->OD)} {us:List Us} (h:dZ ods us:=by repeat first | exact dZ.nil | apply FkC | apply FkS | apply FkN | apply FkD1 | apply FkD2 | apply FkD3 | apply FkN1 | apply FkN2 | apply FkN3):dZ ods us:=h
end
end Go.SW
namespace Go.Dt
open Go.SX Go.SW
abbrev fI (n:Int):AK:=bI .i64 n
abbrev tI:Ty Int:=bS .i64
structure AV where
 Op:Int
 N:Int
 AM:List AV
inductive rY (m:Mem):Addr->AV->Prop
 | mk (p:Addr) (x:AV) (v2:Value) (q2:Nat->Addr):(∃ u,m.cell p=some u/\(bI .i64 x.Op).p m u)->(∃ u,m.cell (p.add 1)=some u/\(bI .i64 x.N).p m u)->m.cell (p.add 2)=some v2->Sl v2 x.AM.length 3 q2->x.AM.length<=1000000000->(∀ (i:Nat) y,x.AM[i]? =some y->rY m (q2 i) y)->rY m p x
theorem rY.mono {m m':Mem} (h:Mem.le m m'):∀ {p:Addr} {x:AV},rY m p x->rY m' p x:=fun {p x} k=>by
 induction k with
 | mk p x v2 q2 e0 e1 c2 s2 l2 _r2 ih2=>exact .mk p x v2 q2 (let ⟨u,a,b⟩:=e0;⟨u,Mem.cell_mono h a,AK.mono _ h b⟩) (let ⟨u,a,b⟩:=e1;⟨u,Mem.cell_mono h a,AK.mono _ h b⟩) (Mem.cell_mono h c2) s2 l2 ih2
def dD (xs:List AV):AK:=⟨fun m v=>∃ q,Sl v xs.length 3 q/\xs.length<=1000000000/\∀ (i:Nat) y,xs[i]? =some y->rY m (q i) y,fun h ⟨q,h1,h2,h3⟩=>⟨q,h1,h2,fun i y hy=>(h3 i y hy).mono h⟩⟩
theorem nH {xs:List AV}:eJ (dD xs):=fun _ _ ⟨_,h,_⟩=>h.isCell
def aN:Ty AV:=⟨3,fun x=>[bI .i64 x.Op,bI .i64 x.N,dD x.AM],fun _=>rfl,fun x=>(aI (aF trivial) (aI (aF trivial) (aI (nH) bN)))⟩
theorem aEW {m:Mem} {p:Addr} {x:AV}:aN.at m p x ↔ rY m p x:=by
 constructor
 ·rintro⟨cs,⟨c0,r0,rfl,h0,⟨c1,r1,rfl,h1,⟨c2,r2,rfl,h2,hn⟩⟩⟩,hc⟩
  have hn:r2=[]:=hn;subst hn;obtain⟨q2,s2,l2,a2⟩:=h2;exact .mk p x c2 q2 ⟨c0,hc 0 _ rfl,h0⟩ ⟨c1,hc 1 _ rfl,h1⟩ (hc 2 _ rfl) s2 l2 a2
 ·rintro⟨p,x,v2,q2,⟨u0,g0,e0⟩,⟨u1,g1,e1⟩,g2,s2,l2,a2⟩
  refine⟨[u0,u1,v2],⟨u0,[u1,v2],rfl,e0,⟨u1,[v2],rfl,e1,⟨v2,[],rfl,⟨q2,s2,l2,a2⟩,rfl⟩⟩⟩,fun j c hj=>?_⟩
  match j,hj with
  | 0,hj=>cases hj;exact g0
  | 1,hj=>cases hj;exact g1
  | 2,hj=>cases hj;exact g2
  | j+3,hj=>simp at hj
theorem eO {xs:List AV}:dD xs=fSl aN xs:=AK.ext' fun m v=>by
 constructor
 ·rintro⟨q,h1,h2,h3⟩;exact⟨q,h1,h2,fun i x hx=>aEW.2 (h3 i x hx)⟩
 ·rintro⟨q,h1,h2,h3⟩;exact⟨q,h1,h2,fun i x hx=>aEW.1 (h3 i x hx)⟩
theorem zS {φ:AK} {xs:List AV} (h:Ent φ (fSl aN xs)):Ent φ (dD xs):=by rw [eO];exact h
structure AZ where
 Op:Int
 N:Int
 AX:List AV
 AM:List Int
def aJ:Ty AZ:=⟨4,fun x=>[bI .i64 x.Op,bI .i64 x.N,fSl aN x.AX,fSl (bS .i64) x.AM],fun _=>rfl,fun x=>(aI (aF trivial) (aI (aF trivial) (aI (aS) (aI (aS) bN))))⟩
structure Aq where
 At:Int
 Ar:Int
def aZ:Ty Aq:=⟨2,fun x=>[bI .i64 x.At,bI .i64 x.Ar],fun _=>rfl,fun x=>(aI (aF trivial) (aI (aF trivial) bN))⟩
structure Ap where
 In:Int
 AW:Int
def aU:Ty Ap:=⟨2,fun x=>[bI .i64 x.In,bI .i64 x.AW],fun _=>rfl,fun x=>(aI (aF trivial) (aI (aF trivial) bN))⟩
structure Ah where
 At:Int
 Ad:List Int
 AW:Int
def aY:Ty Ah:=⟨3,fun x=>[bI .i64 x.At,fSl (bS .i64) x.Ad,bI .i64 x.AW],fun _=>rfl,fun x=>(aI (aF trivial) (aI (aS) (aI (aF trivial) bN)))⟩
structure AN where
 AT:List Aq
 AS:List Ap
 AQ:List Ah
def aB:Ty AN:=⟨3,fun x=>[fSl aZ x.AT,fSl aU x.AS,fSl aY x.AQ],fun _=>rfl,fun x=>(aI (aS) (aI (aS) (aI (aS) bN)))⟩
structure AJ where
 AF:List ByteArray
 AB:List AZ
 AD:List AN
 AG:Int
def dQ:Ty AJ:=⟨4,fun x=>[fSl aD x.AF,fSl aJ x.AB,fSl aB x.AD,bI .i64 x.AG],fun _=>rfl,fun x=>(aI (aS) (aI (aS) (aI (aS) (aI (aF trivial) bN))))⟩
structure Ao where
 Op:Int
 N:Int
 AX:List AV
 AM:List Int
 AI:List Int
def aW:Ty Ao:=⟨5,fun x=>[bI .i64 x.Op,bI .i64 x.N,fSl aN x.AX,fSl (bS .i64) x.AM,fSl (bS .i64) x.AI],fun _=>rfl,fun x=>(aI (aF trivial) (aI (aF trivial) (aI (aS) (aI (aS) (aI (aS) bN)))))⟩
structure AH where
 AF:List ByteArray
 AI:List Int
 AB:List Ao
 AD:List AN
 AG:Int
def jB:Ty AH:=⟨5,fun x=>[fSl aD x.AF,fSl (bS .i64) x.AI,fSl aW x.AB,fSl aB x.AD,bI .i64 x.AG],fun _=>rfl,fun x=>(aI (aS) (aI (aS) (aI (aS) (aI (aS) (aI (aF trivial) bN)))))⟩
structure SolSpot where
 In:Int
 Dead:Bool
structure zY where
 Kind:Int
 N:Int
structure SolGroup where
 Def:Int
 At:Int
 Env:List zY
structure SolMsg where
 Vals:List zY
structure SolQ where
 Group:Int
 Index:Int
 At:Int
 Queue:List SolMsg
structure SolWait where
 At:Int
 AW:Int
 Env:List zY
structure Sol where
 AS:List SolSpot
 Groups:List SolGroup
 AT:List SolQ
 Waits:List SolWait
structure Ai where
 AH:AH
 AY:List (List Int)
 AU:List (List Int)
 AP:List Bool
 AO:AJ
def aA8:Ty Ai:=⟨12,fun x=>jB.An x.AH++[fSl (tSl (bS .i64)) x.AY,fSl (tSl (bS .i64)) x.AU,fSl aR x.AP]++dQ.An x.AO,fun _=>rfl,fun x=>(qS (qS (jB.cell x.AH) (aI (aS) (aI (aS) (aI (aS) bN)))) (dQ.cell x.AO))⟩
structure Ag where
 f:AH
 AP:List Bool
 AY:List (List Int)
 Aa:List Int
 AU:List (List Int)
 p:AJ
 bad:Bool
def nM:Ty Ag:=⟨14,fun x=>jB.An x.f++[fSl aR x.AP,fSl (tSl (bS .i64)) x.AY,fSl (bS .i64) x.Aa,fSl (tSl (bS .i64)) x.AU]++dQ.An x.p++[aH x.bad],fun _=>rfl,fun x=>(qS (qS (qS (jB.cell x.f) (aI (aS) (aI (aS) (aI (aS) (aI (aS) bN))))) (dQ.cell x.p)) (aI (aF trivial) bN))⟩
structure Aj where
 p:AJ
 Aa:List Int
 Am:List Int
 Al:List Int
 bad:Bool
def vJ:Ty Aj:=⟨8,fun x=>dQ.An x.p++[fSl (bS .i64) x.Aa,fSl (bS .i64) x.Am,fSl (bS .i64) x.Al,aH x.bad],fun _=>rfl,fun x=>(qS (dQ.cell x.p) (aI (aS) (aI (aS) (aI (aS) (aI (aF trivial) bN)))))⟩
structure Af where
 p:AJ
 Aa:List Int
 AR:List Bool
 Ae:List Bool
def cH:Ty Af:=⟨7,fun x=>dQ.An x.p++[fSl (bS .i64) x.Aa,fSl aR x.AR,fSl aR x.Ae],fun _=>rfl,fun x=>(qS (dQ.cell x.p) (aI (aS) (aI (aS) (aI (aS) bN))))⟩
structure aE5 where
 Deed:Int
 At:Int
 N:Int
 M:Int
 Vals:List zY
structure Flat_machine where
 Sol:Sol
 v:Value
 events:List aE5
 work:Int
structure Scope_speaks where
def aJ9:Ty Scope_speaks:=⟨0,fun x=>[],fun _=>rfl,fun x=>bN⟩
structure Scope_travels where
def aK4:Ty Scope_travels:=⟨0,fun x=>[],fun _=>rfl,fun x=>bN⟩
structure Scope_decides where
def aI5:Ty Scope_decides:=⟨0,fun x=>[],fun _=>rfl,fun x=>bN⟩
structure Scope_declares where
def aKr:Ty Scope_declares:=⟨0,fun x=>[],fun _=>rfl,fun x=>bN⟩
structure Scope_flaw where
 e:Int
structure Sol_flaw where
 e:Int
structure Sol_machine where
 Sol:Sol
 p:AJ
 Aa:List Int
 groups:List Int
 acts:aM Int Value
 events:List aE5
 work:Int
structure Sol_job where
 node:Int
 at_:Int
 env:List zY
end Go.Dt
namespace Go.SW
open Go.SX
section
variable {P:Program} {r:Option Nat} {ops:Array Oper} {Γ:Ctx} {Δ:List Tk} {o:Oper} {l:List NO} {e:Env'} {i:Nat} {G:Env'->Cf->(Nat->Tk)->Prop} {od:Env'->OD}
theorem aAt {α:Type} {t:Ty α} {ty te by' d:Nat} {s x:Operand} {ys zs:List α} {Δ':Oc->List Tk} (hod:od e= .op [] true (fun _=>fSl t zs) Δ') (hτ:∀ b,Δ' b=[]) (hw:cN ops Γ o) (ho:o.op= .call { callee:= .builtin .append,args:=#[s,x],argTypes:=#[ty,ty] }) (hd:o.dst=some d)
 (hs:Has Γ s (fEq (.slice none 0 0))) (hx:Has Γ x (fSl t ys)) (hT:ElT P ty te t.sz by') (hby:Nat.ble by' 1000=true) (hz:cQ ([]++ys)=some zs)
 (k:∀ b,NC P r ops G l (e.set i b) (lk ((d,fSl t zs) :: Γ)) (dOf Δ)):NC P r ops G ((i,o,od) :: l) e (lk Γ) (dOf Δ):=by
 refine⟨?_,fun b=>?_⟩
 ·simp only [hod];refine⟨hw,?_,fun b=>by rw [hτ];rfl⟩
  intro β n ds m L R a w K Q hF hL hS hk;have hL0:L=[]:=hL;subst hL0;have he:=lG hF;have hse:a.eval s=_:=he.get hs (by rw [ho];simp [Op.operands,Call.operands])
  obtain⟨q,⟨src,cap,hue,_,hq⟩,hyB,hel⟩:=he.get hx (by rw [ho];simp [Op.operands,Call.operands])
  have hcells:∀ (l:List α) (f:Nat->Addr),(∀ (i:Nat) y,l[i]? =some y->t.at m (f i) y)->∃ ns,aX (l.flatMap t.An) m ns/\∀ (i j:Nat) c,i<l.length->j<t.sz->ns[i*t.sz+j]? =some c->w.cell? ((f i).add j)=some c:=by
   intro l;induction l with
   | nil=>intro f _;exact⟨[],rfl,fun i j c h=>by simp at h⟩
   | cons y l ih=>
    intro f hf;obtain⟨ns,h5,h6⟩:=ih (fun i=>f (i+1)) (by grind)
    obtain⟨cy,h7,h8⟩:=hf 0 y rfl;have hcy:cy.length=t.sz:=by rw [h7.length,t.len]
    refine⟨cy++ns,by grind [aX.append],fun i j c hi hj hc=>?_⟩
    cases i with
    | zero=>
     grind [St.cell]
    | succ i=>
     grind
  obtain⟨ns,hns,hnc⟩:=hcells ys q hel;refine aDD (xs:=[]) (A:=[]) (R:=[]) (B:=R) ho hd hT hby hz hse hue hS rfl (by grind [gI]) rfl hns ⟨src,cap,rfl,fun hpos=>?_⟩ fun v' R' cs' w' h5 h6 h7=>?_
  ·obtain⟨p,rfl,hp⟩:=hq 0 hpos;refine⟨p,rfl,fun j c hc=>?_⟩
   have hlt:=(a0z.1 hc).1;rw [hns.length,lC]at hlt;have hsz:0<t.sz:=by
    grind
   have hi:j / t.sz<ys.length:=(Nat.div_lt_iff_lt_mul hsz).2 hlt;have hdm:j / t.sz*t.sz+j % t.sz=j:=by grind [Nat.div_add_mod]
   have h9:=hnc (j / t.sz) (j % t.sz) c hi (Nat.mod_lt _ hsz) (by rw [hdm];exact hc)
   grind [aCu]
  ·obtain⟨m',g1,g2,g3⟩:=uO (H:=R') (R:=R) (by simpa using h7)
   have hp:=cM (v:=v') (e:=te) (t:=t) (xs:=zs) m R' ⟨cs',h5,(sC hz).1 ▸ (sC hz).2,h6⟩ m' g1 g3;have:=hk default m' [] _ _ g1 hp (by grind [cD]) g2
   grind
 ·simp only [hod,fJ,eZ,if_true,hd,hτ];rw [aBy];exact k b
end
section
variable {P:Program} {β:bL} {n:Nat} {Γ:Ctx} {Δ:List Tk}
theorem nX {fn:Func} {Φ ψ:AK} {Δ':List Tk} {t u b sz:Nat} {ty ty':TypeId} {φs:List AK} (hr:fn.results=#[.cell t ty, .tmp u]) (hT:kO P ty sz) (hz:φs.length=sz) (hv:gX Γ t (fEq (ptr b))) (hu:gX Γ u ψ) (he:Ent (eC φs) Φ) (hd:Δ=aA b ty' φs :: Δ'):
 T β n [] Γ Δ (bodyPost P fn (fX β (dB [Φ,ψ]) (fun _=>Δ')) .ret):=fun m L a w hF hL hS=>by
 subst hd
 obtain⟨χ,h1,h2⟩:=hv
 obtain⟨v,h3,h4⟩:=hF.get t χ h1
 have h5:v=ptr b:=h2 m v h4
 subst h5
 obtain⟨_,g1,g2⟩:=hu
 obtain⟨z,g3,g4⟩:=hF.get u _ g1
 obtain⟨cs,R,rfl,h6,h7⟩:=vU hL
 have hlen:cs.length=sz:=by rw [h6.length,hz]
 have hc:∀ (j:Nat) c,cs[j]? =some c->w.cell? (Addr.add ⟨b,0,none⟩ j)=some c:=fun j c hj=>by
  rw [aBr];exact hS.own_cell (k:=0) (b:=b) (c:=cs.toArray) (T:=ty') (fz:=(0,0)) rfl rfl rfl (by simpa using hj)
 refine⟨hF.Ae, .tuple #[.agg cs.toArray,z],?_,m,R,(by grind [St.drop]),_,rfl,⟨[.agg cs.toArray,z],rfl,_,[z],rfl,he m _ ⟨cs,rfl,h6⟩,z,[],rfl,g2 m z g4,rfl⟩,h7⟩
 have h8:=SX.run_loadCellsFrom (P:=P) (w:=w) (p:=⟨b,0,none⟩) cs 0 #[] (fun j v hj=>by simpa using hc j v hj)
 have hload:(loadVar ty ⟨b,0,none⟩).run P w= .ok (.agg cs.toArray) w:=by
  rw [hlen]at h8;simp [loadVar,a1x,aCA hT,aDT hT,loadCells,Sem.run,pure,h8]
 simp [results,hr,a0a,h3,g3,a1x,Sem.run,pure,ptr,asAddr]
 rw [hload]
 rfl
end
section
variable {P:Program} {Γ:Ctx} {o:Oper}
theorem aLt {T e:TypeId} {a:Option Addr} (hT:gM P T (.pointer e)) (n:Nat) (w:World):(Op.equalIn (n+1) T (.pointer a) (.pointer none)).run P w= .ok a.isNone w:=by
 cases a <;> simp [Op.equalIn,a1x,run_underlying hT,Sem.run,pure]
theorem aIu {T e:TypeId} {a:Option Addr} (hT:gM P T (.pointer e)) (w:World):(Op.equal T (.pointer a) (.pointer none)).run P w= .ok a.isNone w:=aLt hT 9999 w
theorem opt_val {α:Type} {t:Ty α} {y:Option α} {m:Mem} {v:Value} (h:(fOpt t y).p m v):∃ a,v= .pointer a/\a.isNone=y.isNone:=by
 rcases h with⟨rfl,rfl⟩ | ⟨z,rfl,h⟩
 ·grind
 ·obtain⟨a,rfl,_⟩:=h
  grind
theorem aGD {α:Type} {t:Ty α} {T U e:TypeId} {x:Operand} {y:Option α} (ho:o.op= .binOp .eql T x (.const (.pointer none)) U) (hx:Has Γ x (fOpt t y)) (hT:gM P T (.pointer e)):OpT P Γ [] o (aH y.isNone):=
 eI (by rw [ho];rfl) fun β m a w he _=>by
  obtain⟨b,h1,h2⟩:=opt_val (he.get hx (by rw [ho];simp [Op.operands]))
  refine⟨.bool b.isNone,?_,by rw [h2];rfl⟩
  simp only [execOp,ho,h1];rw [show a.eval (.const (.pointer none))= .pointer none from rfl,a1x,a1x];cases b <;> simp [eqGuard,binOp,a1x,aIu hT,Sem.run,pure]
end
open Go.SX
section
variable {P:Program} {Γ:Ctx} {o:Oper}
def fld2 (P:Program) (f:Field) (n:Nat):Bool:=f.name != "_" && Nat.beq f.offset n && (match P.underlying f.type with | some (.int .i64)=>true | _=>false)
def two (P:Program) (T:TypeId):Bool:=!P.stoodInHeld T && !P.eqGuardType P.depth T && match P.underlying T with
 | some (.struct fs)=>(match fs.toList with | [f,g]=>fld2 P f 0 && fld2 P g 1 | _=>false)
 | _=>false
theorem aFW {f:Field} {n:Nat} (h:fld2 P f n=true):f.name≠ "_" /\f.offset=n/\P.underlying f.type=some (.int .i64):=by
 simp only [fld2,a0g,bne_iff_ne,ne_eq]at h
 grind [_root_.Nat.eq_of_beq_eq_true]
theorem two_eq {T:TypeId} (h:two P T=true):∃ f g,P.stoodInHeld T=false/\P.eqGuardType P.depth T=false/\P.underlying T=some (.struct (P.fieldsOf T))/\(P.fieldsOf T).toList=[f,g]/\fld2 P f 0=true/\fld2 P g 1=true:=by
 simp only [two,a0g,Bool.not_eq_true']at h
 grind [Program.fieldsOf]
theorem aBU {T:TypeId} (hT:P.underlying T=some (.int .i64)) (w:World) {xs:Array Value} {i:Nat} {v:Value} (h:xs[i]? =some v):(part T xs i).run P w= .ok v w:=by
 have:(isAgg T).run P w= .ok false w:=by simp [isAgg,a1x,run_underlying hT,Sem.run,pure]
 simp_all [part]
theorem run_two {T:TypeId} (h:two P T=true) (a b c d:Int) (w:World):
 (Op.equalIn 10000 T (.agg #[.int .i64 a, .int .i64 b]) (.agg #[.int .i64 c, .int .i64 d])).run P w= .ok (decide (a=c) && decide (b=d)) w:=by
 obtain⟨f,g,h1,h2,h3,h4,hf,hg⟩:=two_eq h
 obtain⟨f1,f2,f3⟩:=aFW hf
 obtain⟨g1,g2,g3⟩:=aFW hg
 have e (x y:Int):(x==y)=decide (x=y):=by
  grind
 rw [run_equalIn_agg w 9999 T _ _ h3 h1,h4]
 simp only [Op.eqFields,a1E f1,a1E g1,a1x,f2,g2]
 rw [aBU f3 w (v:= .int .i64 a) rfl,a1w,aBU f3 w (v:= .int .i64 c) rfl,a1w,run_equalIn_int w 9998 f.type _ _ _ _ f3,a1w,e]
 cases hac:decide (a=c)
 ·simp [Sem.run,pure]
 ·simp only [a0k,Bool.false_eq_true,if_false,a0l,a1x];rw [aBU g3 w (v:= .int .i64 b) rfl,a1w,aBU g3 w (v:= .int .i64 d) rfl,a1w,run_equalIn_int w 9998 g.type _ _ _ _ g3,a1w,e];cases decide (b=d) <;> simp [Sem.run,pure]
theorem st_two {α:Type} {t:Ty α} {u:α} {i j:Int} (hl:t.An u=[bI .i64 i,bI .i64 j]) {m:Mem} {v:Value} (h:(fSt t u).p m v):v= .agg #[.int .i64 i, .int .i64 j]:=by
 obtain⟨cs,rfl,h2⟩:=h
 rw [hl]at h2
 obtain⟨_,_,rfl,rfl,_,_,rfl,rfl,rfl⟩:=h2
 rfl
theorem aFB {α:Type} {t:Ty α} {T U:TypeId} {x y:Operand} {u v:α} {i j i' j':Int} (ho:o.op= .binOp .neq T x y U) (hx:Has Γ x (fSt t u)) (hy:Has Γ y (fSt t v)) (hl:t.An u=[bI .i64 i,bI .i64 j]) (hl':t.An v=[bI .i64 i',bI .i64 j']) (hT:two P T=true):
 OpT P Γ [] o (aH !(decide (i=i') && decide (j=j'))):=
 eI (by rw [ho];rfl) fun β m a w he _=>by
  have h1:=st_two hl (he.get hx (by rw [ho];simp [Op.operands]))
  have h2:=st_two hl' (he.get hy (by rw [ho];simp [Op.operands]))
  obtain⟨_,_,_,hg,_⟩:=two_eq hT;refine⟨.bool !(decide (i=i') && decide (j=j')),?_,rfl⟩;simp only [execOp,ho,h1,h2,a1x,run_eqGuard_agg w .neq T _ _ _ _ hg,a1w,run_neq_struct,run_two hT];rfl
end
section
variable {P:Program} {r:Option Nat} {ops:Array Oper} {Γ:Ctx} {Δ:List Tk} {o:Oper} {l:List NO} {e:Env'} {i:Nat} {od:Env'->OD} {G:Env'->Cf->(Nat->Tk)->Prop}
theorem N_callT {g:Operand} {args:List Operand} {ts:Array TypeId} {f:FuncId} {first captured:Array Value} {φs ψs:List AK} {Φ:AK} {p d:Nat} {τ:Tk} {Δ':Oc->List Tk} (hod:od e= .op [p] true (fun _=>Φ) Δ') (hτ:∀ b,Δ' b=[gG]) (hw:cN ops Γ o) (hp:Δ[p]? =some τ)
 (ho:o.op= .call { callee:= .value g,args:=args.toArray,argTypes:=ts }) (hd:o.dst=some d)
 (hg:Has Γ g (fEq (.func (.func f) first captured))) (hargs:aP Γ args φs) (hall:first.toList.map fEq++φs++captured.toList.map fEq=ψs) (hf:Au P f) (hc:FnS P f ψs [τ] Φ (fun _=>[]))
 (k:∀ b,NC P r ops G l (e.set i b) (lk ((d,Φ) :: Γ)) (dOf (Δ.set p gG))):NC P r ops G ((i,o,od) :: l) e (lk Γ) (dOf Δ):=by
 refine⟨?_,fun b=>?_⟩
 ·simp only [hod];refine⟨hw,?_,fun b=>by rw [hτ];rfl⟩
  intro β n ds m L R a w K Q hF hL hS hk;have hL:cD [τ] m L:=by
   grind [dOf]
  have he:=lG hF;have hge:a.eval g=_:=he.get hg (by rw [ho];simp [Op.operands,Call.operands])
  have hall':aX ψs m (first.toList++args.map a.eval++captured.toList):=hall ▸ (((jG _).append (hargs.all' he (by rw [ho];intro x hx;simp [Op.operands,Call.operands,hx]))).append (jG _))
  refine oT (L:=L) ho hge rfl hf (hc m L _ hall' hL) hS (fun m' L' v w' hle ⟨u,hv,h3,h4⟩ hS'=>?_) (by grind) (by grind)
  cases hv;have h4:L'=[]:=h4;subst h4;exact hk default m' [] v w' hle h3 (by simp only [OD.wr,if_true];rw [hτ];exact⟨[],[],rfl,rfl,rfl⟩) hS'
 ·have hlt:=(a0z.1 hp).1;simp only [hod,fJ,eZ,if_true,hd,hτ];rw [aAo hlt];exact k b
end
open Go.SX
section
variable {P:Program} {Γ:Ctx} {o:Oper}
def fldV (P:Program) (S f k:Nat):Bool:=match P.underlying S with
 | some (.struct fs)=>(match fs[f]? with | some d=>Nat.beq d.offset k && (match P.underlying d.type with | some (.int .i64)=>true | _=>false) | none=>false)
 | _=>false
end
open Go.SX
def Sub {α:Type} (xs:List α) (lo hi:Nat) (ys:List α):Prop:=lo<=hi/\hi<=xs.length/\ys=(xs.take hi).drop lo
end Go.SW
namespace Go.Proofs.YtgidgoahhepmlaaGreat
open Go.SX Go.SW Go.Dt
theorem bC:Tryz.prog.follows .mixedOrders=true:=by kernel_rfl
theorem aJP:iP Tryz.prog 113 [(0,5),(5,1),(6,1),(7,1),(8,4)] (.agg #[.slice none 0 0, .slice none 0 0, .slice none 0 0, .slice none 0 0, .int .i64 0, .slice none 0 0, .slice none 0 0, .slice none 0 0, .slice none 0 0, .slice none 0 0, .slice none 0 0, .int .i64 0]):=⟨(by kernel_rfl:iD Tryz.prog 113=some [(0,5),(5,1),(6,1),(7,1),(8,4)]),(by kernel_rfl:cX Tryz.prog 113=some (.agg #[.slice none 0 0, .slice none 0 0, .slice none 0 0, .slice none 0 0, .int .i64 0, .slice none 0 0, .slice none 0 0, .slice none 0 0, .slice none 0 0, .slice none 0 0, .slice none 0 0, .int .i64 0]))⟩
theorem aLA:iP Tryz.prog 118 [(0,5),(5,1),(6,1),(7,1),(8,1),(9,4),(13,1)] (.agg #[.slice none 0 0, .slice none 0 0, .slice none 0 0, .slice none 0 0, .int .i64 0, .slice none 0 0, .slice none 0 0, .slice none 0 0, .slice none 0 0, .slice none 0 0, .slice none 0 0, .slice none 0 0, .int .i64 0, .bool false]):=⟨(by kernel_rfl:iD Tryz.prog 118=some [(0,5),(5,1),(6,1),(7,1),(8,1),(9,4),(13,1)]),(by kernel_rfl:cX Tryz.prog 118=some (.agg #[.slice none 0 0, .slice none 0 0, .slice none 0 0, .slice none 0 0, .int .i64 0, .slice none 0 0, .slice none 0 0, .slice none 0 0, .slice none 0 0, .slice none 0 0, .slice none 0 0, .slice none 0 0, .int .i64 0, .bool false]))⟩
theorem aIB:iP Tryz.prog 122 [(0,4),(4,1),(5,1),(6,1),(7,1)] (.agg #[.slice none 0 0, .slice none 0 0, .slice none 0 0, .int .i64 0, .slice none 0 0, .slice none 0 0, .slice none 0 0, .bool false]):=⟨(by kernel_rfl:iD Tryz.prog 122=some [(0,4),(4,1),(5,1),(6,1),(7,1)]),(by kernel_rfl:cX Tryz.prog 122=some (.agg #[.slice none 0 0, .slice none 0 0, .slice none 0 0, .int .i64 0, .slice none 0 0, .slice none 0 0, .slice none 0 0, .bool false]))⟩
theorem aIs:iP Tryz.prog 131 [(0,4),(4,1),(5,1),(6,1)] (.agg #[.slice none 0 0, .slice none 0 0, .slice none 0 0, .int .i64 0, .slice none 0 0, .slice none 0 0, .slice none 0 0]):=⟨(by kernel_rfl:iD Tryz.prog 131=some [(0,4),(4,1),(5,1),(6,1)]),(by kernel_rfl:cX Tryz.prog 131=some (.agg #[.slice none 0 0, .slice none 0 0, .slice none 0 0, .int .i64 0, .slice none 0 0, .slice none 0 0, .slice none 0 0]))⟩
theorem aK5:iP Tryz.prog 207 [] (.agg #[]):=⟨(by kernel_rfl:iD Tryz.prog 207=some []),(by kernel_rfl:cX Tryz.prog 207=some (.agg #[]))⟩
theorem aJ3:iP Tryz.prog 208 [] (.agg #[]):=⟨(by kernel_rfl:iD Tryz.prog 208=some []),(by kernel_rfl:cX Tryz.prog 208=some (.agg #[]))⟩
theorem aKn:iP Tryz.prog 236 [] (.agg #[]):=⟨(by kernel_rfl:iD Tryz.prog 236=some []),(by kernel_rfl:cX Tryz.prog 236=some (.agg #[]))⟩
theorem aLs:iP Tryz.prog 237 [] (.agg #[]):=⟨(by kernel_rfl:iD Tryz.prog 237=some []),(by kernel_rfl:cX Tryz.prog 237=some (.agg #[]))⟩
theorem aLJ:iP Tryz.prog 245 [(0,1)] (.agg #[.int .i64 0]):=⟨(by kernel_rfl:iD Tryz.prog 245=some [(0,1)]),(by kernel_rfl:cX Tryz.prog 245=some (.agg #[.int .i64 0]))⟩
theorem aBA:iP Tryz.prog 26 [(0,1),(1,1),(2,1),(3,1)] (.agg #[.slice none 0 0, .slice none 0 0, .slice none 0 0, .int .i64 0]):=⟨(by kernel_rfl:iD Tryz.prog 26=some [(0,1),(1,1),(2,1),(3,1)]),(by kernel_rfl:cX Tryz.prog 26=some (.agg #[.slice none 0 0, .slice none 0 0, .slice none 0 0, .int .i64 0]))⟩
theorem aEb:iP Tryz.prog 65 [(0,1),(1,1),(2,1),(3,1)] (.agg #[.int .i64 0, .int .i64 0, .slice none 0 0, .slice none 0 0]):=⟨(by kernel_rfl:iD Tryz.prog 65=some [(0,1),(1,1),(2,1),(3,1)]),(by kernel_rfl:cX Tryz.prog 65=some (.agg #[.int .i64 0, .int .i64 0, .slice none 0 0, .slice none 0 0]))⟩
theorem ty_bu_71:iP Tryz.prog 71 [(0,1),(1,1),(2,1)] (.agg #[.int .i64 0, .int .i64 0, .slice none 0 0]):=⟨(by kernel_rfl:iD Tryz.prog 71=some [(0,1),(1,1),(2,1)]),(by kernel_rfl:cX Tryz.prog 71=some (.agg #[.int .i64 0, .int .i64 0, .slice none 0 0]))⟩
theorem aGU:iP Tryz.prog 77 [(0,1),(1,1),(2,1)] (.agg #[.slice none 0 0, .slice none 0 0, .slice none 0 0]):=⟨(by kernel_rfl:iD Tryz.prog 77=some [(0,1),(1,1),(2,1)]),(by kernel_rfl:cX Tryz.prog 77=some (.agg #[.slice none 0 0, .slice none 0 0, .slice none 0 0]))⟩
theorem wQ:kV Tryz.prog 201 dG (.bool false):=⟨3,4,by kernel_rfl,by kernel_rfl,by kernel_rfl⟩
theorem kF:kV Tryz.prog 273 kStr (.bool false):=⟨9,4,by kernel_rfl,by kernel_rfl,by kernel_rfl⟩
theorem aB2:kV Tryz.prog 55 dG (.slice none 0 0):=⟨3,27,by kernel_rfl,by kernel_rfl,by kernel_rfl⟩
theorem aCq:niB Tryz.prog 207=true:=by kernel_rfl
theorem aDm:niB Tryz.prog 208=true:=by kernel_rfl
theorem aHw:niB Tryz.prog 235=true:=by kernel_rfl
theorem aHN:niB Tryz.prog 236=true:=by kernel_rfl
theorem aF2:niB Tryz.prog 237=true:=by kernel_rfl
theorem aFN:niB Tryz.prog 245=true:=by kernel_rfl
theorem aJ4:two Tryz.prog 135=true:=by kernel_rfl
theorem aH3:two Tryz.prog 84=true:=by kernel_rfl
theorem aKg:gM Tryz.prog 4 .bool:=(by kernel_rfl:Tryz.prog.underlying 4=some .bool)
theorem aF6:Tryz.prog.underlying 20=some (.interface ((Tryz.prog.underlying 20).elim #[] fun | .interface ms=>ms | _=>#[])):=by kernel_rfl
theorem aHD:Tryz.prog.underlying 205=some (.interface ((Tryz.prog.underlying 205).elim #[] fun | .interface ms=>ms | _=>#[])):=by kernel_rfl
theorem aHt:gM Tryz.prog 109 (.pointer 113):=(by kernel_rfl:Tryz.prog.underlying 109=some (.pointer 113))
theorem lV:gM Tryz.prog 9 .string:=(by kernel_rfl:Tryz.prog.underlying 9=some .string)
theorem aEN:cX Tryz.prog 207=some (.agg #[]):=by kernel_rfl
theorem aFd:cX Tryz.prog 208=some (.agg #[]):=by kernel_rfl
theorem aJi:cX Tryz.prog 236=some (.agg #[]):=by kernel_rfl
theorem aKb:cX Tryz.prog 237=some (.agg #[]):=by kernel_rfl
theorem aKv:cX Tryz.prog 245=some (.agg #[.int .i64 0]):=by kernel_rfl
theorem aIm:SX.Zero Tryz.prog 135 (.agg #[.int .i64 0, .int .i64 0]):=(by kernel_rfl:cX Tryz.prog 135=some (.agg #[.int .i64 0, .int .i64 0]))
theorem aJo:SX.Zero Tryz.prog 201 (.map none):=(by kernel_rfl:cX Tryz.prog 201=some (.map none))
theorem aKK:SX.Zero Tryz.prog 234 (.nilFunc):=(by kernel_rfl:cX Tryz.prog 234=some (.nilFunc))
theorem aLx:SX.Zero Tryz.prog 245 (.agg #[.int .i64 0]):=(by kernel_rfl:cX Tryz.prog 245=some (.agg #[.int .i64 0]))
theorem aB8:SX.Zero Tryz.prog 26 (.agg #[.slice none 0 0, .slice none 0 0, .slice none 0 0, .int .i64 0]):=(by kernel_rfl:cX Tryz.prog 26=some (.agg #[.slice none 0 0, .slice none 0 0, .slice none 0 0, .int .i64 0]))
theorem wW:SX.Zero Tryz.prog 27 (.slice none 0 0):=(by kernel_rfl:cX Tryz.prog 27=some (.slice none 0 0))
theorem aIR:SX.Zero Tryz.prog 276 (.nilFunc):=(by kernel_rfl:cX Tryz.prog 276=some (.nilFunc))
theorem pE:SX.Zero Tryz.prog 3 (.int .i64 0):=(by kernel_rfl:cX Tryz.prog 3=some (.int .i64 0))
theorem aCk:SX.Zero Tryz.prog 31 (.int .i64 0):=(by kernel_rfl:cX Tryz.prog 31=some (.int .i64 0))
theorem wF:SX.Zero Tryz.prog 4 (.bool false):=(by kernel_rfl:cX Tryz.prog 4=some (.bool false))
theorem ty_ze_45:SX.Zero Tryz.prog 45 (.slice none 0 0):=(by kernel_rfl:cX Tryz.prog 45=some (.slice none 0 0))
theorem aBF:SX.Zero Tryz.prog 54 (.agg #[.int .i64 0, .int .i64 0, .slice none 0 0, .slice none 0 0, .slice none 0 0]):=(by kernel_rfl:cX Tryz.prog 54=some (.agg #[.int .i64 0, .int .i64 0, .slice none 0 0, .slice none 0 0, .slice none 0 0]))
theorem ty_ze_55:SX.Zero Tryz.prog 55 (.map none):=(by kernel_rfl:cX Tryz.prog 55=some (.map none))
theorem jV:SX.Zero Tryz.prog 65 (.agg #[.int .i64 0, .int .i64 0, .slice none 0 0, .slice none 0 0]):=(by kernel_rfl:cX Tryz.prog 65=some (.agg #[.int .i64 0, .int .i64 0, .slice none 0 0, .slice none 0 0]))
theorem jX:SX.Zero Tryz.prog 71 (.agg #[.int .i64 0, .int .i64 0, .slice none 0 0]):=(by kernel_rfl:cX Tryz.prog 71=some (.agg #[.int .i64 0, .int .i64 0, .slice none 0 0]))
theorem oP:SX.Zero Tryz.prog 77 (.agg #[.slice none 0 0, .slice none 0 0, .slice none 0 0]):=(by kernel_rfl:cX Tryz.prog 77=some (.agg #[.slice none 0 0, .slice none 0 0, .slice none 0 0]))
theorem pM:SX.Zero Tryz.prog 81 (.agg #[.int .i64 0, .slice none 0 0, .int .i64 0]):=(by kernel_rfl:cX Tryz.prog 81=some (.agg #[.int .i64 0, .slice none 0 0, .int .i64 0]))
theorem aAA:SX.Zero Tryz.prog 84 (.agg #[.int .i64 0, .int .i64 0]):=(by kernel_rfl:cX Tryz.prog 84=some (.agg #[.int .i64 0, .int .i64 0]))
def aEn (b:Nat) (x:Ai) (v0 v1 v2 v3:Value):List Tk:=[aA b 113 [fSl aD x.AH.AF,fSl (bS .i64) x.AH.AI,fSl aW x.AH.AB,fSl aB x.AH.AD,bI .i64 x.AH.AG,fEq v0,fEq v1,fEq v2,fSl aD x.AO.AF,fEq v3,fSl aB x.AO.AD,bI .i64 x.AO.AG],aC v0 27 (tSl (bS .i64)) x.AY,aC v1 27 (tSl (bS .i64)) x.AU,aC v2 4 aR x.AP,aC v3 65 aJ x.AO.AB]
def aFu (b:Nat) (x:Ai) (v0 v1 v2:Value):List Tk:=[tEx (aEn b x v0 v1 v2)]
def aEt (b:Nat) (x:Ai) (v0 v1:Value):List Tk:=[tEx (aFu b x v0 v1)]
def aFy (b:Nat) (x:Ai) (v0:Value):List Tk:=[tEx (aEt b x v0)]
def kD (b:Nat) (x:Ai):Tk:=tEx (aFy b x)
theorem lW {β:bL} {n:Nat} {ds:List Deferred} {Γ:Ctx} {Δ:List Tk} {F:Act->World->Prop} {b:Nat} {x:Ai} (h:∀ v0 v1 v2 v3,T β n ds Γ (aA b 113 [fSl aD x.AH.AF,fSl (bS .i64) x.AH.AI,fSl aW x.AH.AB,fSl aB x.AH.AD,bI .i64 x.AH.AG,fEq v0,fEq v1,fEq v2,fSl aD x.AO.AF,fEq v3,fSl aB x.AO.AD,bI .i64 x.AO.AG] :: aC v0 27 (tSl (bS .i64)) x.AY :: aC v1 27 (tSl (bS .i64)) x.AU :: aC v2 4 aR x.AP :: aC v3 65 aJ x.AO.AB :: Δ) F):T β n ds Γ (kD b x :: Δ) F:=gY (fun v0=>gY (fun v1=>gY (fun v2=>gY (fun v3=>h v0 v1 v2 v3))))
theorem aKT {β:bL} {n:Nat} {ds:List Deferred} {Γ:Ctx} {Δ:List Tk} {F:Act->World->Prop} {b:Nat} {x:Ai} {v0 v1 v2 v3:Value} (h:T β n ds Γ (kD b x :: Δ) F):T β n ds Γ (aA b 113 [fSl aD x.AH.AF,fSl (bS .i64) x.AH.AI,fSl aW x.AH.AB,fSl aB x.AH.AD,bI .i64 x.AH.AG,fEq v0,fEq v1,fEq v2,fSl aD x.AO.AF,fEq v3,fSl aB x.AO.AD,bI .i64 x.AO.AG] :: aC v0 27 (tSl (bS .i64)) x.AY :: aC v1 27 (tSl (bS .i64)) x.AU :: aC v2 4 aR x.AP :: aC v3 65 aJ x.AO.AB :: Δ) F:=gZ (f:=aEn b x v0 v1 v2) v3 (gZ (f:=aFu b x v0 v1) v2 (gZ (f:=aEt b x v0) v1 (gZ (f:=aFy b x) v0 (h))))
def aEc (b:Nat) (x:Af) (v0 v1 v2:Value):List Tk:=[aA b 131 [fSl aD x.p.AF,fSl aJ x.p.AB,fSl aB x.p.AD,bI .i64 x.p.AG,fEq v0,fEq v1,fEq v2],aC v0 3 (bS .i64) x.Aa,aC v1 4 aR x.AR,aC v2 4 aR x.Ae]
def aEi (b:Nat) (x:Af) (v0 v1:Value):List Tk:=[tEx (aEc b x v0 v1)]
def aEz (b:Nat) (x:Af) (v0:Value):List Tk:=[tEx (aEi b x v0)]
def aAv (b:Nat) (x:Af):Tk:=tEx (aEz b x)
theorem xT {β:bL} {n:Nat} {ds:List Deferred} {Γ:Ctx} {Δ:List Tk} {F:Act->World->Prop} {b:Nat} {x:Af} (h:∀ v0 v1 v2,T β n ds Γ (aA b 131 [fSl aD x.p.AF,fSl aJ x.p.AB,fSl aB x.p.AD,bI .i64 x.p.AG,fEq v0,fEq v1,fEq v2] :: aC v0 3 (bS .i64) x.Aa :: aC v1 4 aR x.AR :: aC v2 4 aR x.Ae :: Δ) F):T β n ds Γ (aAv b x :: Δ) F:=gY (fun v0=>gY (fun v1=>gY (fun v2=>h v0 v1 v2)))
theorem aJM {β:bL} {n:Nat} {ds:List Deferred} {Γ:Ctx} {Δ:List Tk} {F:Act->World->Prop} {b:Nat} {x:Af} {v0 v1 v2:Value} (h:T β n ds Γ (aAv b x :: Δ) F):T β n ds Γ (aA b 131 [fSl aD x.p.AF,fSl aJ x.p.AB,fSl aB x.p.AD,bI .i64 x.p.AG,fEq v0,fEq v1,fEq v2] :: aC v0 3 (bS .i64) x.Aa :: aC v1 4 aR x.AR :: aC v2 4 aR x.Ae :: Δ) F:=gZ (f:=aEc b x v0 v1) v2 (gZ (f:=aEi b x v0) v1 (gZ (f:=aEz b x) v0 (h)))
def aHg (b:Nat) (x:Aj) (v0 v1 v2:Value):List Tk:=[aA b 122 [fSl aD x.p.AF,fSl aJ x.p.AB,fSl aB x.p.AD,bI .i64 x.p.AG,fEq v0,fEq v1,fEq v2,aH x.bad],aC v0 3 (bS .i64) x.Aa,aC v1 3 (bS .i64) x.Am,aC v2 3 (bS .i64) x.Al]
def aEJ (b:Nat) (x:Aj) (v0 v1:Value):List Tk:=[tEx (aHg b x v0 v1)]
def aHG (b:Nat) (x:Aj) (v0:Value):List Tk:=[tEx (aEJ b x v0)]
def mE (b:Nat) (x:Aj):Tk:=tEx (aHG b x)
theorem tY {β:bL} {n:Nat} {ds:List Deferred} {Γ:Ctx} {Δ:List Tk} {F:Act->World->Prop} {b:Nat} {x:Aj} (h:∀ v0 v1 v2,T β n ds Γ (aA b 122 [fSl aD x.p.AF,fSl aJ x.p.AB,fSl aB x.p.AD,bI .i64 x.p.AG,fEq v0,fEq v1,fEq v2,aH x.bad] :: aC v0 3 (bS .i64) x.Aa :: aC v1 3 (bS .i64) x.Am :: aC v2 3 (bS .i64) x.Al :: Δ) F):T β n ds Γ (mE b x :: Δ) F:=gY (fun v0=>gY (fun v1=>gY (fun v2=>h v0 v1 v2)))
theorem aIC {β:bL} {n:Nat} {ds:List Deferred} {Γ:Ctx} {Δ:List Tk} {F:Act->World->Prop} {b:Nat} {x:Aj} {v0 v1 v2:Value} (h:T β n ds Γ (mE b x :: Δ) F):T β n ds Γ (aA b 122 [fSl aD x.p.AF,fSl aJ x.p.AB,fSl aB x.p.AD,bI .i64 x.p.AG,fEq v0,fEq v1,fEq v2,aH x.bad] :: aC v0 3 (bS .i64) x.Aa :: aC v1 3 (bS .i64) x.Am :: aC v2 3 (bS .i64) x.Al :: Δ) F:=gZ (f:=aHg b x v0 v1) v2 (gZ (f:=aEJ b x v0) v1 (gZ (f:=aHG b x) v0 (h)))
def aEe (b:Nat) (x:Ag) (v0 v1 v2 v3 v4:Value):List Tk:=[aA b 118 [fSl aD x.f.AF,fSl (bS .i64) x.f.AI,fSl aW x.f.AB,fSl aB x.f.AD,bI .i64 x.f.AG,fEq v0,fEq v1,fEq v2,fEq v3,fSl aD x.p.AF,fEq v4,fSl aB x.p.AD,bI .i64 x.p.AG,aH x.bad],aC v0 4 aR x.AP,aC v1 27 (tSl (bS .i64)) x.AY,aC v2 3 (bS .i64) x.Aa,aC v3 27 (tSl (bS .i64)) x.AU,aC v4 65 aJ x.p.AB]
def aF7 (b:Nat) (x:Ag) (v0 v1 v2 v3:Value):List Tk:=[tEx (aEe b x v0 v1 v2 v3)]
def aFY (b:Nat) (x:Ag) (v0 v1 v2:Value):List Tk:=[tEx (aF7 b x v0 v1 v2)]
def aFV (b:Nat) (x:Ag) (v0 v1:Value):List Tk:=[tEx (aFY b x v0 v1)]
def aGS (b:Nat) (x:Ag) (v0:Value):List Tk:=[tEx (aFV b x v0)]
def mL (b:Nat) (x:Ag):Tk:=tEx (aGS b x)
theorem rX {β:bL} {n:Nat} {ds:List Deferred} {Γ:Ctx} {Δ:List Tk} {F:Act->World->Prop} {b:Nat} {x:Ag} (h:∀ v0 v1 v2 v3 v4,T β n ds Γ (aA b 118 [fSl aD x.f.AF,fSl (bS .i64) x.f.AI,fSl aW x.f.AB,fSl aB x.f.AD,bI .i64 x.f.AG,fEq v0,fEq v1,fEq v2,fEq v3,fSl aD x.p.AF,fEq v4,fSl aB x.p.AD,bI .i64 x.p.AG,aH x.bad] :: aC v0 4 aR x.AP :: aC v1 27 (tSl (bS .i64)) x.AY :: aC v2 3 (bS .i64) x.Aa :: aC v3 27 (tSl (bS .i64)) x.AU :: aC v4 65 aJ x.p.AB :: Δ) F):T β n ds Γ (mL b x :: Δ) F:=gY (fun v0=>gY (fun v1=>gY (fun v2=>gY (fun v3=>gY (fun v4=>h v0 v1 v2 v3 v4)))))
theorem aH7 {β:bL} {n:Nat} {ds:List Deferred} {Γ:Ctx} {Δ:List Tk} {F:Act->World->Prop} {b:Nat} {x:Ag} {v0 v1 v2 v3 v4:Value} (h:T β n ds Γ (mL b x :: Δ) F):T β n ds Γ (aA b 118 [fSl aD x.f.AF,fSl (bS .i64) x.f.AI,fSl aW x.f.AB,fSl aB x.f.AD,bI .i64 x.f.AG,fEq v0,fEq v1,fEq v2,fEq v3,fSl aD x.p.AF,fEq v4,fSl aB x.p.AD,bI .i64 x.p.AG,aH x.bad] :: aC v0 4 aR x.AP :: aC v1 27 (tSl (bS .i64)) x.AY :: aC v2 3 (bS .i64) x.Aa :: aC v3 27 (tSl (bS .i64)) x.AU :: aC v4 65 aJ x.p.AB :: Δ) F:=gZ (f:=aEe b x v0 v1 v2 v3) v4 (gZ (f:=aF7 b x v0 v1 v2) v3 (gZ (f:=aFY b x v0 v1) v2 (gZ (f:=aFV b x v0) v1 (gZ (f:=aGS b x) v0 (h)))))
def aEY (b:Nat) (x:(List Int)) (v0:Value):List Tk:=[aA b 27 [fEq v0],aC v0 3 (bS .i64) x]
def aBd (b:Nat) (x:(List Int)):Tk:=tEx (aEY b x)
theorem aDQ {β:bL} {n:Nat} {ds:List Deferred} {Γ:Ctx} {Δ:List Tk} {F:Act->World->Prop} {b:Nat} {x:(List Int)} (h:∀ v0,T β n ds Γ (aA b 27 [fEq v0] :: aC v0 3 (bS .i64) x :: Δ) F):T β n ds Γ (aBd b x :: Δ) F:=gY (fun v0=>h v0)
theorem aDw {β:bL} {n:Nat} {ds:List Deferred} {Γ:Ctx} {Δ:List Tk} {F:Act->World->Prop} {b:Nat} {x:(List Int)} {v0:Value} (h:T β n ds Γ (aBd b x :: Δ) F):T β n ds Γ (aA b 27 [fEq v0] :: aC v0 3 (bS .i64) x :: Δ) F:=gZ (f:=aEY b x) v0 (h)
def usL:List (Nat × Nat):=[(22,9),(23,65),(24,77),(27,3),(28,54),(52,71),(73,135),(74,84),(75,81),(111,4)]
theorem usK:(usL.all fun p=>onb (slB Tryz.prog p.1) p.2)=true:=by kernel_rfl
theorem us {t e:Nat} (h:tb usL t=some e):gM Tryz.prog t (.slice e):=us_of usK h
def elL:List (Nat × Nat):=[(22,1),(23,4),(24,3),(27,1),(28,5),(45,1),(52,3),(73,2),(74,2),(75,3),(111,1)]
theorem elK:(elL.all fun p=>onb (wB Tryz.prog p.1) p.2)=true:=by kernel_rfl
theorem el {t e:Nat} (h:tb elL t=some e):nP Tryz.prog t e:=el_of elK h
def szL:List (Nat × Nat):=[(3,1),(4,1),(24,1),(26,4),(27,1),(31,1),(45,1),(52,1),(54,5),(55,1),(65,4),(71,3),(75,1),(77,3),(81,3),(84,2),(111,1),(135,2),(201,1),(234,1),(245,1),(276,1)]
theorem szK:(szL.all fun p=>onb (lS Tryz.prog p.1) p.2)=true:=by kernel_rfl
theorem sz {t e:Nat} (h:tb szL t=some e):hO Tryz.prog t e:=sz_of szK h
def agL:List (Nat × Nat):=[(26,4),(30,5),(54,5),(65,4),(71,3),(77,3),(81,3),(84,2),(135,2)]
theorem agK:(agL.all fun p=>aggB Tryz.prog p.1 p.2)=true:=by kernel_rfl
theorem ag {t e:Nat} (h:tb agL t=some e):kO Tryz.prog t e:=ag_of agK h
def scL:List (Nat):=[3,4,9,22,23,24,27,28,31,45,51,52,55,69,73,74,75,111,129,132,163,201,234,276]
theorem scK:(scL.all fun p=>scalB Tryz.prog p)=true:=by kernel_rfl
theorem sc {t:Nat} (h:(scL.any fun p=>Nat.beq p t)=true):Scal Tryz.prog t:=sc_of scK h
def cbL:List (Nat):=[10,11,12,13,14,15,16,21,22,23,24,25,27,29,31,32,33,34,35,37,38,45,46,47,48,49,50,51,52,53,54,55,56,57,58,59,60,61,62,63,67,68,76,77,78,79,80,81,82,83,84,85,86,87,90,91,92,106,107,108,109,110,111,112,113,114,115,116,117,118,119,120,121,122,123,124,136,137,138,150,151,152,153,154,155,162,163,164,165,174,175,176,177,178,179,202,203,204,218,236,237,238,239,240]
theorem cbK:(cbL.all fun p=>callB Tryz.prog p)=true:=by kernel_rfl
theorem cb {t:Nat} (h:(cbL.any fun p=>Nat.beq p t)=true):Au Tryz.prog t:=cb_of cbK h
def faL:List (Nat × Nat × Nat):=[(26,0,0),(26,1,1),(26,2,2),(26,3,3),(30,0,0),(30,1,1),(30,2,2),(30,3,3),(30,4,4),(54,0,0),(54,1,1),(54,2,2),(54,3,3),(54,4,4),(65,0,0),(65,1,1),(65,2,2),(65,3,3),(71,0,0),(71,1,1),(71,2,2),(77,0,0),(77,1,1),(77,2,2),(81,0,0),(81,1,1),(81,2,2),(84,0,0),(84,1,1),(113,0,0),(113,1,5),(113,2,6),(113,3,7),(113,4,8),(118,0,0),(118,1,5),(118,2,6),(118,3,7),(118,4,8),(118,5,9),(118,6,13),(122,0,0),(122,1,4),(122,2,5),(122,3,6),(122,4,7),(131,0,0),(131,1,4),(131,2,5),(131,3,6),(135,0,0),(135,1,1),(245,0,0)]
theorem faK:(faL.all fun p=>onb (aBx Tryz.prog p.1 p.2.1) p.2.2)=true:=by kernel_rfl
theorem fa {s f t:Nat} (h:tb3 faL s f=some t):sX Tryz.prog s f t:=fa_of faK h
def etL:List (Nat × Nat × Nat × Nat):=[(22,9,1,16),(23,65,4,64),(24,77,3,72),(27,3,1,8),(45,27,1,24),(52,71,3,40),(73,135,2,16),(74,84,2,16),(75,81,3,40),(111,4,1,1)]
theorem etK:(etL.all fun p=>elB Tryz.prog p.1 p.2.1 p.2.2.1 p.2.2.2)=true:=by kernel_rfl
theorem et {t e s b:Nat} (h:tb4 etL t=some (e,s,b)):ElT Tryz.prog t e s b:=et_of etK h
def aIM:List (Nat × Nat × Nat):=[(113,4,0),(118,5,0),(131,0,0)]
theorem ox {Γ:Ctx} {o:Oper} {φ:AK} (h:OpT Tryz.prog Γ [] o φ:=by first
 | exact o_fieldC dQ aIM rfl (by exact rfl) hh (fa rfl) (by exact rfl)
 | exact o_move rfl hh
 | exact o_load rfl hh (sc rfl) (by exact rfl)
 | exact cT rfl hh hh (el (by exact rfl)) (by with_reducible assumption)
 | exact o_len rfl hh (us rfl)
 | exact o_pick_f rfl hh cf hh
 | exact o_pick_t rfl hh ct hh
 | exact o_lss rfl hh hh
 | exact o_eql rfl hh hh
 | exact o_neq rfl hh hh
 | exact o_gtr rfl hh hh
 | exact o_leq rfl hh hh
 | exact o_geq rfl hh hh
 | exact o_add rfl hh hh (by with_reducible assumption)
 | exact aBK rfl hh
 | exact aJf rfl hh (by exact rfl)
 | exact o_not rfl hh
 | exact o_nilP rfl hh
 | exact o_nilE rfl hh
 | exact o_loadS rfl hh (ag (by exact rfl))
 | exact o_fieldB _ rfl hh (fa rfl) rfl
 | exact wS (t':=bS _) rfl hh (fa rfl) (by exact rfl)
 | exact wS (t':=tSl _) rfl hh (fa rfl) (by exact rfl)
 | exact wS (t':=aR) rfl hh (fa rfl) (by exact rfl)
 | exact wS (t':=aD) rfl hh (fa rfl) (by exact rfl)
 | exact wS (t':=tRaw) rfl hh (fa rfl) (by exact rfl)
 | exact o_sub rfl hh hh (by with_reducible assumption)
 | exact o_mul rfl hh hh (by with_reducible assumption)
 | exact o_shr rfl hh hh (by with_reducible assumption)
 | exact o_min rfl hh hh
 | exact o_mulW rfl hh hh
 | exact o_addW rfl hh hh
 | exact o_and rfl hh hh):OpT Tryz.prog Γ [] o φ:=h
theorem oo {Γ:Ctx} {o:Oper} {φ:AK} {τ:Tk} (h:OpT Tryz.prog Γ [τ] o φ:=by first
 | exact eU rfl hh (sc rfl) (by exact rfl) Ent.rfl
 | exact o_loadBS rfl hh (ag (by exact rfl)) (by exact rfl) (by exact rfl)
 | exact jO rfl hh hh (el (by exact rfl)) (by with_reducible assumption)
 | exact o_lenR rfl hh (us rfl)):OpT Tryz.prog Γ [τ] o φ:=h
theorem Z1 {P Q:Prop} (q:Q) (h:cE Q->P:=by
 intro q
 first
 | refine Nn ?_
 | refine Ym ?_
 | refine Sr ?_
 | refine Ya ?_
 | refine Zy (by exact trivial) ox (by exact rfl) (by exact rfl) ?_
 | refine Zk (by exact⟨_,_,rfl,rfl,rfl⟩) cn (by exact rfl) (by exact rfl) ?_
 | refine Zg (by exact⟨_,_,rfl,rfl,rfl⟩) cc ox (by exact rfl) (by exact rfl) ?_
 | refine aGi ?_
 | refine T_cond_t hh ct ?_
 | refine T_cond_f hh cf ?_
 | refine Rr ?_
 | refine aFA ?_
 | refine T_in_ret ?_
 | refine aKB ?_
 | refine T_skip ?_
 | refine T_block ?_
 | refine aFv ?_
 | refine T_in_n ?_
 | refine T_exit ?_
 | refine T_in_hit ?_
 | refine T_in_miss rfl ?_
 | refine T_retc ?_
 | refine N_done rfl ?_
 | refine aLM ?_
 | refine aKx ?_
 | refine T_nil ?_
 | refine Zo 0 (by exact trivial) (by exact rfl) oo (by exact rfl) (by exact rfl) ?_
 | refine Zo 1 (by exact trivial) (by exact rfl) oo (by exact rfl) (by exact rfl) ?_
 | refine Zo 2 (by exact trivial) (by exact rfl) oo (by exact rfl) (by exact rfl) ?_
 | refine Zo 3 (by exact trivial) (by exact rfl) oo (by exact rfl) (by exact rfl) ?_
 | refine Zo 4 (by exact trivial) (by exact rfl) oo (by exact rfl) (by exact rfl) ?_
 | refine Zo 5 (by exact trivial) (by exact rfl) oo (by exact rfl) (by exact rfl) ?_
 | refine Zo 6 (by exact trivial) (by exact rfl) oo (by exact rfl) (by exact rfl) ?_
 | refine Zo 7 (by exact trivial) (by exact rfl) oo (by exact rfl) (by exact rfl) ?_
 | refine Zh 0 (by exact⟨_,_,rfl,rfl,rfl⟩) cc (by exact rfl) oo (by exact rfl) (by exact rfl) ?_
 | refine Zh 1 (by exact⟨_,_,rfl,rfl,rfl⟩) cc (by exact rfl) oo (by exact rfl) (by exact rfl) ?_
 | refine Zh 2 (by exact⟨_,_,rfl,rfl,rfl⟩) cc (by exact rfl) oo (by exact rfl) (by exact rfl) ?_
 | refine Zh 3 (by exact⟨_,_,rfl,rfl,rfl⟩) cc (by exact rfl) oo (by exact rfl) (by exact rfl) ?_
 | refine Zh 4 (by exact⟨_,_,rfl,rfl,rfl⟩) cc (by exact rfl) oo (by exact rfl) (by exact rfl) ?_
 | refine Zh 5 (by exact⟨_,_,rfl,rfl,rfl⟩) cc (by exact rfl) oo (by exact rfl) (by exact rfl) ?_
 | refine Zh 6 (by exact⟨_,_,rfl,rfl,rfl⟩) cc (by exact rfl) oo (by exact rfl) (by exact rfl) ?_
 | refine Zh 7 (by exact⟨_,_,rfl,rfl,rfl⟩) cc (by exact rfl) oo (by exact rfl) (by exact rfl) ?_
 exact q.h):P:=h ⟨q⟩
theorem Z2 {P Q:Prop} (q:Q) (h:cE Q->P:=by
 intro q
 refine Z1 ?_
 refine Z1 ?_
 exact q.h):P:=h ⟨q⟩
theorem Z3 {P Q:Prop} (q:Q) (h:cE Q->P:=by
 intro q
 refine Z1 ?_
 refine Z1 ?_
 refine Z1 ?_
 exact q.h):P:=h ⟨q⟩
theorem Z4 {P Q:Prop} (q:Q) (h:cE Q->P:=by
 intro q
 refine Z1 ?_
 refine Z1 ?_
 refine Z1 ?_
 refine Z1 ?_
 exact q.h):P:=h ⟨q⟩
theorem Z5 {P Q:Prop} (q:Q) (h:cE Q->P:=by
 intro q
 refine Z2 ?_
 refine Z3 ?_
 exact q.h):P:=h ⟨q⟩
theorem Z6 {P Q:Prop} (q:Q) (h:cE Q->P:=by
 intro q
 refine Z3 ?_
 refine Z3 ?_
 exact q.h):P:=h ⟨q⟩
theorem Z7 {P Q:Prop} (q:Q) (h:cE Q->P:=by
 intro q
 refine Z3 ?_
 refine Z4 ?_
 exact q.h):P:=h ⟨q⟩
theorem Z8 {P Q:Prop} (q:Q) (h:cE Q->P:=by
 intro q
 refine Z4 ?_
 refine Z4 ?_
 exact q.h):P:=h ⟨q⟩
theorem Z9 {P Q:Prop} (q:Q) (h:cE Q->P:=by
 intro q
 refine Z4 ?_
 refine Z5 ?_
 exact q.h):P:=h ⟨q⟩
theorem Z10 {P Q:Prop} (q:Q) (h:cE Q->P:=by
 intro q
 refine Z5 ?_
 refine Z5 ?_
 exact q.h):P:=h ⟨q⟩
theorem Z11 {P Q:Prop} (q:Q) (h:cE Q->P:=by
 intro q
 refine Z5 ?_
 refine Z6 ?_
 exact q.h):P:=h ⟨q⟩
theorem Z12 {P Q:Prop} (q:Q) (h:cE Q->P:=by
 intro q
 refine Z6 ?_
 refine Z6 ?_
 exact q.h):P:=h ⟨q⟩
theorem B1 {α γ:Type} {o:Option α} {f:α->Option γ} {r:γ} {P Q:Prop} (e:o.bind f=some r) (q:∀ x,o=some x->f x=some r->Q) (h:cE Q->P:=by
 intro q
 refine Z1 ?_
 exact q.h):P:=bs (fun x a b=>h ⟨q x a b⟩) e
theorem B1z {α γ:Type} {o:Option α} {f:α->Option γ} {r:γ} {P Q:Prop} (q:∀ x,o=some x->f x=some r->Q) (h:cE Q->P:=by
 intro q
 refine Z1 ?_
 exact q.h) (e:o.bind f=some r):P:=bs (fun x a b=>h ⟨q x a b⟩) e
theorem I1z {γ:Type} {p:Prop} [Decidable p] {a b:Option γ} {r:γ} {P Q:Prop} (k:decide p=true->a=some r->Q) (k':decide p=false->b=some r->Q) (h:cE Q->P:=by
 intro q
 refine Z1 ?_
 exact q.h) (e:(if p then a else b)=some r):P:=is (fun c a=>h ⟨k c a⟩) (fun c a=>h ⟨k' c a⟩) e
theorem B2 {α γ:Type} {o:Option α} {f:α->Option γ} {r:γ} {P Q:Prop} (e:o.bind f=some r) (q:∀ x,o=some x->f x=some r->Q) (h:cE Q->P:=by
 intro q
 refine Z2 ?_
 exact q.h):P:=bs (fun x a b=>h ⟨q x a b⟩) e
theorem I2 {γ:Type} {p:Prop} [Decidable p] {a b:Option γ} {r:γ} {P Q:Prop} (e:(if p then a else b)=some r) (k:decide p=true->a=some r->Q) (k':decide p=false->b=some r->Q) (h:cE Q->P:=by
 intro q
 refine Z2 ?_
 exact q.h):P:=is (fun c a=>h ⟨k c a⟩) (fun c a=>h ⟨k' c a⟩) e
theorem B2z {α γ:Type} {o:Option α} {f:α->Option γ} {r:γ} {P Q:Prop} (q:∀ x,o=some x->f x=some r->Q) (h:cE Q->P:=by
 intro q
 refine Z2 ?_
 exact q.h) (e:o.bind f=some r):P:=bs (fun x a b=>h ⟨q x a b⟩) e
theorem I2z {γ:Type} {p:Prop} [Decidable p] {a b:Option γ} {r:γ} {P Q:Prop} (k:decide p=true->a=some r->Q) (k':decide p=false->b=some r->Q) (h:cE Q->P:=by
 intro q
 refine Z2 ?_
 exact q.h) (e:(if p then a else b)=some r):P:=is (fun c a=>h ⟨k c a⟩) (fun c a=>h ⟨k' c a⟩) e
theorem B3 {α γ:Type} {o:Option α} {f:α->Option γ} {r:γ} {P Q:Prop} (e:o.bind f=some r) (q:∀ x,o=some x->f x=some r->Q) (h:cE Q->P:=by
 intro q
 refine Z3 ?_
 exact q.h):P:=bs (fun x a b=>h ⟨q x a b⟩) e
theorem I3 {γ:Type} {p:Prop} [Decidable p] {a b:Option γ} {r:γ} {P Q:Prop} (e:(if p then a else b)=some r) (k:decide p=true->a=some r->Q) (k':decide p=false->b=some r->Q) (h:cE Q->P:=by
 intro q
 refine Z3 ?_
 exact q.h):P:=is (fun c a=>h ⟨k c a⟩) (fun c a=>h ⟨k' c a⟩) e
theorem B3z {α γ:Type} {o:Option α} {f:α->Option γ} {r:γ} {P Q:Prop} (q:∀ x,o=some x->f x=some r->Q) (h:cE Q->P:=by
 intro q
 refine Z3 ?_
 exact q.h) (e:o.bind f=some r):P:=bs (fun x a b=>h ⟨q x a b⟩) e
theorem I3z {γ:Type} {p:Prop} [Decidable p] {a b:Option γ} {r:γ} {P Q:Prop} (k:decide p=true->a=some r->Q) (k':decide p=false->b=some r->Q) (h:cE Q->P:=by
 intro q
 refine Z3 ?_
 exact q.h) (e:(if p then a else b)=some r):P:=is (fun c a=>h ⟨k c a⟩) (fun c a=>h ⟨k' c a⟩) e
theorem B4 {α γ:Type} {o:Option α} {f:α->Option γ} {r:γ} {P Q:Prop} (e:o.bind f=some r) (q:∀ x,o=some x->f x=some r->Q) (h:cE Q->P:=by
 intro q
 refine Z4 ?_
 exact q.h):P:=bs (fun x a b=>h ⟨q x a b⟩) e
theorem I4 {γ:Type} {p:Prop} [Decidable p] {a b:Option γ} {r:γ} {P Q:Prop} (e:(if p then a else b)=some r) (k:decide p=true->a=some r->Q) (k':decide p=false->b=some r->Q) (h:cE Q->P:=by
 intro q
 refine Z4 ?_
 exact q.h):P:=is (fun c a=>h ⟨k c a⟩) (fun c a=>h ⟨k' c a⟩) e
theorem B4z {α γ:Type} {o:Option α} {f:α->Option γ} {r:γ} {P Q:Prop} (q:∀ x,o=some x->f x=some r->Q) (h:cE Q->P:=by
 intro q
 refine Z4 ?_
 exact q.h) (e:o.bind f=some r):P:=bs (fun x a b=>h ⟨q x a b⟩) e
theorem I4z {γ:Type} {p:Prop} [Decidable p] {a b:Option γ} {r:γ} {P Q:Prop} (k:decide p=true->a=some r->Q) (k':decide p=false->b=some r->Q) (h:cE Q->P:=by
 intro q
 refine Z4 ?_
 exact q.h) (e:(if p then a else b)=some r):P:=is (fun c a=>h ⟨k c a⟩) (fun c a=>h ⟨k' c a⟩) e
theorem B5 {α γ:Type} {o:Option α} {f:α->Option γ} {r:γ} {P Q:Prop} (e:o.bind f=some r) (q:∀ x,o=some x->f x=some r->Q) (h:cE Q->P:=by
 intro q
 refine Z5 ?_
 exact q.h):P:=bs (fun x a b=>h ⟨q x a b⟩) e
theorem I5 {γ:Type} {p:Prop} [Decidable p] {a b:Option γ} {r:γ} {P Q:Prop} (e:(if p then a else b)=some r) (k:decide p=true->a=some r->Q) (k':decide p=false->b=some r->Q) (h:cE Q->P:=by
 intro q
 refine Z5 ?_
 exact q.h):P:=is (fun c a=>h ⟨k c a⟩) (fun c a=>h ⟨k' c a⟩) e
theorem B5z {α γ:Type} {o:Option α} {f:α->Option γ} {r:γ} {P Q:Prop} (q:∀ x,o=some x->f x=some r->Q) (h:cE Q->P:=by
 intro q
 refine Z5 ?_
 exact q.h) (e:o.bind f=some r):P:=bs (fun x a b=>h ⟨q x a b⟩) e
theorem I5z {γ:Type} {p:Prop} [Decidable p] {a b:Option γ} {r:γ} {P Q:Prop} (k:decide p=true->a=some r->Q) (k':decide p=false->b=some r->Q) (h:cE Q->P:=by
 intro q
 refine Z5 ?_
 exact q.h) (e:(if p then a else b)=some r):P:=is (fun c a=>h ⟨k c a⟩) (fun c a=>h ⟨k' c a⟩) e
theorem B6 {α γ:Type} {o:Option α} {f:α->Option γ} {r:γ} {P Q:Prop} (e:o.bind f=some r) (q:∀ x,o=some x->f x=some r->Q) (h:cE Q->P:=by
 intro q
 refine Z6 ?_
 exact q.h):P:=bs (fun x a b=>h ⟨q x a b⟩) e
theorem I6 {γ:Type} {p:Prop} [Decidable p] {a b:Option γ} {r:γ} {P Q:Prop} (e:(if p then a else b)=some r) (k:decide p=true->a=some r->Q) (k':decide p=false->b=some r->Q) (h:cE Q->P:=by
 intro q
 refine Z6 ?_
 exact q.h):P:=is (fun c a=>h ⟨k c a⟩) (fun c a=>h ⟨k' c a⟩) e
theorem B6z {α γ:Type} {o:Option α} {f:α->Option γ} {r:γ} {P Q:Prop} (q:∀ x,o=some x->f x=some r->Q) (h:cE Q->P:=by
 intro q
 refine Z6 ?_
 exact q.h) (e:o.bind f=some r):P:=bs (fun x a b=>h ⟨q x a b⟩) e
theorem I6z {γ:Type} {p:Prop} [Decidable p] {a b:Option γ} {r:γ} {P Q:Prop} (k:decide p=true->a=some r->Q) (k':decide p=false->b=some r->Q) (h:cE Q->P:=by
 intro q
 refine Z6 ?_
 exact q.h) (e:(if p then a else b)=some r):P:=is (fun c a=>h ⟨k c a⟩) (fun c a=>h ⟨k' c a⟩) e
theorem B7 {α γ:Type} {o:Option α} {f:α->Option γ} {r:γ} {P Q:Prop} (e:o.bind f=some r) (q:∀ x,o=some x->f x=some r->Q) (h:cE Q->P:=by
 intro q
 refine Z7 ?_
 exact q.h):P:=bs (fun x a b=>h ⟨q x a b⟩) e
theorem I7 {γ:Type} {p:Prop} [Decidable p] {a b:Option γ} {r:γ} {P Q:Prop} (e:(if p then a else b)=some r) (k:decide p=true->a=some r->Q) (k':decide p=false->b=some r->Q) (h:cE Q->P:=by
 intro q
 refine Z7 ?_
 exact q.h):P:=is (fun c a=>h ⟨k c a⟩) (fun c a=>h ⟨k' c a⟩) e
theorem B7z {α γ:Type} {o:Option α} {f:α->Option γ} {r:γ} {P Q:Prop} (q:∀ x,o=some x->f x=some r->Q) (h:cE Q->P:=by
 intro q
 refine Z7 ?_
 exact q.h) (e:o.bind f=some r):P:=bs (fun x a b=>h ⟨q x a b⟩) e
theorem I7z {γ:Type} {p:Prop} [Decidable p] {a b:Option γ} {r:γ} {P Q:Prop} (k:decide p=true->a=some r->Q) (k':decide p=false->b=some r->Q) (h:cE Q->P:=by
 intro q
 refine Z7 ?_
 exact q.h) (e:(if p then a else b)=some r):P:=is (fun c a=>h ⟨k c a⟩) (fun c a=>h ⟨k' c a⟩) e
theorem B8 {α γ:Type} {o:Option α} {f:α->Option γ} {r:γ} {P Q:Prop} (e:o.bind f=some r) (q:∀ x,o=some x->f x=some r->Q) (h:cE Q->P:=by
 intro q
 refine Z8 ?_
 exact q.h):P:=bs (fun x a b=>h ⟨q x a b⟩) e
theorem B8z {α γ:Type} {o:Option α} {f:α->Option γ} {r:γ} {P Q:Prop} (q:∀ x,o=some x->f x=some r->Q) (h:cE Q->P:=by
 intro q
 refine Z8 ?_
 exact q.h) (e:o.bind f=some r):P:=bs (fun x a b=>h ⟨q x a b⟩) e
theorem I8z {γ:Type} {p:Prop} [Decidable p] {a b:Option γ} {r:γ} {P Q:Prop} (k:decide p=true->a=some r->Q) (k':decide p=false->b=some r->Q) (h:cE Q->P:=by
 intro q
 refine Z8 ?_
 exact q.h) (e:(if p then a else b)=some r):P:=is (fun c a=>h ⟨k c a⟩) (fun c a=>h ⟨k' c a⟩) e
theorem B9 {α γ:Type} {o:Option α} {f:α->Option γ} {r:γ} {P Q:Prop} (e:o.bind f=some r) (q:∀ x,o=some x->f x=some r->Q) (h:cE Q->P:=by
 intro q
 refine Z9 ?_
 exact q.h):P:=bs (fun x a b=>h ⟨q x a b⟩) e
theorem I9 {γ:Type} {p:Prop} [Decidable p] {a b:Option γ} {r:γ} {P Q:Prop} (e:(if p then a else b)=some r) (k:decide p=true->a=some r->Q) (k':decide p=false->b=some r->Q) (h:cE Q->P:=by
 intro q
 refine Z9 ?_
 exact q.h):P:=is (fun c a=>h ⟨k c a⟩) (fun c a=>h ⟨k' c a⟩) e
theorem B9z {α γ:Type} {o:Option α} {f:α->Option γ} {r:γ} {P Q:Prop} (q:∀ x,o=some x->f x=some r->Q) (h:cE Q->P:=by
 intro q
 refine Z9 ?_
 exact q.h) (e:o.bind f=some r):P:=bs (fun x a b=>h ⟨q x a b⟩) e
theorem I9z {γ:Type} {p:Prop} [Decidable p] {a b:Option γ} {r:γ} {P Q:Prop} (k:decide p=true->a=some r->Q) (k':decide p=false->b=some r->Q) (h:cE Q->P:=by
 intro q
 refine Z9 ?_
 exact q.h) (e:(if p then a else b)=some r):P:=is (fun c a=>h ⟨k c a⟩) (fun c a=>h ⟨k' c a⟩) e
theorem B10 {α γ:Type} {o:Option α} {f:α->Option γ} {r:γ} {P Q:Prop} (e:o.bind f=some r) (q:∀ x,o=some x->f x=some r->Q) (h:cE Q->P:=by
 intro q
 refine Z10 ?_
 exact q.h):P:=bs (fun x a b=>h ⟨q x a b⟩) e
theorem I10 {γ:Type} {p:Prop} [Decidable p] {a b:Option γ} {r:γ} {P Q:Prop} (e:(if p then a else b)=some r) (k:decide p=true->a=some r->Q) (k':decide p=false->b=some r->Q) (h:cE Q->P:=by
 intro q
 refine Z10 ?_
 exact q.h):P:=is (fun c a=>h ⟨k c a⟩) (fun c a=>h ⟨k' c a⟩) e
theorem dS {α γ:Type} {o:Option α} {f:α->Option γ} {r:γ} {P Q:Prop} (q:∀ x,o=some x->f x=some r->Q) (h:cE Q->P:=by
 intro q
 refine Z10 ?_
 exact q.h) (e:o.bind f=some r):P:=bs (fun x a b=>h ⟨q x a b⟩) e
theorem I10z {γ:Type} {p:Prop} [Decidable p] {a b:Option γ} {r:γ} {P Q:Prop} (k:decide p=true->a=some r->Q) (k':decide p=false->b=some r->Q) (h:cE Q->P:=by
 intro q
 refine Z10 ?_
 exact q.h) (e:(if p then a else b)=some r):P:=is (fun c a=>h ⟨k c a⟩) (fun c a=>h ⟨k' c a⟩) e
theorem B11z {α γ:Type} {o:Option α} {f:α->Option γ} {r:γ} {P Q:Prop} (q:∀ x,o=some x->f x=some r->Q) (h:cE Q->P:=by
 intro q
 refine Z11 ?_
 exact q.h) (e:o.bind f=some r):P:=bs (fun x a b=>h ⟨q x a b⟩) e
theorem I11z {γ:Type} {p:Prop} [Decidable p] {a b:Option γ} {r:γ} {P Q:Prop} (k:decide p=true->a=some r->Q) (k':decide p=false->b=some r->Q) (h:cE Q->P:=by
 intro q
 refine Z11 ?_
 exact q.h) (e:(if p then a else b)=some r):P:=is (fun c a=>h ⟨k c a⟩) (fun c a=>h ⟨k' c a⟩) e
theorem B12 {α γ:Type} {o:Option α} {f:α->Option γ} {r:γ} {P Q:Prop} (e:o.bind f=some r) (q:∀ x,o=some x->f x=some r->Q) (h:cE Q->P:=by
 intro q
 refine Z12 ?_
 exact q.h):P:=bs (fun x a b=>h ⟨q x a b⟩) e
theorem B12z {α γ:Type} {o:Option α} {f:α->Option γ} {r:γ} {P Q:Prop} (q:∀ x,o=some x->f x=some r->Q) (h:cE Q->P:=by
 intro q
 refine Z12 ?_
 exact q.h) (e:o.bind f=some r):P:=bs (fun x a b=>h ⟨q x a b⟩) e
theorem bz {α γ:Type} {o:Option α} {f:α->Option γ} {r:γ} {G:Prop} (h:o.bind f=some r) (k:∀ x,o=some x->f x=some r->G):G:=bs k h
theorem iz {γ:Type} {p:Prop} [Decidable p] {a b:Option γ} {r:γ} {G:Prop} (h:(if p then a else b)=some r) (k:decide p=true->a=some r->G) (k':decide p=false->b=some r->G):G:=is k k' h
theorem cz {γ:Type} {c:Bool} {a b:Option γ} {r:γ} {G:Prop} (h:(bif c then a else b)=some r) (k:c=true->a=some r->G) (k':c=false->b=some r->G):G:=cs k k' h
theorem eM {β:bL} {n:Nat} {ds:List Deferred} {Γ:Ctx} {Δ:List Tk} {F:Act->World->Prop} {b:Nat} {z0:List ByteArray} {z1:List Int} {z2:List Ao} {z3:List AN} {z4:Int} {z5:List (List Int)} {z6:List (List Int)} {z7:List Bool} {z8:List ByteArray} {z9:List AZ} {z10:List AN} {z11:Int} {v0 v1 v2 v3:Value} (h:T β n ds Γ (kD b (⟨(⟨z0,z1,z2,z3,z4⟩:AH),z5,z6,z7,(⟨z8,z9,z10,z11⟩:AJ)⟩:Ai) :: Δ) F):T β n ds Γ (aA b 113 [fSl aD z0,fSl (bS .i64) z1,fSl aW z2,fSl aB z3,bI .i64 z4,fEq v0,fEq v1,fEq v2,fSl aD z8,fEq v3,fSl aB z10,bI .i64 z11] :: aC v0 27 (tSl (bS .i64)) z5 :: aC v1 27 (tSl (bS .i64)) z6 :: aC v2 4 aR z7 :: aC v3 65 aJ z9 :: Δ) F:=aKT (x:=(⟨(⟨z0,z1,z2,z3,z4⟩:AH),z5,z6,z7,(⟨z8,z9,z10,z11⟩:AJ)⟩:Ai)) h
theorem zL {β:bL} {n:Nat} {ds:List Deferred} {Γ:Ctx} {Δ:List Tk} {F:Act->World->Prop} {b:Nat} {z0:List ByteArray} {z1:List AZ} {z2:List AN} {z3:Int} {z4:List Int} {z5:List Bool} {z6:List Bool} {v0 v1 v2:Value} (h:T β n ds Γ (aAv b (⟨(⟨z0,z1,z2,z3⟩:AJ),z4,z5,z6⟩:Af) :: Δ) F):T β n ds Γ (aA b 131 [fSl aD z0,fSl aJ z1,fSl aB z2,bI .i64 z3,fEq v0,fEq v1,fEq v2] :: aC v0 3 (bS .i64) z4 :: aC v1 4 aR z5 :: aC v2 4 aR z6 :: Δ) F:=aJM (x:=(⟨(⟨z0,z1,z2,z3⟩:AJ),z4,z5,z6⟩:Af)) h
theorem fZ {β:bL} {n:Nat} {ds:List Deferred} {Γ:Ctx} {Δ:List Tk} {F:Act->World->Prop} {b:Nat} {z0:List ByteArray} {z1:List AZ} {z2:List AN} {z3:Int} {z4:List Int} {z5:List Int} {z6:List Int} {z7:Bool} {v0 v1 v2:Value} (h:T β n ds Γ (mE b (⟨(⟨z0,z1,z2,z3⟩:AJ),z4,z5,z6,z7⟩:Aj) :: Δ) F):T β n ds Γ (aA b 122 [fSl aD z0,fSl aJ z1,fSl aB z2,bI .i64 z3,fEq v0,fEq v1,fEq v2,aH z7] :: aC v0 3 (bS .i64) z4 :: aC v1 3 (bS .i64) z5 :: aC v2 3 (bS .i64) z6 :: Δ) F:=aIC (x:=(⟨(⟨z0,z1,z2,z3⟩:AJ),z4,z5,z6,z7⟩:Aj)) h
theorem fC {β:bL} {n:Nat} {ds:List Deferred} {Γ:Ctx} {Δ:List Tk} {F:Act->World->Prop} {b:Nat} {z0:List ByteArray} {z1:List Int} {z2:List Ao} {z3:List AN} {z4:Int} {z5:List Bool} {z6:List (List Int)} {z7:List Int} {z8:List (List Int)} {z9:List ByteArray} {z10:List AZ} {z11:List AN} {z12:Int} {z13:Bool} {v0 v1 v2 v3 v4:Value} (h:T β n ds Γ (mL b (⟨(⟨z0,z1,z2,z3,z4⟩:AH),z5,z6,z7,z8,(⟨z9,z10,z11,z12⟩:AJ),z13⟩:Ag) :: Δ) F):T β n ds Γ (aA b 118 [fSl aD z0,fSl (bS .i64) z1,fSl aW z2,fSl aB z3,bI .i64 z4,fEq v0,fEq v1,fEq v2,fEq v3,fSl aD z9,fEq v4,fSl aB z11,bI .i64 z12,aH z13] :: aC v0 4 aR z5 :: aC v1 27 (tSl (bS .i64)) z6 :: aC v2 3 (bS .i64) z7 :: aC v3 27 (tSl (bS .i64)) z8 :: aC v4 65 aJ z10 :: Δ) F:=aH7 (x:=(⟨(⟨z0,z1,z2,z3,z4⟩:AH),z5,z6,z7,z8,(⟨z9,z10,z11,z12⟩:AJ),z13⟩:Ag)) h
theorem rc {β:bL} {n:Nat} {ds:List Deferred} {Γ:Ctx} {Δ:List Tk} {F:Act->World->Prop} {α:Type} {t:Ty α} {v:Value} {e:TypeId} {xs:List α} (i:Nat) (k:eH v->T β n ds Γ Δ F) (hi:Δ[i]? =some (aC v e t xs):=by exact rfl):T β n ds Γ Δ F:=aJx i hi k
theorem Th {P:Program} {β:bL} {n:Nat} {ds:List Deferred} {Γ:Ctx} {Δ:List Tk} {r:Option Nat} {Q:Exit->Act->World->Prop} {ι:Type} {c:Code} (ok:Nat × ι->Prop) (Γf:Nat × ι->Ctx) (Δf:Nat × ι->List Tk) (i₀:Nat × ι) (h₀:ok i₀) (z:∀ i,ok (0,i)->False) (round:∀ k i,ok (k+1,i)->T β n ds (Γf (k+1,i)) (Δf (k+1,i)) (c.wpIn (fw r) 0 P (Exit.then (fun a w=>∃ j,(ok j/\j.1<k+1)/\AtT β n ds (Γf j) (Δf j) a w) Q))) (hs:fM (Γf i₀) Γ:=by exact sb) (hd:Δ=Δf i₀:=by exact rfl):T β n ds Γ Δ ((Code.loop c).wpIn (fw r) 0 P Q):=T_loop ok (fun i=>i.1) Γf Δf i₀ h₀ hs hd fun i=>match i with | (0,j)=>fun h=>(z j h).elim | (k+1,j)=>round k j
theorem ND {P Q:Prop} (q:Q) (h:cE Q->P:=by
 intro q
 dsimp only [iI,List.take,List.replicate,List.append,List.drop]
 exact q.h):P:=h ⟨q⟩
theorem M1 {P Q:Prop} (q:Q) (h:cE Q->P:=by
 intro q
 first
 | refine Ny (by exact trivial) ox (by exact rfl) ?_
 | refine Nk (by exact⟨_,_,rfl,rfl,rfl⟩) cn (by exact rfl) ?_
 | refine Ng (by exact⟨_,_,rfl,rfl,rfl⟩) cc ox (by exact rfl) ?_
 | refine No 0 (by exact trivial) (by exact rfl) oo (by exact rfl) ?_
 | refine No 1 (by exact trivial) (by exact rfl) oo (by exact rfl) ?_
 | refine No 2 (by exact trivial) (by exact rfl) oo (by exact rfl) ?_
 | refine No 3 (by exact trivial) (by exact rfl) oo (by exact rfl) ?_
 | refine No 4 (by exact trivial) (by exact rfl) oo (by exact rfl) ?_
 | refine No 5 (by exact trivial) (by exact rfl) oo (by exact rfl) ?_
 | refine No 6 (by exact trivial) (by exact rfl) oo (by exact rfl) ?_
 | refine No 7 (by exact trivial) (by exact rfl) oo (by exact rfl) ?_
 | refine Nh 0 (by exact⟨_,_,rfl,rfl,rfl⟩) cc (by exact rfl) oo (by exact rfl) ?_
 | refine Nh 1 (by exact⟨_,_,rfl,rfl,rfl⟩) cc (by exact rfl) oo (by exact rfl) ?_
 | refine Nh 2 (by exact⟨_,_,rfl,rfl,rfl⟩) cc (by exact rfl) oo (by exact rfl) ?_
 | refine Nh 3 (by exact⟨_,_,rfl,rfl,rfl⟩) cc (by exact rfl) oo (by exact rfl) ?_
 | refine Nh 4 (by exact⟨_,_,rfl,rfl,rfl⟩) cc (by exact rfl) oo (by exact rfl) ?_
 | refine Nh 5 (by exact⟨_,_,rfl,rfl,rfl⟩) cc (by exact rfl) oo (by exact rfl) ?_
 | refine Nh 6 (by exact⟨_,_,rfl,rfl,rfl⟩) cc (by exact rfl) oo (by exact rfl) ?_
 | refine Nh 7 (by exact⟨_,_,rfl,rfl,rfl⟩) cc (by exact rfl) oo (by exact rfl) ?_
 exact q.h):P:=h ⟨q⟩
theorem M2 {P Q:Prop} (q:Q) (h:cE Q->P:=by
 intro q
 refine M1 ?_
 intro b1
 refine M1 ?_
 revert b1
 exact q.h):P:=h ⟨q⟩
theorem M3 {P Q:Prop} (q:Q) (h:cE Q->P:=by
 intro q
 refine M1 ?_
 intro b1
 refine M1 ?_
 intro b2
 refine M1 ?_
 revert b1 b2
 exact q.h):P:=h ⟨q⟩
theorem M4 {P Q:Prop} (q:Q) (h:cE Q->P:=by
 intro q
 refine M1 ?_
 intro b1
 refine M1 ?_
 intro b2
 refine M1 ?_
 intro b3
 refine M1 ?_
 revert b1 b2 b3
 exact q.h):P:=h ⟨q⟩
theorem M5 {P Q:Prop} (q:Q) (h:cE Q->P:=by
 intro q
 refine M1 ?_
 intro b1
 refine M1 ?_
 intro b2
 refine M1 ?_
 intro b3
 refine M1 ?_
 intro b4
 refine M1 ?_
 revert b1 b2 b3 b4
 exact q.h):P:=h ⟨q⟩
theorem M6 {P Q:Prop} (q:Q) (h:cE Q->P:=by
 intro q
 refine M1 ?_
 intro b1
 refine M1 ?_
 intro b2
 refine M1 ?_
 intro b3
 refine M1 ?_
 intro b4
 refine M1 ?_
 intro b5
 refine M1 ?_
 revert b1 b2 b3 b4 b5
 exact q.h):P:=h ⟨q⟩
theorem M7 {P Q:Prop} (q:Q) (h:cE Q->P:=by
 intro q
 refine M1 ?_
 intro b1
 refine M1 ?_
 intro b2
 refine M1 ?_
 intro b3
 refine M1 ?_
 intro b4
 refine M1 ?_
 intro b5
 refine M1 ?_
 intro b6
 refine M1 ?_
 revert b1 b2 b3 b4 b5 b6
 exact q.h):P:=h ⟨q⟩
theorem M8 {P Q:Prop} (q:Q) (h:cE Q->P:=by
 intro q
 refine M1 ?_
 intro b1
 refine M1 ?_
 intro b2
 refine M1 ?_
 intro b3
 refine M1 ?_
 intro b4
 refine M1 ?_
 intro b5
 refine M1 ?_
 intro b6
 refine M1 ?_
 intro b7
 refine M1 ?_
 revert b1 b2 b3 b4 b5 b6 b7
 exact q.h):P:=h ⟨q⟩
open Go.SX Go.SW Go.Dt
attribute [local irreducible] Code.wpIn wpListIn Exit.then Exit.inBlock
def aA5 (a0:List ByteArray):Option (List ByteArray):=
 (cQ (([]:List ByteArray)++a0)).bind fun z1=>
 some z1
theorem aJO  (a0:List ByteArray) (r:List ByteArray) (H:aA5 a0=some r):FnS Tryz.prog 23 [fSl aD a0] [] (fSl aD r) (fun _=>[]):=by
 unfold aA5 at H
 refine bB Tryz.func23 rfl Tryz.ntmps23 rfl (fun β=>?_)
 refine Z3 ?_
 refine aG ?_
 refine Z2 ?_
 refine Yy (aAW rfl hh (us rfl)) ?_
 refine Z1 ?_
 refine aBV (has rfl) (fun hx=>?_) ?_
 replace H:some []=some r:=by subst hx;exact H
 refine Z4 ?_
 cases H
 exact fV rfl (fF rfl cC) rfl
 refine Z3 ?_
 refine Tn (eQ (t:=aD) (xs:=([]:List ByteArray)) rfl (et rfl) bY.nil rfl rfl rfl) fun b1=>?_
 generalize (Value.slice (some ⟨b1,0,none⟩) _ _)=v1
 refine rc 0 fun _=>?_
 refine B1 H fun z1 h1 H=>?_
 refine iX (ys:=a0) a1F rfl rfl rfl (has rfl) (has rfl) (et rfl) rfl h1 (fun v2=>?_)
 refine rc 0 fun _=>?_
 refine Z3 ?_
 refine bT (φ:=fSl aD z1) (v:=v2) [2,7] cM fz ?_
 refine bQ ?_
 cases H
 exact To
def jR (a0:List Int):Option (List Int):=
 (cQ (([]:List Int)++a0)).bind fun z1=>
 some z1
theorem aHp  (a0:List Int) (r:List Int) (H:jR a0=some r):FnS Tryz.prog 24 [fSl tI a0] [] dP (fun v=>[(fun v=>aC v 3 tI r) v]):=by
 unfold jR at H
 refine bB Tryz.func24 rfl Tryz.ntmps24 rfl (fun β=>?_)
 refine Z3 ?_
 refine aG ?_
 refine Z2 ?_
 refine Yy (aAW rfl hh (us rfl)) ?_
 refine Z1 ?_
 refine aBV (has rfl) (fun hx=>?_) ?_
 replace H:some ([]:List Int)=some r:=by subst hx;exact H
 refine Z4 ?_
 refine fH tI 3 ?_
 cases H
 exact T_outO rfl (bO rfl) (fun _ _ _=>trivial) rfl
 refine Z3 ?_
 refine Tn (eQ (t:=tI) (xs:=([]:List Int)) rfl (et rfl) bY.nil rfl rfl rfl) fun b1=>?_
 generalize (Value.slice (some ⟨b1,0,none⟩) _ _)=v1
 refine rc 0 fun _=>?_
 refine B1 H fun z1 h1 H=>?_
 refine iX (ys:=a0) a1F rfl rfl rfl (has rfl) (has rfl) (et rfl) rfl h1 (fun v2=>?_)
 refine rc 0 fun _=>?_
 refine Z3 ?_
 cases H
 exact T_outO rfl (bO rfl) (fun _ _ _=>trivial) rfl
theorem aCS  (a0:List Int) (r:List Int) (H:jR a0=some r):FnS Tryz.prog 24 [fSl tI a0] [] (fSl tI r) (fun _=>[]):=(aHp a0 r H).frz (fun v=>cM)
def aAJ (a0:List Aq):Option (List Aq):=
 (cQ (([]:List Aq)++a0)).bind fun z1=>
 some z1
theorem aKc  (a0:List Aq) (r:List Aq) (H:aAJ a0=some r):FnS Tryz.prog 58 [fSl aZ a0] [] (fSl aZ r) (fun _=>[]):=by
 unfold aAJ at H
 refine bB Tryz.func58 rfl Tryz.ntmps58 rfl (fun β=>?_)
 refine Z3 ?_
 refine aG ?_
 refine Z2 ?_
 refine Yy (aAW rfl hh (us rfl)) ?_
 refine Z1 ?_
 refine aBV (has rfl) (fun hx=>?_) ?_
 replace H:some []=some r:=by subst hx;exact H
 refine Z4 ?_
 cases H
 exact fV rfl (fF rfl cC) rfl
 refine Z3 ?_
 refine Tn (eQ (t:=aZ) (xs:=([]:List Aq)) rfl (et rfl) bY.nil rfl rfl rfl) fun b1=>?_
 generalize (Value.slice (some ⟨b1,0,none⟩) _ _)=v1
 refine rc 0 fun _=>?_
 refine B1 H fun z1 h1 H=>?_
 refine iX (ys:=a0) a1F rfl rfl rfl (has rfl) (has rfl) (et rfl) rfl h1 (fun v2=>?_)
 refine rc 0 fun _=>?_
 refine Z3 ?_
 refine bT (φ:=fSl aZ z1) (v:=v2) [2,7] cM fz ?_
 refine bQ ?_
 cases H
 exact To
def aAD (a0:List Ap):Option (List Ap):=
 (cQ (([]:List Ap)++a0)).bind fun z1=>
 some z1
theorem aIf  (a0:List Ap) (r:List Ap) (H:aAD a0=some r):FnS Tryz.prog 59 [fSl aU a0] [] (fSl aU r) (fun _=>[]):=by
 unfold aAD at H
 refine bB Tryz.func59 rfl Tryz.ntmps59 rfl (fun β=>?_)
 refine Z3 ?_
 refine aG ?_
 refine Z2 ?_
 refine Yy (aAW rfl hh (us rfl)) ?_
 refine Z1 ?_
 refine aBV (has rfl) (fun hx=>?_) ?_
 replace H:some []=some r:=by subst hx;exact H
 refine Z4 ?_
 cases H
 exact fV rfl (fF rfl cC) rfl
 refine Z3 ?_
 refine Tn (eQ (t:=aU) (xs:=([]:List Ap)) rfl (et rfl) bY.nil rfl rfl rfl) fun b1=>?_
 generalize (Value.slice (some ⟨b1,0,none⟩) _ _)=v1
 refine rc 0 fun _=>?_
 refine B1 H fun z1 h1 H=>?_
 refine iX (ys:=a0) a1F rfl rfl rfl (has rfl) (has rfl) (et rfl) rfl h1 (fun v2=>?_)
 refine rc 0 fun _=>?_
 refine Z3 ?_
 refine bT (φ:=fSl aU z1) (v:=v2) [2,7] cM fz ?_
 refine bQ ?_
 cases H
 exact To
def rC (y1:AN):Nat->Int->(List Ah)->Option (List Ah)
| 0,_,_=>none
| k+1,x10,x11=>
 if x10<(y1.AQ.length:Int)then
  (idx y1.AQ x10).bind fun y4=>
  (jR y4.Ad).bind fun y5=>
  (cQ (x11++[(⟨y4.At,y5,y4.AW⟩:Ah)])).bind fun z1=>
  (chk (x10+1)).bind fun z2=>
  rC y1 k z2 z1
 else
  some x11
def rL (AA:Nat) (a0:List AN):Nat->(List AN)->Int->Option (List AN)
| 0,_,_=>none
| k+1,x4,x5=>
 if x5<(a0.length:Int)then
  ((idx a0 x5).bind fun y1=>
  (aAJ y1.AT).bind fun y2=>
  (aAD y1.AS).bind fun y3=>
  (rC y1 AA 0 []).bind fun x7=>
  (cQ (x4++[(⟨y2,y3,x7⟩:AN)])).bind fun z3=>
  some z3).bind fun x6=>
  (chk (x5+1)).bind fun z4=>
  rL AA a0 k x6 z4
 else
  some x4
def yF (AA:Nat) (a0:List AN):Option (List AN):=
 (rL AA a0 AA [] 0).bind fun x1=>
 some x1
theorem aJN (AA:Nat)  (a0:List AN) (r:List AN) (H:yF AA a0=some r):FnS Tryz.prog 25 [fSl aB a0] [] (fSl aB r) (fun _=>[]):=by
 unfold yF at H
 refine bB Tryz.func25 rfl Tryz.ntmps25 rfl (fun β=>?_)
 revert H;refine B6z fun o1 H Hr1=>?_
 refine aO (ι:=List AN × Value) (fun i=>o1=i.1) (fun i=>[(3,fEq i.2)]) (fun i=>[aC i.2 77 aB i.1]) ?_ ?_
 refine Z6 ?_
 refine fH aB 77 ?_
 refine Th (ι:=List AN × Int × Value) (fun i=>rL AA a0 i.1 i.2.1 i.2.2.1=_) (fun i=>[(3,fEq i.2.2.2),(9,fSl aB a0),(10,fI (a0.length:Int)),(11,fI i.2.2.1)]) (fun i=>[aC i.2.2.2 77 aB i.2.1]) (AA,[],0,(.slice none 0 0)) H (fun _ h=>nomatch h) ?_
 clear H;rintro k1 ⟨x4,x5,v3⟩ H;dsimp only at H ⊢;rw [rL]at H
 refine rc 0 fun _=>?_
 refine Z3 ?_
 refine aG ?_
 revert H;refine is (fun c1 H=>?_) fun c1 H=>?_
 revert H;refine B3z fun o2 H Hr2=>?_
 refine aO (ι:=List AN × Value) (fun i=>o2=i.1) (fun i=>[(9,fSl aB a0),(10,fI (a0.length:Int)),(11,fI x5),(3,fEq i.2)]) (fun i=>[aC i.2 77 aB i.1]) ?_ ?_
 revert H;refine B2z fun y1 h1 H=>?_
 refine Z2 ?_
 refine Tn (cB rfl oP rfl) fun b1=>?_
 refine cO (φs':=[fSl aZ y1.AT,fSl aU y1.AS,fSl aY y1.AQ]) a1F rfl rfl (has rfl) (has rfl) (aI (aS) (aI (aS) (aI (aS) bN))) (sz rfl) rfl rfl rfl ?_
 refine Z1 ?_
 refine aG ?_
 revert H;refine bs fun y2 h2 H=>?_
 revert H;refine bs fun y3 h3 H=>?_
 apply bD (ods:=[_,_,_,_,_,_,_,_,_]) 9 1 3 bC rfl rfl rfl
 refine ND ?_
 refine M2 ?_
 intros
 refine Nc (aKc _ _ h2) fun _=>?_
 refine M2 ?_
 intros
 refine Nc (aIf _ _ h3) fun _=>?_
 refine My (gL (ψs:=[fSl aZ y2,fSl aU y3,fEq (.slice none 0 0)]) rfl aGU rfl (bW.cons (has rfl) (cL (aS)) (bW.cons (has rfl) (cL (aS)) bW.nil)) rfl) fun _=>?_
 refine Mn 2 (fun b2=>ptr b2) (fun b2=>aA b2 77 [fEq (.slice none 0 0),fEq (.slice none 0 0),fEq (.slice none 0 0)]) rfl (cB rfl oP rfl) (fun b2 u1=>?_)
 refine mS (od:=od1 7 [2] true (fun b2 _=>dP) (fun b2 _=>[aA b2 77 [fSl aZ y2,fSl aU y3,fEq (.slice none 0 0)]])) (p:=2) (φs':=[fSl aZ y2,fSl aU y3,fEq (.slice none 0 0)]) rfl (fun _=>rfl) (fun _=>rfl) a1F rfl rfl rfl (has rfl) (has rfl) (aI (aS) (aI (aS) (aI (aF a1F) bN))) (sz rfl) rfl rfl rfl (fun _=>?_)
 revert H;refine B2z fun o3 H Hr3=>?_
 refine aO (ι:=List Ah × Value) (fun i=>o3=i.1) (fun i=>[(3,fEq v3),(9,fSl aB a0),(10,fI (a0.length:Int)),(11,fI x5),(6,fEq (ptr b2))]) (fun i=>[aA b1 77 [fSl aZ y1.AT,fSl aU y1.AS,fSl aY y1.AQ],aA b2 77 [fSl aZ y2,fSl aU y3,fEq i.2],aC v3 77 aB x4,aC i.2 81 aY i.1]) ?_ ?_
 refine Z7 ?_
 refine fH aY 81 ?_
 refine aE [1,3,2,0] (by decide) ?_
 refine Th (ι:=Int × List Ah × Value) (fun i=>rC y1 i.1 i.2.1 i.2.2.1=_) (fun i=>[(3,fEq v3),(9,fSl aB a0),(10,fI (a0.length:Int)),(11,fI x5),(6,fEq (ptr b2)),(23,fSl aY y1.AQ),(24,fI (y1.AQ.length:Int)),(25,fI i.2.1)]) (fun i=>[aA b1 77 [fSl aZ y1.AT,fSl aU y1.AS,fSl aY y1.AQ],aA b2 77 [fSl aZ y2,fSl aU y3,fEq i.2.2.2],aC v3 77 aB x4,aC i.2.2.2 81 aY i.2.2.1]) (AA,0,[],(.slice none 0 0)) H (fun _ h=>nomatch h) ?_
 clear H;rintro k2 ⟨x10,x11,v7⟩ H;dsimp only at H ⊢;rw [rC]at H
 refine rc 3 fun _=>?_
 refine Z3 ?_
 refine aG ?_
 revert H;refine is (fun c2 H=>?_) fun c2 H=>?_
 refine Z3 ?_
 refine aG ?_
 revert H;refine B2z fun y4 h4 H=>?_
 refine Z2 ?_
 refine Tn (cB rfl pM rfl) fun b3=>?_
 refine cO (φs':=[fI y4.At,fSl tI y4.Ad,fI y4.AW]) a1F rfl rfl (has rfl) (has rfl) (aI (aF a1F) (aI (aS) (aI (aF a1F) bN))) (sz rfl) rfl rfl rfl ?_
 revert H;refine B4z fun y5 h5 H=>?_
 refine oX a1F rfl rfl rfl hh (aP.cons hh aP.nil) rfl (cb rfl) (aCS y4.Ad y5 h5) rfl ?_
 refine Z1 ?_
 refine bK (φs':=[fI y4.At,fSl tI y5,fI y4.AW]) a1F rfl rfl (has rfl) (has rfl) (aS) (sz rfl) rfl rfl ?_
 refine Z5 ?_
 refine Tn (eQ (t:=aY) (xs:=[(⟨y4.At,y5,y4.AW⟩:Ah)]) rfl (et rfl) (bY.cons rfl hh bM bY.nil) rfl rfl rfl) fun b4=>?_
 generalize (Value.slice (some ⟨b4,0,none⟩) _ _)=v8
 refine rc 0 fun _=>?_
 revert H;refine bs fun z1 h6 H=>?_
 refine cP ?_
 refine bH ?_
 refine gH a1F rfl rfl rfl (has rfl) (has rfl) (et rfl) rfl h6 (fun v9=>?_)
 refine rc 0 fun hc_v9=>?_
 refine Z1 ?_
 refine cZ ?_
 refine bK (φs':=[fSl aZ y2,fSl aU y3,fEq v9]) a1F rfl rfl (has rfl) (has rfl) (aF hc_v9) (sz rfl) rfl rfl ?_
 revert H;refine B4z fun z2 h7 H=>?_
 refine Z3 ?_
 refine aE [3,0,4,1] (by decide) ?_
 exact Tm ((k2,z2,z1,v9)) ⟨H,ls⟩
 refine Z6 ?_
 exact Tm ((x11,v7)) (ij H)
 rintro⟨x7,v5⟩ hi;subst o3;replace H:=Hr3;clear Hr3;try dsimp only at H ⊢
 refine rc 3 fun _=>?_
 refine Z3 ?_
 refine cZ ?_
 refine bT (φ:=fSl aY x7) (v:=v5) [] cM (fun _ h=>nomatch h) ?_
 refine dK ?_
 refine bH ?_
 refine dO (φs':=[fSl aZ y2,fSl aU y3,fSl aY x7]) (i:=2) rfl rfl ?_
 refine lN 41 (ψ:=eC [fSl aZ y2,fSl aU y3,fEq v5]) rfl (lA (i:=2) (φs:=[fSl aZ y2,fSl aU y3,fEq v5]) (φs':=[fSl aZ y2,fSl aU y3,fSl aY x7]) rfl rfl) ?_
 refine bQ ?_
 refine Tn (eQ (t:=aB) (xs:=[(⟨y2,y3,x7⟩:AN)]) rfl (et rfl) (bY.cons rfl hh bM bY.nil) rfl rfl rfl) fun b5=>?_
 generalize (Value.slice (some ⟨b5,0,none⟩) _ _)=v10
 refine rc 0 fun _=>?_
 revert H;refine bs fun z3 h8 H=>?_
 refine cZ ?_
 refine bH ?_
 refine gH a1F rfl rfl rfl (has rfl) (has rfl) (et rfl) rfl h8 (fun v11=>?_)
 refine rc 0 fun _=>?_
 refine Z4 ?_
 refine aE [0] (by decide) ?_
 exact Tm ((z3,v11)) (ij H)
 exact fk
 kernel_rfl
 rintro⟨x6,v4⟩ hi;subst o2;replace H:=Hr2;clear Hr2;try dsimp only at H ⊢
 refine rc 0 fun _=>?_
 revert H;refine B1z fun z4 h9 H=>?_
 refine Z3 ?_
 exact Tm ((k1,x6,z4,v4)) ⟨H,ls⟩
 refine Z6 ?_
 exact Tm ((x4,v3)) (ij H)
 rintro⟨x1,v1⟩ hi;subst o1;replace H:=Hr1;clear Hr1;try dsimp only at H ⊢
 refine rc 0 fun _=>?_
 refine Z5 ?_
 refine bT (φ:=fSl aB x1) (v:=v1) [3,45,2] cM fz ?_
 refine bQ ?_
 cases H
 exact To
def mP (a0:List Int) (a1:Int):Nat->Int->Option ((Unit) ⊕ (Bool))
| 0,_=>none
| k+1,x2=>
 if x2<(a0.length:Int)then
  ((idx a0 x2).bind fun y1=>
  if y1<0 then
   ((some false).bind fun r=>some (Sum.inr r)).bind fun r=>some (Sum.inr r)
  else
   if a1<=y1 then
    ((some false).bind fun r=>some (Sum.inr r)).bind fun r=>some (Sum.inr r)
   else
    if 0<x2 then
     (chk (x2 - 1)).bind fun z1=>
     (idx a0 z1).bind fun y2=>
     if y1<=y2 then
      ((some false).bind fun r=>some (Sum.inr r)).bind fun r=>some (Sum.inr r)
     else
      some (Sum.inl ())
    else
     some (Sum.inl ())).bind fun o=>match o with
  | Sum.inr r=>some r
  | Sum.inl _=>
  (chk (x2+1)).bind fun z2=>
  mP a0 a1 k z2
 else
  some (Sum.inl ())
def oE (AA:Nat) (a0:List Int) (a1:Int):Option (Bool):=
 (mP a0 a1 AA 0).bind fun o=>match o with
 | Sum.inr r=>some r
 | Sum.inl _=>
 some true
theorem aDU (AA:Nat)  (a0:List Int) (a1:Int) (r:Bool) (H:oE AA a0 a1=some r):FnS Tryz.prog 76 [fSl tI a0,fI a1] [] (aH r) (fun _=>[]):=by
 unfold oE at H
 refine bB Tryz.func76 rfl Tryz.ntmps76 rfl (fun β=>?_)
 revert H;refine B3z fun o1 H Hr1=>?_
 refine aO (ι:=Unit) (fun i=>o1=Sum.inl ()) (fun i=>[]) (fun i=>[]) ?_ ?_
 refine Z6 ?_
 refine Th (ι:=Int) (fun i=>mP a0 a1 i.1 i.2=_) (fun i=>[(0,fSl tI a0),(1,fI a1),(7,fSl tI a0),(8,fI (a0.length:Int)),(9,fI i.2)]) (fun i=>[]) (AA,0) H (fun _ h=>nomatch h) ?_
 clear H;rintro k1 x2 H;dsimp only at H ⊢;rw [mP]at H
 refine Z3 ?_
 refine aG ?_
 revert H;refine is (fun c1 H=>?_) fun c1 H=>?_
 revert H;refine B3z fun o2 H Hr2=>?_
 refine aO (ι:=Unit) (fun i=>o2=Sum.inl ()) (fun i=>[(0,fSl tI a0),(1,fI a1),(7,fSl tI a0),(8,fI (a0.length:Int)),(9,fI x2)]) (fun i=>[]) ?_ ?_
 revert H;refine B3z fun y1 h1 H=>?_
 revert H;refine I9z (fun c2 H=>?_) fun c2 H=>?_
 refine Z8 ?_
 refine cR (⟨_,_,_,_,rfl,rfl,rfl,nu⟩) rfl rfl ?_
 refine cR (⟨_,_,_,_,rfl,rfl,rfl,nu⟩) rfl rfl ?_
 refine cR (⟨_,_,_,_,rfl,rfl,rfl,nu⟩) rfl rfl ?_
 refine cR (⟨_,_,_,_,rfl,rfl,rfl,nu⟩) rfl rfl ?_
 refine cR (⟨_,_,_,_,rfl,rfl,rfl,nu⟩) rfl rfl ?_
 refine cR (⟨_,_,_,_,rfl,rfl,rfl,nu⟩) rfl rfl ?_
 refine cR (⟨_,_,_,_,rfl,rfl,rfl,nu⟩) rfl rfl ?_
 revert H;refine dS fun r1 H e1=>?_
 cases e1;cases Hr2
 revert H;refine B3z fun r2 H e2=>?_
 cases e2;cases Hr1
 cases H
 exact To
 revert H;refine I5z (fun c3 H=>?_) fun c3 H=>?_
 refine Z3 ?_
 refine cR (⟨_,_,_,_,rfl,rfl,rfl,nu⟩) rfl rfl ?_
 refine cR (⟨_,_,_,_,rfl,rfl,rfl,nu⟩) rfl rfl ?_
 refine cR (⟨_,_,_,_,rfl,rfl,rfl,nu⟩) rfl rfl ?_
 refine cR (⟨_,_,_,_,rfl,rfl,rfl,nu⟩) rfl rfl ?_
 refine cR (⟨_,_,_,_,rfl,rfl,rfl,nu⟩) rfl rfl ?_
 refine cR (⟨_,_,_,_,rfl,rfl,rfl,nu⟩) rfl rfl ?_
 refine cR (⟨_,_,_,_,rfl,rfl,rfl,nu⟩) rfl rfl ?_
 revert H;refine dS fun r3 H e3=>?_
 cases e3;cases Hr2
 revert H;refine B3z fun r4 H e4=>?_
 cases e4;cases Hr1
 cases H
 exact To
 revert H;refine I3z (fun c4 H=>?_) fun c4 H=>?_
 revert H;refine B3z fun z1 h2 H=>?_
 revert H;refine B1z fun y2 h3 H=>?_
 revert H;refine I6z (fun c5 H=>?_) fun c5 H=>?_
 revert H;refine B7z fun r5 H e5=>?_
 cases e5;cases Hr2
 revert H;refine B3z fun r6 H e6=>?_
 cases e6;cases Hr1
 cases H
 exact To
 refine Z4 ?_
 exact Tm (()) (ij H)
 refine Z12 ?_
 refine Z2 ?_
 exact Tm (()) (ij H)
 rintro i hi;subst o2;replace H:=Hr2;clear Hr2;try dsimp only at H ⊢
 revert H;refine B1z fun z2 h4 H=>?_
 refine Z3 ?_
 exact Tm ((k1,z2)) ⟨H,ls⟩
 refine Z6 ?_
 exact Tm (()) (ij H)
 rintro i hi;subst o1;replace H:=Hr1;clear Hr1;try dsimp only at H ⊢
 refine Z4 ?_
 cases H
 exact To
def qT (a0:Int):Option (Bool):=
 (if a0=4 then
  some true
 else
  if a0=6 then
   some true
  else
   if a0=7 then
    some true
   else
    some (decide (a0=8))).bind fun x1=>
 some x1
theorem aG5  (a0:Int) (r:Bool) (H:qT a0=some r):FnS Tryz.prog 27 [fI a0] [] (aH r) (fun _=>[]):=by
 unfold qT at H
 refine bB Tryz.func27 rfl Tryz.ntmps27 rfl (fun β=>?_)
 revert H;refine B3z fun o1 H Hr1=>?_
 refine aO (fun i=>o1=i) (fun i=>[(2,aH i)]) (fun i=>[]) ?_ ?_
 revert H;refine I4z (fun c1 H=>?_) fun c1 H=>?_
 refine Z12 ?_
 refine Z1 ?_
 exact Tm (true) (ij H)
 revert H;refine I4z (fun c2 H=>?_) fun c2 H=>?_
 refine Z9 ?_
 exact Tm (true) (ij H)
 revert H;refine I4z (fun c3 H=>?_) fun c3 H=>?_
 refine Z5 ?_
 exact Tm (true) (ij H)
 refine Z5 ?_
 exact Tm (decide (a0=8)) (ij H)
 rintro x1 hi;subst o1;replace H:=Hr1;clear Hr1;try dsimp only at H ⊢
 refine Z1 ?_
 cases H
 exact To
def mZ (a0:List Int) (a1:List Int):Nat->(List Int)->Int->Option (List Int)
| 0,_,_=>none
| k+1,x4,x5=>
 if x5<(a1.length:Int)then
  (idx a1 x5).bind fun y1=>
  (idx a0 y1).bind fun y2=>
  (cQ (x4++[y2])).bind fun z1=>
  (chk (x5+1)).bind fun z2=>
  mZ a0 a1 k z1 z2
 else
  some x4
def sL (AA:Nat) (a0:List Int) (a1:List Int):Option (List Int):=
 (mZ a0 a1 AA [] 0).bind fun x1=>
 some x1
theorem aKE (AA:Nat)  (a0:List Int) (a1:List Int) (r:List Int) (H:sL AA a0 a1=some r):FnS Tryz.prog 106 [fSl tI a0,fSl tI a1] [] (fSl tI r) (fun _=>[]):=by
 unfold sL at H
 refine bB Tryz.func106 rfl Tryz.ntmps106 rfl (fun β=>?_)
 revert H;refine B6z fun o1 H Hr1=>?_
 refine aO (ι:=List Int × Value) (fun i=>o1=i.1) (fun i=>[(5,fEq i.2)]) (fun i=>[aC i.2 3 tI i.1]) ?_ ?_
 refine Z6 ?_
 refine fH tI 3 ?_
 refine Th (ι:=List Int × Int × Value) (fun i=>mZ a0 a1 i.1 i.2.1 i.2.2.1=_) (fun i=>[(0,fSl tI a0),(5,fEq i.2.2.2),(8,fSl tI a1),(9,fI (a1.length:Int)),(10,fI i.2.2.1)]) (fun i=>[aC i.2.2.2 3 tI i.2.1]) (AA,[],0,(.slice none 0 0)) H (fun _ h=>nomatch h) ?_
 clear H;rintro k1 ⟨x4,x5,v3⟩ H;dsimp only at H ⊢;rw [mZ]at H
 refine rc 0 fun _=>?_
 refine Z3 ?_
 refine aG ?_
 revert H;refine is (fun c1 H=>?_) fun c1 H=>?_
 refine Z3 ?_
 refine aG ?_
 revert H;refine B2z fun y1 h1 H=>?_
 revert H;refine B8z fun y2 h2 H=>?_
 refine Z2 ?_
 refine Tn (eQ (t:=tI) (xs:=[y2]) rfl (et rfl) (bY.cons rfl (has rfl) (cL (aF a1F)) bY.nil) rfl rfl rfl) fun b1=>?_
 generalize (Value.slice (some ⟨b1,0,none⟩) _ _)=v4
 refine rc 0 fun _=>?_
 revert H;refine bs fun z1 h3 H=>?_
 refine gH a1F rfl rfl rfl (has rfl) (has rfl) (et rfl) rfl h3 (fun v5=>?_)
 refine rc 0 fun _=>?_
 revert H;refine B5z fun z2 h4 H=>?_
 refine Z3 ?_
 exact Tm ((k1,z1,z2,v5)) ⟨H,ls⟩
 refine Z6 ?_
 exact Tm ((x4,v3)) (ij H)
 rintro⟨x1,v1⟩ hi;subst o1;replace H:=Hr1;clear Hr1;try dsimp only at H ⊢
 refine rc 0 fun _=>?_
 refine Z5 ?_
 refine bT (φ:=fSl tI x1) (v:=v1) [5,22,4] cM fz ?_
 refine bQ ?_
 cases H
 exact To
def oF (rec_flat_exp:AV->(List Int)->Option (AV × Bool)) (a0:AV) (a1:List Int) (x1:Int):Nat->Int->(List AV)->Option ((List AV) ⊕ (AV × Bool))
| 0,_,_=>none
| k+1,x5,x6=>
 if x5<(a0.AM.length:Int)then
  (idx a0.AM x5).bind fun y2=>
  (rec_flat_exp (⟨y2.Op,y2.N,y2.AM⟩:AV) a1).bind fun y3=>
  bif y3.2 then
   (cQ (x6++[(⟨y3.1.Op,y3.1.N,y3.1.AM⟩:AV)])).bind fun z1=>
   (chk (x5+1)).bind fun z2=>
   oF rec_flat_exp a0 a1 x1 k z2 z1
  else
   (some ((⟨a0.Op,x1,x6⟩:AV),false)).bind fun r=>some (Sum.inr r)
 else
  some (Sum.inl x6)
def kZ:Nat->AV->(List Int)->Option (AV × Bool)
| 0,_,_=>none
| AA+1,a0,a1=>
 (if a0.Op=2 then
  if a0.N<0 then
   (some ((⟨a0.Op,a0.N,[]⟩:AV),false)).bind fun r=>some (Sum.inr r)
  else
   if (a1.length:Int)<=a0.N then
    (some ((⟨a0.Op,a0.N,[]⟩:AV),false)).bind fun r=>some (Sum.inr r)
   else
    (idx a1 a0.N).bind fun y1=>
    some (Sum.inl y1)
 else
  some (Sum.inl a0.N)).bind fun o=>match o with
 | Sum.inr r=>some r
 | Sum.inl x1=>
 (oF (kZ AA) a0 a1 x1 AA 0 []).bind fun o=>match o with
 | Sum.inr r=>some r
 | Sum.inl x2=>
 some ((⟨a0.Op,x1,x2⟩:AV),true)
theorem aJL:∀ (AA:Nat),(∀  (a0:AV) (a1:List Int) (r:AV × Bool) (H:kZ AA a0 a1=some r),FnS Tryz.prog 107 [fSt aN a0,fSl tI a1] [] (dB [fSt aN r.1,aH r.2]) (fun _=>[])):=by
 intro AA
 induction AA with
 | zero=>exact fun a0 a1 r H=>(by rw [kZ]at H;cases H)
 | succ AA ih=>
 have ih_flat_exp:=@ih
 refine ?_
 intro a0 a1 r H
 rw [kZ]at H
 refine bB Tryz.func107 rfl Tryz.ntmps107 rfl (fun β=>?_)
 refine Z1 ?_
 refine Tn (bU rfl hh bM) fun b1=>?_
 refine Tn (cB rfl jX rfl) fun b2=>?_
 refine Z7 ?_
 refine Yy (gL (ψs:=[fI a0.Op,fI a0.N,fEq (.slice none 0 0)]) rfl ty_bu_71 rfl (bW.cons (has rfl) (cL (aF a1F)) (bW.cons (has rfl) (cL (aF a1F)) bW.nil)) rfl) ?_
 refine Tn (cB rfl jX rfl) fun b3=>?_
 refine cO (φs':=[fI a0.Op,fI a0.N,fEq (.slice none 0 0)]) a1F rfl rfl (has rfl) (has rfl) (aI (aF a1F) (aI (aF a1F) (aI (aF a1F) bN))) (sz rfl) rfl rfl rfl ?_
 revert H;refine B1z fun o1 H Hr1=>?_
 refine aO (fun i=>o1=Sum.inl i) (fun i=>[(1,fSl tI a1),(2,fEq (ptr b1)),(4,fEq (ptr b2)),(6,fEq (ptr b3))]) (fun i=>[aA b3 71 [fI a0.Op,fI i,fEq (.slice none 0 0)],aA b2 71 [fI 0,fI 0,fEq (.slice none 0 0)],aA b1 71 [fI a0.Op,fI a0.N,dD a0.AM]]) ?_ ?_
 revert H;refine I5z (fun c1 H=>?_) fun c1 H=>?_
 refine Z1 ?_
 refine aG ?_
 revert H;refine I5z (fun c2 H=>?_) fun c2 H=>?_
 refine Z10 ?_
 refine bH ?_
 refine cO (φs':=[fI a0.Op,fI a0.N,fEq (.slice none 0 0)]) a1F rfl rfl (has rfl) (has rfl) (aI (aF a1F) (aI (aF a1F) (aI (aF a1F) bN))) (sz rfl) rfl rfl rfl ?_
 revert H;refine B4z fun r1 H e1=>?_
 cases e1;cases Hr1
 cases H
 refine aE [0] (by decide) ?_
 exact nX rfl (ag rfl) rfl (bO rfl) (bO rfl) (tT (aK.cons Ent.rfl (aK.cons Ent.rfl (aK.cons (zS cC) aK.nil)))) rfl
 revert H;refine I7z (fun c3 H=>?_) fun c3 H=>?_
 refine Z3 ?_
 refine bH ?_
 refine cO (φs':=[fI a0.Op,fI a0.N,fEq (.slice none 0 0)]) a1F rfl rfl (has rfl) (has rfl) (aI (aF a1F) (aI (aF a1F) (aI (aF a1F) bN))) (sz rfl) rfl rfl rfl ?_
 revert H;refine B4z fun r2 H e2=>?_
 cases e2;cases Hr1
 cases H
 refine aE [0] (by decide) ?_
 exact nX rfl (ag rfl) rfl (bO rfl) (bO rfl) (tT (aK.cons Ent.rfl (aK.cons Ent.rfl (aK.cons (zS cC) aK.nil)))) rfl
 revert H;refine B7z fun y1 h1 H=>?_
 refine Z3 ?_
 refine bK (φs':=[fI a0.Op,fI y1,fEq (.slice none 0 0)]) a1F rfl rfl (has rfl) (has rfl) (aF a1F) (sz rfl) rfl rfl ?_
 refine Z1 ?_
 exact Tm (y1) (ij H)
 refine Z3 ?_
 exact Tm (a0.N) (ij H)
 rintro x1 hi;subst o1;replace H:=Hr1;clear Hr1;try dsimp only at H ⊢
 revert H;refine bs fun o2 H Hr2=>?_
 refine aO (ι:=List AV × Value) (fun i=>o2=Sum.inl i.1) (fun i=>[(4,fEq (ptr b2)),(6,fEq (ptr b3))]) (fun i=>[aA b3 71 [fI a0.Op,fI x1,fEq i.2],aA b2 71 [fI 0,fI 0,fEq (.slice none 0 0)],aA b1 71 [fI a0.Op,fI a0.N,dD a0.AM],aC i.2 71 aN i.1]) ?_ ?_
 refine Z2 ?_
 refine Yo 2 rfl (eU rfl hh (sc rfl) rfl (fB eO)) ?_
 refine Z4 ?_
 refine fH aN 71 ?_
 refine aE [1,2,3,0] (by decide) ?_
 refine Th (ι:=Int × List AV × Value) (fun i=>oF (kZ AA) a0 a1 x1 i.1 i.2.1 i.2.2.1=_) (fun i=>[(1,fSl tI a1),(4,fEq (ptr b2)),(6,fEq (ptr b3)),(37,fSl aN a0.AM),(38,fI (a0.AM.length:Int)),(39,fI i.2.1)]) (fun i=>[aA b3 71 [fI a0.Op,fI x1,fEq i.2.2.2],aA b2 71 [fI 0,fI 0,fEq (.slice none 0 0)],aA b1 71 [fI a0.Op,fI a0.N,dD a0.AM],aC i.2.2.2 71 aN i.2.2.1]) (AA,0,[],(.slice none 0 0)) H (fun _ h=>nomatch h) ?_
 clear H;rintro k1 ⟨x5,x6,v3⟩ H;dsimp only at H ⊢;rw [oF]at H
 refine rc 3 fun hc_v3=>?_
 refine Z3 ?_
 refine aG ?_
 revert H;refine is (fun c4 H=>?_) fun c4 H=>?_
 refine Z3 ?_
 refine aG ?_
 revert H;refine B2z fun y2 h2 H=>?_
 refine Z2 ?_
 refine Tn (cB rfl jX rfl) fun b4=>?_
 refine cO (φs':=[fI y2.Op,fI y2.N,dD y2.AM]) a1F rfl rfl (has rfl) (has rfl) (aI (aF a1F) (aI (aF a1F) (aI (nH) bN))) (sz rfl) rfl rfl rfl ?_
 revert H;refine B4z fun y3 h3 H=>?_
 refine Tc (ih_flat_exp _ _ _ h3) ?_
 refine Z3 ?_
 refine Tn (cB rfl jX rfl) fun b5=>?_
 refine cO (φs':=[fI y3.1.Op,fI y3.1.N,dD y3.1.AM]) a1F rfl rfl (has rfl) (has rfl) (aI (aF a1F) (aI (aF a1F) (aI (nH) bN))) (sz rfl) rfl rfl rfl ?_
 refine Z2 ?_
 refine aG ?_
 refine Z4 ?_
 revert H;refine cs (fun c5 H=>?_) fun c5 H=>?_
 refine Z7 ?_
 refine Tn (eQ (t:=aN) (xs:=[(⟨y3.1.Op,y3.1.N,y3.1.AM⟩:AV)]) rfl (et rfl) (bY.cons rfl hh bM bY.nil) rfl rfl rfl) fun b6=>?_
 generalize (Value.slice (some ⟨b6,0,none⟩) _ _)=v4
 refine rc 0 fun _=>?_
 revert H;refine bs fun z1 h4 H=>?_
 refine aV ?_
 refine bH ?_
 refine gH a1F rfl rfl rfl (has rfl) (has rfl) (et rfl) rfl h4 (fun v5=>?_)
 refine rc 0 fun hc_v5=>?_
 refine Z1 ?_
 refine cZ ?_
 refine bK (φs':=[fI a0.Op,fI x1,fEq v5]) a1F rfl rfl (has rfl) (has rfl) (aF hc_v5) (sz rfl) rfl rfl ?_
 revert H;refine B4z fun z2 h5 H=>?_
 refine Z3 ?_
 refine aE [0,4,5,1] (by decide) ?_
 exact Tm ((k1,z2,z1,v5)) ⟨H,ls⟩
 refine Z3 ?_
 refine cZ ?_
 refine cO (φs':=[fI a0.Op,fI x1,fEq v3]) a1F rfl rfl (has rfl) (has rfl) (aI (aF a1F) (aI (aF a1F) (aI (aF hc_v3) bN))) (sz rfl) rfl rfl rfl ?_
 revert H;refine B8z fun r3 H e3=>?_
 cases e3;cases Hr2
 refine cP ?_
 refine bT (φ:=fSl aN x6) (v:=v3) [] cM (fun _ h=>nomatch h) ?_
 refine bG ?_
 refine bH ?_
 refine dO (φs':=[fI a0.Op,fI x1,fSl aN x6]) (i:=2) rfl rfl ?_
 refine dK ?_
 refine bH ?_
 refine dO (φs':=[fI a0.Op,fI x1,fSl aN x6]) (i:=2) rfl rfl ?_
 refine lN 51 (ψ:=eC [fI a0.Op,fI x1,fEq v3]) rfl (lA (i:=2) (φs:=[fI a0.Op,fI x1,fEq v3]) (φs':=[fI a0.Op,fI x1,fSl aN x6]) rfl rfl) ?_
 refine bQ ?_
 cases H
 refine aE [0] (by decide) ?_
 exact nX rfl (ag rfl) rfl (bO rfl) (bO rfl) (tT (aK.cons Ent.rfl (aK.cons Ent.rfl (aK.cons (zS .rfl) aK.nil)))) rfl
 refine Z6 ?_
 exact Tm ((x6,v3)) (ij H)
 rintro⟨x2,v1⟩ hi;subst o2;replace H:=Hr2;clear Hr2;try dsimp only at H ⊢
 refine rc 3 fun hc_v1=>?_
 refine Z2 ?_
 refine bH ?_
 refine cO (φs':=[fI a0.Op,fI x1,fEq v1]) a1F rfl rfl (has rfl) (has rfl) (aI (aF a1F) (aI (aF a1F) (aI (aF hc_v1) bN))) (sz rfl) rfl rfl rfl ?_
 refine Z3 ?_
 refine cZ ?_
 refine bT (φ:=fSl aN x2) (v:=v1) [] cM (fun _ h=>nomatch h) ?_
 refine dK ?_
 refine bH ?_
 refine dO (φs':=[fI a0.Op,fI x1,fSl aN x2]) (i:=2) rfl rfl ?_
 refine dK ?_
 refine bH ?_
 refine dO (φs':=[fI a0.Op,fI x1,fSl aN x2]) (i:=2) rfl rfl ?_
 refine lN 59 (ψ:=eC [fI a0.Op,fI x1,fEq v1]) rfl (lA (i:=2) (φs:=[fI a0.Op,fI x1,fEq v1]) (φs':=[fI a0.Op,fI x1,fSl aN x2]) rfl rfl) ?_
 refine bQ ?_
 cases H
 refine aE [0] (by decide) ?_
 exact nX rfl (ag rfl) rfl (bO rfl) (bO rfl) (tT (aK.cons Ent.rfl (aK.cons Ent.rfl (aK.cons (zS .rfl) aK.nil)))) rfl
def oO (a0:Int) (a1:Int):Nat->(List Int)->Int->Option (List Int)
| 0,_,_=>none
| k+1,x4,x5=>
 if x5<a1 then
  (chk (a0+x5)).bind fun z1=>
  (cQ (x4++[z1])).bind fun z2=>
  (chk (x5+1)).bind fun z3=>
  oO a0 a1 k z2 z3
 else
  some x4
def vH (AA:Nat) (a0:Int) (a1:Int):Option (List Int):=
 (oO a0 a1 AA [] 0).bind fun x1=>
 some x1
theorem aEu (AA:Nat)  (a0:Int) (a1:Int) (r:List Int) (H:vH AA a0 a1=some r):FnS Tryz.prog 31 [fI a0,fI a1] [] (fSl tI r) (fun _=>[]):=by
 unfold vH at H
 refine bB Tryz.func31 rfl Tryz.ntmps31 rfl (fun β=>?_)
 revert H;refine B6z fun o1 H Hr1=>?_
 refine aO (ι:=List Int × Value) (fun i=>o1=i.1) (fun i=>[(5,fEq i.2)]) (fun i=>[aC i.2 3 tI i.1]) ?_ ?_
 refine Z5 ?_
 refine fH tI 3 ?_
 refine Th (ι:=List Int × Int × Value) (fun i=>oO a0 a1 i.1 i.2.1 i.2.2.1=_) (fun i=>[(0,fI a0),(5,fEq i.2.2.2),(7,fI a1),(8,fI i.2.2.1)]) (fun i=>[aC i.2.2.2 3 tI i.2.1]) (AA,[],0,(.slice none 0 0)) H (fun _ h=>nomatch h) ?_
 clear H;rintro k1 ⟨x4,x5,v3⟩ H;dsimp only at H ⊢;rw [oO]at H
 refine rc 0 fun _=>?_
 refine Z3 ?_
 refine aG ?_
 revert H;refine is (fun c1 H=>?_) fun c1 H=>?_
 refine Z3 ?_
 refine aG ?_
 revert H;refine B9z fun z1 h1 H=>?_
 refine Z1 ?_
 refine Tn (eQ (t:=tI) (xs:=[z1]) rfl (et rfl) (bY.cons rfl (has rfl) (cL (aF a1F)) bY.nil) rfl rfl rfl) fun b1=>?_
 generalize (Value.slice (some ⟨b1,0,none⟩) _ _)=v4
 refine rc 0 fun _=>?_
 revert H;refine bs fun z2 h2 H=>?_
 refine gH a1F rfl rfl rfl (has rfl) (has rfl) (et rfl) rfl h2 (fun v5=>?_)
 refine rc 0 fun _=>?_
 revert H;refine B5z fun z3 h3 H=>?_
 refine Z3 ?_
 exact Tm ((k1,z2,z3,v5)) ⟨H,ls⟩
 refine Z6 ?_
 exact Tm ((x4,v3)) (ij H)
 rintro⟨x1,v1⟩ hi;subst o1;replace H:=Hr1;clear Hr1;try dsimp only at H ⊢
 refine rc 0 fun _=>?_
 refine Z5 ?_
 refine bT (φ:=fSl tI x1) (v:=v1) [5,18,4] cM fz ?_
 refine bQ ?_
 cases H
 exact To
def rV (a0:List Int) (a1:List Int):Option (List Int):=
 (jR a0).bind fun y1=>
 (cQ (y1++a1)).bind fun z1=>
 some z1
theorem aC6  (a0:List Int) (a1:List Int) (r:List Int) (H:rV a0 a1=some r):FnS Tryz.prog 32 [fSl tI a0,fSl tI a1] [] (fSl tI r) (fun _=>[]):=by
 unfold rV at H
 refine bB Tryz.func32 rfl Tryz.ntmps32 rfl (fun β=>?_)
 refine B5 H fun y1 h1 H=>?_
 refine T_callO a1F rfl rfl rfl (has rfl) (aP.cons (has rfl) aP.nil) rfl (cb rfl) (aHp a0 y1 h1) (Δi:=[]) rfl (fun v1=>?_)
 dsimp only [List.append,_root_.List.cons_append,_root_.List.nil_append]
 refine rc 0 fun _=>?_
 refine B1 H fun z1 h2 H=>?_
 refine iX (ys:=a1) a1F rfl rfl rfl (has rfl) (has rfl) (et rfl) rfl h2 (fun v2=>?_)
 refine rc 0 fun _=>?_
 refine Z3 ?_
 refine bT (φ:=fSl tI z1) (v:=v2) [4,8] cM fz ?_
 refine bQ ?_
 cases H
 exact To
open Go.SX Go.SW Go.Dt
def mU (a0:AN) (a1:Ah):Nat->Int->Int->Option ((Int) ⊕ (Int))
| 0,_,_=>none
| k+1,x4,x5=>
 if x5<(a1.Ad.length:Int)then
  (idx a1.Ad x5).bind fun y1=>
  if y1<0 then
   (some (-1)).bind fun r=>some (Sum.inr r)
  else
   if (a0.AT.length:Int)<=y1 then
    (some (-1)).bind fun r=>some (Sum.inr r)
   else
    (idx a0.AT y1).bind fun y2=>
    if y2.Ar<0 then
     (some (-1)).bind fun r=>some (Sum.inr r)
    else
     (idx a0.AT y1).bind fun y3=>
     if 3<y3.Ar then
      (some (-1)).bind fun r=>some (Sum.inr r)
     else
      (idx a0.AT y1).bind fun y4=>
      (chk (x4+y4.Ar)).bind fun z1=>
      (chk (x5+1)).bind fun z2=>
      mU a0 a1 k z1 z2
 else
  some (Sum.inl x4)
def qQ (AA:Nat) (a0:AN) (a1:Ah):Option (Int):=
 (mU a0 a1 AA 0 0).bind fun o=>match o with
 | Sum.inr r=>some r
 | Sum.inl x1=>
 some x1
theorem aJA (AA:Nat)  (a0:AN) (a1:Ah) (r:Int) (H:qQ AA a0 a1=some r):FnS Tryz.prog 33 [fSt aB a0,fSt aY a1] [] (fI r) (fun _=>[]):=by
 unfold qQ at H
 refine bB Tryz.func33 rfl Tryz.ntmps33 rfl (fun β=>?_)
 refine Z1 ?_
 refine Tn (bU rfl hh bM) fun b1=>?_
 refine Tn (bU rfl hh bM) fun b2=>?_
 revert H;refine B5z fun o1 H Hr1=>?_
 refine aO (fun i=>o1=Sum.inl i) (fun i=>[(5,fI i)]) (fun i=>[aA b2 81 [fI a1.At,fSl tI a1.Ad,fI a1.AW],aA b1 77 [fSl aZ a0.AT,fSl aU a0.AS,fSl aY a0.AQ]]) ?_ ?_
 refine Z7 ?_
 refine Th (ι:=Int × Int) (fun i=>mU a0 a1 i.1 i.2.1 i.2.2=_) (fun i=>[(2,fEq (ptr b1)),(5,fI i.2.1),(9,fSl tI a1.Ad),(10,fI (a1.Ad.length:Int)),(11,fI i.2.2)]) (fun i=>[aA b2 81 [fI a1.At,fSl tI a1.Ad,fI a1.AW],aA b1 77 [fSl aZ a0.AT,fSl aU a0.AS,fSl aY a0.AQ]]) (AA,0,0) H (fun _ h=>nomatch h) ?_
 clear H;rintro k1 ⟨x4,x5⟩ H;dsimp only at H ⊢;rw [mU]at H
 refine Z3 ?_
 refine aG ?_
 revert H;refine is (fun c1 H=>?_) fun c1 H=>?_
 refine Z3 ?_
 refine aG ?_
 revert H;refine B2z fun y1 h1 H=>?_
 refine Z4 ?_
 refine aG ?_
 revert H;refine I4z (fun c2 H=>?_) fun c2 H=>?_
 refine Z12 ?_
 refine Z12 ?_
 revert H;refine B11z fun r1 H e1=>?_
 cases e1;cases Hr1
 cases H
 refine aE [] (by decide) ?_
 exact To
 revert H;refine I7z (fun c3 H=>?_) fun c3 H=>?_
 refine Z12 ?_
 refine Z12 ?_
 revert H;refine B4z fun r2 H e2=>?_
 cases e2;cases Hr1
 cases H
 refine aE [] (by decide) ?_
 exact To
 revert H;refine B3z fun y2 h2 H=>?_
 refine Yg c3 (cT rfl hh hh (el rfl) h2) ?_
 revert H;refine I5z (fun c4 H=>?_) fun c4 H=>?_
 refine Z12 ?_
 revert H;refine B7z fun r3 H e3=>?_
 cases e3;cases Hr1
 cases H
 refine aE [] (by decide) ?_
 exact To
 revert H;refine B3z fun y3 h3 H=>?_
 refine Yg c4 (cT rfl hh hh (el rfl) h3) ?_
 revert H;refine I5z (fun c5 H=>?_) fun c5 H=>?_
 revert H;refine dS fun r4 H e4=>?_
 cases e4;cases Hr1
 cases H
 refine aE [] (by decide) ?_
 exact To
 revert H;refine B8z fun y4 h4 H=>?_
 revert H;refine B3z fun z1 h5 H=>?_
 revert H;refine B6z fun z2 h6 H=>?_
 refine Z3 ?_
 exact Tm ((k1,z1,z2)) ⟨H,ls⟩
 refine Z6 ?_
 exact Tm (x4) (ij H)
 rintro x1 hi;subst o1;replace H:=Hr1;clear Hr1;try dsimp only at H ⊢
 refine Z5 ?_
 cases H
 refine aE [] (by decide) ?_
 exact To
open Go.SX Go.SW Go.Dt
def oD (AA:Nat) (a0:Ai) (a1:Int) (a2:List Int) (y4:Ao) (y8:List Int):Nat->Int->(List AV)->Option ((List AV) ⊕ (Ai × Bool))
| 0,_,_=>none
| k+1,x8,x9=>
 if x8<(y4.AX.length:Int)then
  (idx y4.AX x8).bind fun y13=>
  (kZ AA (⟨y13.Op,y13.N,y13.AM⟩:AV) a2).bind fun y14=>
  bif y14.2 then
   (cQ (x9++[(⟨y14.1.Op,y14.1.N,y14.1.AM⟩:AV)])).bind fun z1=>
   (chk (x8+1)).bind fun z2=>
   oD AA a0 a1 a2 y4 y8 k z2 z1
  else
   (some ((⟨(⟨a0.AH.AF,a0.AH.AI,a0.AH.AB,a0.AH.AD,a0.AH.AG⟩:AH),a0.AY.set a1.toNat a2,a0.AU.set a1.toNat y8,a0.AP.set a1.toNat true,(⟨a0.AO.AF,a0.AO.AB,a0.AO.AD,a0.AO.AG⟩:AJ)⟩:Ai),false)).bind fun r=>some (Sum.inr r)
 else
  some (Sum.inl x9)
def pZ (AA:Nat) (rec_flat_view_node:Ai->Int->(List Int)->Int->Option (Ai × Bool)) (y2:AN) (z2:Int) (y5:List Int):Nat->Int->(List ByteArray)->(List Int)->(List Ao)->(List AN)->Int->(List (List Int))->(List (List Int))->(List Bool)->(List ByteArray)->(List AZ)->(List AN)->Int->Option ((List ByteArray × List Int × List Ao × List AN × Int × List (List Int) × List (List Int) × List Bool × List ByteArray × List AZ × List AN × Int) ⊕ (Ai × Bool))
| 0,_,_,_,_,_,_,_,_,_,_,_,_,_=>none
| k+1,x26,x27,x28,x29,x30,x31,x32,x33,x34,x35,x36,x37,x38=>
 if x26<(y2.AQ.length:Int)then
  (idx y2.AQ x26).bind fun y6=>
  (qQ AA (⟨y2.AT,y2.AS,y2.AQ⟩:AN) (⟨y6.At,y6.Ad,y6.AW⟩:Ah)).bind fun y7=>
  if y7<0 then
   (some ((⟨(⟨x27,x28,x29,x30,x31⟩:AH),x32,x33,x34,(⟨x35,x36,x37,x38⟩:AJ)⟩:Ai),false)).bind fun r=>some (Sum.inr r)
  else
   (vH AA z2 y7).bind fun y8=>
   (rV y5 y8).bind fun y9=>
   (chk (z2+y7)).bind fun z3=>
   (rec_flat_view_node (⟨(⟨x27,x28,x29,x30,x31⟩:AH),x32,x33,x34,(⟨x35,x36,x37,x38⟩:AJ)⟩:Ai) y6.AW y9 z3).bind fun y10=>
   bif y10.2 then
    (chk (x26+1)).bind fun z4=>
    pZ AA rec_flat_view_node y2 z2 y5 k z4 y10.1.AH.AF y10.1.AH.AI y10.1.AH.AB y10.1.AH.AD y10.1.AH.AG y10.1.AY y10.1.AU y10.1.AP y10.1.AO.AF y10.1.AO.AB y10.1.AO.AD y10.1.AO.AG
   else
    (some ((⟨(⟨y10.1.AH.AF,y10.1.AH.AI,y10.1.AH.AB,y10.1.AH.AD,y10.1.AH.AG⟩:AH),y10.1.AY,y10.1.AU,y10.1.AP,(⟨y10.1.AO.AF,y10.1.AO.AB,y10.1.AO.AD,y10.1.AO.AG⟩:AJ)⟩:Ai),false)).bind fun r=>some (Sum.inr r)
 else
  some (Sum.inl (x27,x28,x29,x30,x31,x32,x33,x34,x35,x36,x37,x38))
def pT (rec_flat_view_node:Ai->Int->(List Int)->Int->Option (Ai × Bool)) (y2:AN) (z2:Int) (y5:List Int):Nat->Int->(List ByteArray)->(List Int)->(List Ao)->(List AN)->Int->(List (List Int))->(List (List Int))->(List Bool)->(List ByteArray)->(List AZ)->(List AN)->Int->Option ((List ByteArray × List Int × List Ao × List AN × Int × List (List Int) × List (List Int) × List Bool × List ByteArray × List AZ × List AN × Int) ⊕ (Ai × Bool))
| 0,_,_,_,_,_,_,_,_,_,_,_,_,_=>none
| k+1,x64,x65,x66,x67,x68,x69,x70,x71,x72,x73,x74,x75,x76=>
 if x64<(y2.AS.length:Int)then
  (idx y2.AS x64).bind fun y11=>
  (rec_flat_view_node (⟨(⟨x65,x66,x67,x68,x69⟩:AH),x70,x71,x72,(⟨x73,x74,x75,x76⟩:AJ)⟩:Ai) y11.AW y5 z2).bind fun y12=>
  bif y12.2 then
   (chk (x64+1)).bind fun z5=>
   pT rec_flat_view_node y2 z2 y5 k z5 y12.1.AH.AF y12.1.AH.AI y12.1.AH.AB y12.1.AH.AD y12.1.AH.AG y12.1.AY y12.1.AU y12.1.AP y12.1.AO.AF y12.1.AO.AB y12.1.AO.AD y12.1.AO.AG
  else
   (some ((⟨(⟨y12.1.AH.AF,y12.1.AH.AI,y12.1.AH.AB,y12.1.AH.AD,y12.1.AH.AG⟩:AH),y12.1.AY,y12.1.AU,y12.1.AP,(⟨y12.1.AO.AF,y12.1.AO.AB,y12.1.AO.AD,y12.1.AO.AG⟩:AJ)⟩:Ai),false)).bind fun r=>some (Sum.inr r)
 else
  some (Sum.inl (x65,x66,x67,x68,x69,x70,x71,x72,x73,x74,x75,x76))
def qD (rec_flat_view_node:Ai->Int->(List Int)->Int->Option (Ai × Bool)) (a1:List Int) (a2:List Int) (a3:Int):Nat->Int->(List ByteArray)->(List Int)->(List Ao)->(List AN)->Int->(List (List Int))->(List (List Int))->(List Bool)->(List ByteArray)->(List AZ)->(List AN)->Int->Option ((List ByteArray × List Int × List Ao × List AN × Int × List (List Int) × List (List Int) × List Bool × List ByteArray × List AZ × List AN × Int) ⊕ (Ai × Bool))
| 0,_,_,_,_,_,_,_,_,_,_,_,_,_=>none
| k+1,x26,x27,x28,x29,x30,x31,x32,x33,x34,x35,x36,x37,x38=>
 if x26<(a1.length:Int)then
  (idx a1 x26).bind fun y1=>
  (rec_flat_view_node (⟨(⟨x27,x28,x29,x30,x31⟩:AH),x32,x33,x34,(⟨x35,x36,x37,x38⟩:AJ)⟩:Ai) y1 a2 a3).bind fun y2=>
  bif y2.2 then
   (chk (x26+1)).bind fun z1=>
   qD rec_flat_view_node a1 a2 a3 k z1 y2.1.AH.AF y2.1.AH.AI y2.1.AH.AB y2.1.AH.AD y2.1.AH.AG y2.1.AY y2.1.AU y2.1.AP y2.1.AO.AF y2.1.AO.AB y2.1.AO.AD y2.1.AO.AG
  else
   (some ((⟨(⟨y2.1.AH.AF,y2.1.AH.AI,y2.1.AH.AB,y2.1.AH.AD,y2.1.AH.AG⟩:AH),y2.1.AY,y2.1.AU,y2.1.AP,(⟨y2.1.AO.AF,y2.1.AO.AB,y2.1.AO.AD,y2.1.AO.AG⟩:AJ)⟩:Ai),false)).bind fun r=>some (Sum.inr r)
 else
  some (Sum.inl (x27,x28,x29,x30,x31,x32,x33,x34,x35,x36,x37,x38))
mutual
def eL:Nat->Ai->Int->(List Int)->Int->Option (Ai × Bool)
| 0,_,_,_,_=>none
| AA+1,a0,a1,a2,a3=>
 if a1<0 then
  some ((⟨(⟨a0.AH.AF,a0.AH.AI,a0.AH.AB,a0.AH.AD,a0.AH.AG⟩:AH),a0.AY,a0.AU,a0.AP,(⟨a0.AO.AF,a0.AO.AB,a0.AO.AD,a0.AO.AG⟩:AJ)⟩:Ai),false)
 else
  if (a0.AH.AB.length:Int)<=a1 then
   some ((⟨(⟨a0.AH.AF,a0.AH.AI,a0.AH.AB,a0.AH.AD,a0.AH.AG⟩:AH),a0.AY,a0.AU,a0.AP,(⟨a0.AO.AF,a0.AO.AB,a0.AO.AD,a0.AO.AG⟩:AJ)⟩:Ai),false)
  else
   (idx a0.AP a1).bind fun y1=>
   bif y1 then
    some ((⟨(⟨a0.AH.AF,a0.AH.AI,a0.AH.AB,a0.AH.AD,a0.AH.AG⟩:AH),a0.AY,a0.AU,a0.AP,(⟨a0.AO.AF,a0.AO.AB,a0.AO.AD,a0.AO.AG⟩:AJ)⟩:Ai),false)
   else
    (idx a0.AP a1).bind fun y2=>
    (idx a0.AY a1).bind fun y3=>
    (idx a0.AH.AB a1).bind fun y4=>
    ((qT y4.Op).bind fun y5=>
    bif !y5 then
     if 0<(y4.AI.length:Int)then
      (some ((⟨(⟨a0.AH.AF,a0.AH.AI,a0.AH.AB,a0.AH.AD,a0.AH.AG⟩:AH),a0.AY.set a1.toNat a2,a0.AU,a0.AP.set a1.toNat true,(⟨a0.AO.AF,a0.AO.AB,a0.AO.AD,a0.AO.AG⟩:AJ)⟩:Ai),false)).bind fun r=>some (Sum.inr r)
     else
      (oE AA y4.AI (a2.length:Int)).bind fun y6=>
      bif y6 then
       some (Sum.inl ())
      else
       (some ((⟨(⟨a0.AH.AF,a0.AH.AI,a0.AH.AB,a0.AH.AD,a0.AH.AG⟩:AH),a0.AY.set a1.toNat a2,a0.AU,a0.AP.set a1.toNat true,(⟨a0.AO.AF,a0.AO.AB,a0.AO.AD,a0.AO.AG⟩:AJ)⟩:Ai),false)).bind fun r=>some (Sum.inr r)
    else
     (oE AA y4.AI (a2.length:Int)).bind fun y7=>
     bif y7 then
      some (Sum.inl ())
     else
      (some ((⟨(⟨a0.AH.AF,a0.AH.AI,a0.AH.AB,a0.AH.AD,a0.AH.AG⟩:AH),a0.AY.set a1.toNat a2,a0.AU,a0.AP.set a1.toNat true,(⟨a0.AO.AF,a0.AO.AB,a0.AO.AD,a0.AO.AG⟩:AJ)⟩:Ai),false)).bind fun r=>some (Sum.inr r)).bind fun o=>match o with
    | Sum.inr r=>some r
    | Sum.inl _=>
    (sL AA a2 y4.AI).bind fun y8=>
    (idx a0.AU a1).bind fun y9=>
    (jR y4.AM).bind fun y10=>
    ((if y4.Op=6 then
     some (decide (y4.Op=6))
    else
     some (decide (y4.Op=8))).bind fun x2=>
    bif x2 then
     (idx (a0.AU.set a1.toNat y8) a1).bind fun y11=>
     some y11
    else
     some a2).bind fun x1=>
    ((if y4.Op=2 then
     some (decide (y4.Op=2))
    else
     if y4.Op=6 then
      some (decide (y4.Op=6))
     else
      some (decide (y4.Op=8))).bind fun x4=>
    bif x4 then
     if y4.N<0 then
      (some ((⟨(⟨a0.AH.AF,a0.AH.AI,a0.AH.AB,a0.AH.AD,a0.AH.AG⟩:AH),a0.AY.set a1.toNat a2,a0.AU.set a1.toNat y8,a0.AP.set a1.toNat true,(⟨a0.AO.AF,a0.AO.AB,a0.AO.AD,a0.AO.AG⟩:AJ)⟩:Ai),false)).bind fun r=>some (Sum.inr r)
     else
      if (x1.length:Int)<=y4.N then
       (some ((⟨(⟨a0.AH.AF,a0.AH.AI,a0.AH.AB,a0.AH.AD,a0.AH.AG⟩:AH),a0.AY.set a1.toNat a2,a0.AU.set a1.toNat y8,a0.AP.set a1.toNat true,(⟨a0.AO.AF,a0.AO.AB,a0.AO.AD,a0.AO.AG⟩:AJ)⟩:Ai),false)).bind fun r=>some (Sum.inr r)
      else
       (idx x1 y4.N).bind fun y12=>
       some (Sum.inl y12)
    else
     some (Sum.inl y4.N)).bind fun o=>match o with
    | Sum.inr r=>some r
    | Sum.inl x3=>
    (oD AA a0 a1 a2 y4 y8 AA 0 []).bind fun o=>match o with
    | Sum.inr r=>some r
    | Sum.inl x5=>
    (idx a0.AO.AB a1).bind fun y15=>
    if y4.Op=4 then
     ((pL AA) (⟨(⟨a0.AH.AF,a0.AH.AI,a0.AH.AB,a0.AH.AD,a0.AH.AG⟩:AH),a0.AY.set a1.toNat a2,a0.AU.set a1.toNat y8,a0.AP.set a1.toNat true,(⟨a0.AO.AF,a0.AO.AB.set a1.toNat (⟨y4.Op,x3,x5,y10⟩:AZ),a0.AO.AD,a0.AO.AG⟩:AJ)⟩:Ai) a1 a2 a3).bind fun y16=>
     some ((⟨(⟨y16.1.AH.AF,y16.1.AH.AI,y16.1.AH.AB,y16.1.AH.AD,y16.1.AH.AG⟩:AH),y16.1.AY,y16.1.AU,y16.1.AP,(⟨y16.1.AO.AF,y16.1.AO.AB,y16.1.AO.AD,y16.1.AO.AG⟩:AJ)⟩:Ai),y16.2)
    else
     ((kW AA) (⟨(⟨a0.AH.AF,a0.AH.AI,a0.AH.AB,a0.AH.AD,a0.AH.AG⟩:AH),a0.AY.set a1.toNat a2,a0.AU.set a1.toNat y8,a0.AP.set a1.toNat true,(⟨a0.AO.AF,a0.AO.AB.set a1.toNat (⟨y4.Op,x3,x5,y10⟩:AZ),a0.AO.AD,a0.AO.AG⟩:AJ)⟩:Ai) y4.AM x1 a3).bind fun y17=>
     some ((⟨(⟨y17.1.AH.AF,y17.1.AH.AI,y17.1.AH.AB,y17.1.AH.AD,y17.1.AH.AG⟩:AH),y17.1.AY,y17.1.AU,y17.1.AP,(⟨y17.1.AO.AF,y17.1.AO.AB,y17.1.AO.AD,y17.1.AO.AG⟩:AJ)⟩:Ai),y17.2)
def pL:Nat->Ai->Int->(List Int)->Int->Option (Ai × Bool)
| 0,_,_,_,_=>none
| AA+1,a0,a1,a2,a3=>
 (idx a0.AH.AB a1).bind fun y1=>
 if y1.N<0 then
  some ((⟨(⟨a0.AH.AF,a0.AH.AI,a0.AH.AB,a0.AH.AD,a0.AH.AG⟩:AH),a0.AY,a0.AU,a0.AP,(⟨a0.AO.AF,a0.AO.AB,a0.AO.AD,a0.AO.AG⟩:AJ)⟩:Ai),false)
 else
  if (a0.AH.AD.length:Int)<=y1.N then
   some ((⟨(⟨a0.AH.AF,a0.AH.AI,a0.AH.AB,a0.AH.AD,a0.AH.AG⟩:AH),a0.AY,a0.AU,a0.AP,(⟨a0.AO.AF,a0.AO.AB,a0.AO.AD,a0.AO.AG⟩:AJ)⟩:Ai),false)
  else
   (idx a0.AH.AD y1.N).bind fun y2=>
   (chk ((y2.AT.length:Int)+(y2.AS.length:Int))).bind fun z1=>
   (vH AA a3 z1).bind fun y3=>
   (chk (a3+(y3.length:Int))).bind fun z2=>
   (idx a0.AU a1).bind fun y4=>
   (rV y4 y3).bind fun y5=>
   (pZ AA (eL AA) y2 z2 y5 AA 0 a0.AH.AF a0.AH.AI a0.AH.AB a0.AH.AD a0.AH.AG a0.AY a0.AU a0.AP a0.AO.AF a0.AO.AB a0.AO.AD a0.AO.AG).bind fun o=>match o with
   | Sum.inr r=>some r
   | Sum.inl (x1,x2,x3,x4,x5,x6,x7,x8,x9,x10,x11,x12)=>
   (pT (eL AA) y2 z2 y5 AA 0 x1 x2 x3 x4 x5 x6 x7 x8 x9 x10 x11 x12).bind fun o=>match o with
   | Sum.inr r=>some r
   | Sum.inl (x39,x40,x41,x42,x43,x44,x45,x46,x47,x48,x49,x50)=>
   (rV a2 y3).bind fun y13=>
   ((kW AA) (⟨(⟨x39,x40,x41,x42,x43⟩:AH),x44,x45,x46,(⟨x47,x48,x49,x50⟩:AJ)⟩:Ai) y1.AM y13 z2).bind fun y14=>
   some ((⟨(⟨y14.1.AH.AF,y14.1.AH.AI,y14.1.AH.AB,y14.1.AH.AD,y14.1.AH.AG⟩:AH),y14.1.AY,y14.1.AU,y14.1.AP,(⟨y14.1.AO.AF,y14.1.AO.AB,y14.1.AO.AD,y14.1.AO.AG⟩:AJ)⟩:Ai),y14.2)
def kW:Nat->Ai->(List Int)->(List Int)->Int->Option (Ai × Bool)
| 0,_,_,_,_=>none
| AA+1,a0,a1,a2,a3=>
 (qD (eL AA) a1 a2 a3 AA 0 a0.AH.AF a0.AH.AI a0.AH.AB a0.AH.AD a0.AH.AG a0.AY a0.AU a0.AP a0.AO.AF a0.AO.AB a0.AO.AD a0.AO.AG).bind fun o=>match o with
 | Sum.inr r=>some r
 | Sum.inl (x1,x2,x3,x4,x5,x6,x7,x8,x9,x10,x11,x12)=>
 some ((⟨(⟨x1,x2,x3,x4,x5⟩:AH),x6,x7,x8,(⟨x9,x10,x11,x12⟩:AJ)⟩:Ai),true)
end
theorem aIO:∀ (AA:Nat),(∀ (p0:Nat) (a0:Ai) (a1:Int) (a2:List Int) (a3:Int) (r:Ai × Bool) (H:eL AA a0 a1 a2 a3=some r),FnS Tryz.prog 77 [fEq (.pointer (some ⟨p0,0,none⟩)),fI a1,fSl tI a2,fI a3] [kD p0 a0] (aH r.2) (fun _=>[kD p0 r.1]))/\(∀ (p0:Nat) (a0:Ai) (a1:Int) (a2:List Int) (a3:Int) (r:Ai × Bool) (H:pL AA a0 a1 a2 a3=some r),FnS Tryz.prog 108 [fEq (.pointer (some ⟨p0,0,none⟩)),fI a1,fSl tI a2,fI a3] [kD p0 a0] (aH r.2) (fun _=>[kD p0 r.1]))/\(∀ (p0:Nat) (a0:Ai) (a1:List Int) (a2:List Int) (a3:Int) (r:Ai × Bool) (H:kW AA a0 a1 a2 a3=some r),FnS Tryz.prog 109 [fEq (.pointer (some ⟨p0,0,none⟩)),fSl tI a1,fSl tI a2,fI a3] [kD p0 a0] (aH r.2) (fun _=>[kD p0 r.1])):=by
 intro AA
 induction AA with
 | zero=>exact⟨fun p0 a0 a1 a2 a3 r H=>(by rw [eL]at H;cases H),fun p0 a0 a1 a2 a3 r H=>(by rw [pL]at H;cases H),fun p0 a0 a1 a2 a3 r H=>(by rw [kW]at H;cases H)⟩
 | succ AA ih=>
 obtain⟨ih_flat_view_node,ih_flat_view_def,ih_flat_view_kids⟩:=@ih
 refine⟨?_,?_,?_⟩
 intro p0 a0 a1 a2 a3 r H
 rw [eL]at H
 refine bB Tryz.func77 rfl Tryz.ntmps77 rfl (fun β=>?_)
 refine lW (fun v1 v2 v3 v4=>?_)
 refine rc 1 fun hc_v1=>?_
 refine rc 2 fun hc_v2=>?_
 refine rc 3 fun hc_v3=>?_
 refine rc 4 fun hc_v4=>?_
 refine Z3 ?_
 refine aG ?_
 refine I4 H (fun c1 H=>?_) fun c1 H=>?_
 refine Z12 ?_
 refine Z12 ?_
 refine eM ?_
 cases H
 exact To
 refine I10 H (fun c2 H=>?_) fun c2 H=>?_
 refine Z12 ?_
 refine Z2 ?_
 refine eM ?_
 cases H
 exact To
 refine B5 H fun y1 h1 H=>?_
 refine Yh 3 rfl c2 (jO rfl hh hh (el rfl) h1) ?_
 refine Yh 3 rfl c2 (iA rfl rfl hh (sc rfl) (dN h1) rfl) ?_
 refine Z2 ?_
 refine cz H (fun c3 H=>?_) fun c3 H=>?_
 refine Z5 ?_
 refine eM ?_
 cases H
 exact To
 refine Z3 ?_
 refine aG ?_
 refine bz H fun y2 h2 H=>?_
 refine bz H fun y3 h3 H=>?_
 apply bD (ods:=[_,_,_,_,_,_,_,_,_,_,_,_,_,_,_]) 15 0 5 bC rfl rfl rfl
 refine ND ?_
 refine M8 ?_
 intros
 refine M4 ?_
 intros
 refine mJ (od:=odC [3] true (dP) [aC v3 4 aR (a0.AP.set a1.toNat true)]) (p:=3) (z':=true) rfl (fun _=>rfl) (fun _=>rfl) a1F rfl rfl rfl rfl (has rfl) (has rfl) (aF a1F) (sz rfl) (dN h2) rfl rfl (fun _=>?_)
 refine M1 ?_
 intros
 refine mJ (od:=odC [1] true (dP) [aC v1 27 (tSl tI) (a0.AY.set a1.toNat a2)]) (p:=1) (z':=a2) rfl (fun _=>rfl) (fun _=>rfl) a1F rfl rfl rfl rfl (has rfl) (has rfl) (aS) (sz rfl) (dN h3) rfl rfl (fun _=>?_)
 refine B9 H fun y4 h4 H=>?_
 refine Z2 ?_
 refine Tn (cB rfl aBF rfl) fun b1=>?_
 refine cO (φs':=[fI y4.Op,fI y4.N,fSl aN y4.AX,fSl tI y4.AM,fSl tI y4.AI]) a1F rfl rfl (has rfl) (has rfl) (aI (aF a1F) (aI (aF a1F) (aI (aS) (aI (aS) (aI (aS) bN))))) (sz rfl) rfl rfl rfl ?_
 revert H;refine B1z fun o1 H Hr1=>?_
 refine aO (ι:=Unit) (fun i=>o1=Sum.inl ()) (fun i=>[(0,fEq (ptr p0)),(1,fI a1),(2,fSl tI a2),(3,fI a3),(9,fEq (ptr b1))]) (fun i=>[aA b1 54 [fI y4.Op,fI y4.N,fSl aN y4.AX,fSl tI y4.AM,fSl tI y4.AI],aA p0 113 [fSl aD a0.AH.AF,fSl tI a0.AH.AI,fSl aW a0.AH.AB,fSl aB a0.AH.AD,fI a0.AH.AG,fEq v1,fEq v2,fEq v3,fSl aD a0.AO.AF,fEq v4,fSl aB a0.AO.AD,fI a0.AO.AG],aC v1 27 (tSl tI) (a0.AY.set a1.toNat a2),aC v2 27 (tSl tI) a0.AU,aC v3 4 aR (a0.AP.set a1.toNat true),aC v4 65 aJ a0.AO.AB]) ?_ ?_
 revert H;refine B3z fun y5 h5 H=>?_
 refine Tc (aG5 _ _ h5) ?_
 refine Z2 ?_
 revert H;refine cs (fun c4 H=>?_) fun c4 H=>?_
 revert H;refine I6z (fun c5 H=>?_) fun c5 H=>?_
 refine Z12 ?_
 revert H;refine B1z fun r1 H e1=>?_
 cases e1;cases Hr1
 refine cP ?_
 refine cP ?_
 refine cP ?_
 refine cP ?_
 refine cP ?_
 refine eM ?_
 cases H
 refine aE [0] (by decide) ?_
 exact To
 revert H;refine B4z fun y6 h6 H=>?_
 refine Tc (aDU _ _ _ _ h6) ?_
 refine Z3 ?_
 revert H;refine cs (fun c6 H=>?_) fun c6 H=>?_
 refine Z3 ?_
 exact Tm (()) (ij H)
 revert H;refine B5z fun r2 H e2=>?_
 cases e2;cases Hr1
 refine cP ?_
 refine cP ?_
 refine cP ?_
 refine cP ?_
 refine cP ?_
 refine eM ?_
 cases H
 refine aE [0] (by decide) ?_
 exact To
 revert H;refine dS fun y7 h7 H=>?_
 refine Tc (aDU _ _ _ _ h7) ?_
 refine Z3 ?_
 revert H;refine cs (fun c7 H=>?_) fun c7 H=>?_
 refine Z3 ?_
 exact Tm (()) (ij H)
 revert H;refine B5z fun r3 H e3=>?_
 cases e3;cases Hr1
 refine cP ?_
 refine cP ?_
 refine cP ?_
 refine cP ?_
 refine cP ?_
 refine eM ?_
 cases H
 refine aE [0] (by decide) ?_
 exact To
 rintro i hi;subst o1;replace H:=Hr1;clear Hr1;try dsimp only at H ⊢
 refine aG ?_
 refine bz H fun y8 h8 H=>?_
 refine bz H fun y9 h9 H=>?_
 apply bD (ods:=[_,_,_,_,_,_,_,_,_,_,_]) 11 0 6 bC rfl rfl rfl
 refine ND ?_
 refine M8 ?_
 intros
 refine Nc (aKE _ _ _ _ h8) fun _=>?_
 refine M1 ?_
 intros
 refine mJ (od:=odC [3] true (dP) [aC v2 27 (tSl tI) (a0.AU.set a1.toNat y8)]) (p:=3) (z':=y8) rfl (fun _=>rfl) (fun _=>rfl) a1F rfl rfl rfl rfl (has rfl) (has rfl) (aS) (sz rfl) (dN h9) rfl rfl (fun _=>?_)
 refine Z2 ?_
 refine aG ?_
 refine bz H fun y10 h10 H=>?_
 apply bD (ods:=[_,_,_,_,_,_,_,_,_,_]) 10 1 7 bC rfl rfl rfl
 refine ND ?_
 refine M6 ?_
 intros
 refine aD3 (od:=odC [] true (fSl tI y10) []) (Φ:=fSl tI y10) rfl (fun _=>rfl) a1F rfl rfl (has rfl) (aP.cons (has rfl) aP.nil) rfl (cb rfl) (aCS y4.AM y10 h10) (fun _=>?_)
 refine My (gL (ψs:=[fI y4.Op,fI y4.N,fEq (.slice none 0 0),fSl tI y10]) rfl aEb rfl (bW.cons (has rfl) (cL (aF a1F)) (bW.cons (has rfl) (cL (aF a1F)) (bW.cons (has rfl) (cL (aS)) bW.nil))) rfl) fun _=>?_
 refine Mn 6 (fun b2=>ptr b2) (fun b2=>aA b2 65 [fI 0,fI 0,fEq (.slice none 0 0),fEq (.slice none 0 0)]) rfl (cB rfl jV rfl) (fun b2 u1=>?_)
 refine mS (od:=od1 8 [6] true (fun b2 _=>dP) (fun b2 _=>[aA b2 65 [fI y4.Op,fI y4.N,fEq (.slice none 0 0),fSl tI y10]])) (p:=6) (φs':=[fI y4.Op,fI y4.N,fEq (.slice none 0 0),fSl tI y10]) rfl (fun _=>rfl) (fun _=>rfl) a1F rfl rfl rfl (has rfl) (has rfl) (aI (aF a1F) (aI (aF a1F) (aI (aF a1F) (aI (aS) bN)))) (sz rfl) rfl rfl rfl (fun _=>?_)
 revert H;refine B6z fun o2 H Hr2=>?_
 refine aO (fun i=>o2=i) (fun i=>[(0,fEq (ptr p0)),(1,fI a1),(2,fSl tI a2),(3,fI a3),(9,fEq (ptr b1)),(10,fEq (ptr b2)),(11,fSl tI i)]) (fun i=>[aA b1 54 [fI y4.Op,fI y4.N,fSl aN y4.AX,fSl tI y4.AM,fSl tI y4.AI],aA p0 113 [fSl aD a0.AH.AF,fSl tI a0.AH.AI,fSl aW a0.AH.AB,fSl aB a0.AH.AD,fI a0.AH.AG,fEq v1,fEq v2,fEq v3,fSl aD a0.AO.AF,fEq v4,fSl aB a0.AO.AD,fI a0.AO.AG],aA b2 65 [fI y4.Op,fI y4.N,fEq (.slice none 0 0),fSl tI y10],aC v1 27 (tSl tI) (a0.AY.set a1.toNat a2),aC v2 27 (tSl tI) (a0.AU.set a1.toNat y8),aC v3 4 aR (a0.AP.set a1.toNat true),aC v4 65 aJ a0.AO.AB]) ?_ ?_
 revert H;refine B5z fun o3 H Hr3=>?_
 refine aO (fun i=>o3=i) (fun i=>[(0,fEq (ptr p0)),(1,fI a1),(2,fSl tI a2),(3,fI a3),(9,fEq (ptr b1)),(10,fEq (ptr b2)),(11,fSl tI a2),(97,aH i)]) (fun i=>[aA b1 54 [fI y4.Op,fI y4.N,fSl aN y4.AX,fSl tI y4.AM,fSl tI y4.AI],aA p0 113 [fSl aD a0.AH.AF,fSl tI a0.AH.AI,fSl aW a0.AH.AB,fSl aB a0.AH.AD,fI a0.AH.AG,fEq v1,fEq v2,fEq v3,fSl aD a0.AO.AF,fEq v4,fSl aB a0.AO.AD,fI a0.AO.AG],aA b2 65 [fI y4.Op,fI y4.N,fEq (.slice none 0 0),fSl tI y10],aC v1 27 (tSl tI) (a0.AY.set a1.toNat a2),aC v2 27 (tSl tI) (a0.AU.set a1.toNat y8),aC v3 4 aR (a0.AP.set a1.toNat true),aC v4 65 aJ a0.AO.AB]) ?_ ?_
 revert H;refine I4z (fun c8 H=>?_) fun c8 H=>?_
 refine Z3 ?_
 refine aE [0,1,6,2,3,4,5] (by decide) ?_
 exact Tm (decide (y4.Op=6)) (ij H)
 refine Z5 ?_
 refine aE [0,1,6,2,3,4,5] (by decide) ?_
 exact Tm (decide (y4.Op=8)) (ij H)
 rintro x2 hi;subst o3;replace H:=Hr3;clear Hr3;try dsimp only at H ⊢
 revert H;refine cs (fun c9 H=>?_) fun c9 H=>?_
 revert H;refine B7z fun y11 h11 H=>?_
 refine Z1 ?_
 refine Yo 4 rfl (iA rfl rfl hh (sc rfl) (dN h11) rfl) ?_
 refine Z4 ?_
 exact Tm (y11) (ij H)
 refine Z4 ?_
 exact Tm (a2) (ij H)
 rintro x1 hi;subst o2;replace H:=Hr2;clear Hr2;try dsimp only at H ⊢
 revert H;refine bs fun o4 H Hr4=>?_
 refine aO (fun i=>o4=Sum.inl i) (fun i=>[(0,fEq (ptr p0)),(1,fI a1),(2,fSl tI a2),(3,fI a3),(9,fEq (ptr b1)),(10,fEq (ptr b2)),(11,fSl tI x1)]) (fun i=>[aA b2 65 [fI y4.Op,fI i,fEq (.slice none 0 0),fSl tI y10],aA b1 54 [fI y4.Op,fI y4.N,fSl aN y4.AX,fSl tI y4.AM,fSl tI y4.AI],aA p0 113 [fSl aD a0.AH.AF,fSl tI a0.AH.AI,fSl aW a0.AH.AB,fSl aB a0.AH.AD,fI a0.AH.AG,fEq v1,fEq v2,fEq v3,fSl aD a0.AO.AF,fEq v4,fSl aB a0.AO.AD,fI a0.AO.AG],aC v1 27 (tSl tI) (a0.AY.set a1.toNat a2),aC v2 27 (tSl tI) (a0.AU.set a1.toNat y8),aC v3 4 aR (a0.AP.set a1.toNat true),aC v4 65 aJ a0.AO.AB]) ?_ ?_
 revert H;refine B5z fun o5 H Hr5=>?_
 refine aO (fun i=>o5=i) (fun i=>[(0,fEq (ptr p0)),(1,fI a1),(2,fSl tI a2),(3,fI a3),(9,fEq (ptr b1)),(10,fEq (ptr b2)),(11,fSl tI x1),(109,aH i)]) (fun i=>[aA b1 54 [fI y4.Op,fI y4.N,fSl aN y4.AX,fSl tI y4.AM,fSl tI y4.AI],aA p0 113 [fSl aD a0.AH.AF,fSl tI a0.AH.AI,fSl aW a0.AH.AB,fSl aB a0.AH.AD,fI a0.AH.AG,fEq v1,fEq v2,fEq v3,fSl aD a0.AO.AF,fEq v4,fSl aB a0.AO.AD,fI a0.AO.AG],aA b2 65 [fI y4.Op,fI y4.N,fEq (.slice none 0 0),fSl tI y10],aC v1 27 (tSl tI) (a0.AY.set a1.toNat a2),aC v2 27 (tSl tI) (a0.AU.set a1.toNat y8),aC v3 4 aR (a0.AP.set a1.toNat true),aC v4 65 aJ a0.AO.AB]) ?_ ?_
 revert H;refine I4z (fun c10 H=>?_) fun c10 H=>?_
 refine Z3 ?_
 exact Tm (decide (y4.Op=2)) (ij H)
 revert H;refine I5z (fun c11 H=>?_) fun c11 H=>?_
 refine Z3 ?_
 exact Tm (decide (y4.Op=6)) (ij H)
 refine Z5 ?_
 exact Tm (decide (y4.Op=8)) (ij H)
 rintro x4 hi;subst o5;replace H:=Hr5;clear Hr5;try dsimp only at H ⊢
 revert H;refine cs (fun c12 H=>?_) fun c12 H=>?_
 refine Z1 ?_
 refine aG ?_
 revert H;refine I5z (fun c13 H=>?_) fun c13 H=>?_
 refine Z12 ?_
 revert H;refine B2z fun r4 H e4=>?_
 cases e4;cases Hr4
 refine aV ?_
 refine aV ?_
 refine aV ?_
 refine aV ?_
 refine cP ?_
 refine eM ?_
 cases H
 refine aE [0] (by decide) ?_
 exact To
 revert H;refine I7z (fun c14 H=>?_) fun c14 H=>?_
 revert H;refine B7z fun r5 H e5=>?_
 cases e5;cases Hr4
 refine aV ?_
 refine aV ?_
 refine aV ?_
 refine aV ?_
 refine cP ?_
 refine eM ?_
 cases H
 refine aE [0] (by decide) ?_
 exact To
 revert H;refine B7z fun y12 h12 H=>?_
 refine Z3 ?_
 refine dK ?_
 refine bK (φs':=[fI y4.Op,fI y12,fEq (.slice none 0 0),fSl tI y10]) a1F rfl rfl (has rfl) (has rfl) (aF a1F) (sz rfl) rfl rfl ?_
 refine Z3 ?_
 exact Tm (y12) (ij H)
 refine Z4 ?_
 refine aE [2,0,1,3,4,5,6] (by decide) ?_
 exact Tm (y4.N) (ij H)
 rintro x3 hi;subst o4;replace H:=Hr4;clear Hr4;try dsimp only at H ⊢
 revert H;refine bs fun o6 H Hr6=>?_
 refine aO (ι:=List AV × Value) (fun i=>o6=Sum.inl i.1) (fun i=>[(0,fEq (ptr p0)),(1,fI a1),(2,fSl tI a2),(3,fI a3),(9,fEq (ptr b1)),(10,fEq (ptr b2)),(11,fSl tI x1)]) (fun i=>[aA b2 65 [fI y4.Op,fI x3,fEq i.2,fSl tI y10],aA b1 54 [fI y4.Op,fI y4.N,fSl aN y4.AX,fSl tI y4.AM,fSl tI y4.AI],aA p0 113 [fSl aD a0.AH.AF,fSl tI a0.AH.AI,fSl aW a0.AH.AB,fSl aB a0.AH.AD,fI a0.AH.AG,fEq v1,fEq v2,fEq v3,fSl aD a0.AO.AF,fEq v4,fSl aB a0.AO.AD,fI a0.AO.AG],aC i.2 71 aN i.1,aC v1 27 (tSl tI) (a0.AY.set a1.toNat a2),aC v2 27 (tSl tI) (a0.AU.set a1.toNat y8),aC v3 4 aR (a0.AP.set a1.toNat true),aC v4 65 aJ a0.AO.AB]) ?_ ?_
 refine Z7 ?_
 refine fH aN 71 ?_
 refine aE [1,2,3,0,4,5,6,7] (by decide) ?_
 refine Th (ι:=Int × List AV × Value) (fun i=>oD AA a0 a1 a2 y4 y8 i.1 i.2.1 i.2.2.1=_) (fun i=>[(0,fEq (ptr p0)),(1,fI a1),(2,fSl tI a2),(3,fI a3),(9,fEq (ptr b1)),(10,fEq (ptr b2)),(11,fSl tI x1),(130,fSl aN y4.AX),(131,fI (y4.AX.length:Int)),(132,fI i.2.1)]) (fun i=>[aA b2 65 [fI y4.Op,fI x3,fEq i.2.2.2,fSl tI y10],aA b1 54 [fI y4.Op,fI y4.N,fSl aN y4.AX,fSl tI y4.AM,fSl tI y4.AI],aA p0 113 [fSl aD a0.AH.AF,fSl tI a0.AH.AI,fSl aW a0.AH.AB,fSl aB a0.AH.AD,fI a0.AH.AG,fEq v1,fEq v2,fEq v3,fSl aD a0.AO.AF,fEq v4,fSl aB a0.AO.AD,fI a0.AO.AG],aC i.2.2.2 71 aN i.2.2.1,aC v1 27 (tSl tI) (a0.AY.set a1.toNat a2),aC v2 27 (tSl tI) (a0.AU.set a1.toNat y8),aC v3 4 aR (a0.AP.set a1.toNat true),aC v4 65 aJ a0.AO.AB]) (AA,0,[],(.slice none 0 0)) H (fun _ h=>nomatch h) ?_
 clear H;rintro k1 ⟨x8,x9,v7⟩ H;dsimp only at H ⊢;rw [oD]at H
 refine rc 3 fun hc_v7=>?_
 refine Z3 ?_
 refine aG ?_
 revert H;refine is (fun c15 H=>?_) fun c15 H=>?_
 refine Z3 ?_
 refine aG ?_
 revert H;refine B2z fun y13 h13 H=>?_
 refine Z2 ?_
 refine Tn (cB rfl jX rfl) fun b3=>?_
 refine cO (φs':=[fI y13.Op,fI y13.N,dD y13.AM]) a1F rfl rfl (has rfl) (has rfl) (aI (aF a1F) (aI (aF a1F) (aI (nH) bN))) (sz rfl) rfl rfl rfl ?_
 revert H;refine B4z fun y14 h14 H=>?_
 refine Tc (aJL _ _ _ _ h14) ?_
 refine Z3 ?_
 refine Tn (cB rfl jX rfl) fun b4=>?_
 refine cO (φs':=[fI y14.1.Op,fI y14.1.N,dD y14.1.AM]) a1F rfl rfl (has rfl) (has rfl) (aI (aF a1F) (aI (aF a1F) (aI (nH) bN))) (sz rfl) rfl rfl rfl ?_
 refine Z2 ?_
 refine aG ?_
 refine Z4 ?_
 revert H;refine cs (fun c16 H=>?_) fun c16 H=>?_
 refine Z7 ?_
 refine Tn (eQ (t:=aN) (xs:=[(⟨y14.1.Op,y14.1.N,y14.1.AM⟩:AV)]) rfl (et rfl) (bY.cons rfl hh bM bY.nil) rfl rfl rfl) fun b5=>?_
 generalize (Value.slice (some ⟨b5,0,none⟩) _ _)=v8
 refine rc 0 fun hc_v8=>?_
 revert H;refine bs fun z1 h15 H=>?_
 refine aV ?_
 refine bH ?_
 refine gH a1F rfl rfl rfl (has rfl) (has rfl) (et rfl) rfl h15 (fun v9=>?_)
 refine rc 0 fun hc_v9=>?_
 refine Z1 ?_
 refine cZ ?_
 refine bK (φs':=[fI y4.Op,fI x3,fEq v9,fSl tI y10]) a1F rfl rfl (has rfl) (has rfl) (aF hc_v9) (sz rfl) rfl rfl ?_
 revert H;refine B4z fun z2 h16 H=>?_
 refine Z3 ?_
 refine aE [0,4,5,1,6,7,8,9] (by decide) ?_
 exact Tm ((k1,z2,z1,v9)) ⟨H,ls⟩
 revert H;refine dS fun r6 H e6=>?_
 cases e6;cases Hr6
 refine T_fr9 ?_
 refine T_fr9 ?_
 refine T_fr9 ?_
 refine T_fr9 ?_
 refine T_fr8 ?_
 refine eM ?_
 cases H
 refine aE [0] (by decide) ?_
 exact To
 refine Z6 ?_
 exact Tm ((x9,v7)) (ij H)
 rintro⟨x5,v5⟩ hi;subst o6;replace H:=Hr6;clear Hr6;try dsimp only at H ⊢
 refine rc 3 fun hc_v5=>?_
 refine aG ?_
 refine bz H fun y15 h17 H=>?_
 apply bD (ods:=[_,_,_,_,_,_,_,_]) 8 0 8 bC rfl rfl rfl
 refine ND ?_
 refine M8 ?_
 intros
 refine Z1 ?_
 refine cZ ?_
 refine bT (φ:=fSl aN x5) (v:=v5) [] cM (fun _ h=>nomatch h) ?_
 refine dO (φs':=[fI y4.Op,fI x3,fSl aN x5,fSl tI y10]) (i:=2) rfl rfl ?_
 refine lN 157 (ψ:=eC [fI y4.Op,fI x3,fEq v5,fSl tI y10]) rfl (lA (i:=2) (φs:=[fI y4.Op,fI x3,fEq v5,fSl tI y10]) (φs':=[fI y4.Op,fI x3,fSl aN x5,fSl tI y10]) rfl rfl) ?_
 refine bQ ?_
 refine aV ?_
 refine aGY (z:=(⟨y4.Op,x3,x5,y10⟩:AZ)) a1F rfl rfl rfl (has rfl) (has rfl) (sz rfl) (a0z.1 (dN h17)).1 ?_
 refine Z1 ?_
 refine aG ?_
 refine I5 H (fun c17 H=>?_) fun c17 H=>?_
 refine Z6 ?_
 refine aV ?_
 refine aV ?_
 refine aV ?_
 refine aV ?_
 refine eM ?_
 refine bz H fun y16 h18 H=>?_
 refine Tc (ih_flat_view_def _ _ _ _ _ _ h18) ?_
 refine lW (fun v10 v11 v12 v13=>?_)
 refine rc 1 fun _=>?_
 refine rc 2 fun _=>?_
 refine rc 3 fun _=>?_
 refine rc 4 fun hc_v13=>?_
 refine Z3 ?_
 refine eM ?_
 cases H
 refine aE [0] (by decide) ?_
 exact To
 refine Z9 ?_
 refine aV ?_
 refine aV ?_
 refine aV ?_
 refine aV ?_
 refine eM ?_
 refine bz H fun y17 h19 H=>?_
 refine Tc (ih_flat_view_kids _ _ _ _ _ _ h19) ?_
 refine lW (fun v14 v15 v16 v17=>?_)
 refine rc 1 fun hc_v14=>?_
 refine rc 2 fun hc_v15=>?_
 refine rc 3 fun hc_v16=>?_
 refine rc 4 fun hc_v17=>?_
 refine Z3 ?_
 refine eM ?_
 cases H
 refine aE [0] (by decide) ?_
 exact To
 exact fk
 kernel_rfl
 exact fk
 kernel_rfl
 exact fk
 kernel_rfl
 exact fk
 kernel_rfl
 intro p0 a0 a1 a2 a3 r H
 rw [pL]at H
 refine bB Tryz.func108 rfl Tryz.ntmps108 rfl (fun β=>?_)
 refine lW (fun v1 v2 v3 v4=>?_)
 refine rc 1 fun hc_v1=>?_
 refine rc 2 fun hc_v2=>?_
 refine rc 3 fun hc_v3=>?_
 refine rc 4 fun hc_v4=>?_
 refine B10 H fun y1 h1 H=>?_
 refine Yy (cT rfl hh hh (el rfl) h1) ?_
 refine Z1 ?_
 refine Tn (cB rfl aBF rfl) fun b1=>?_
 refine cO (φs':=[fI y1.Op,fI y1.N,fSl aN y1.AX,fSl tI y1.AM,fSl tI y1.AI]) a1F rfl rfl (has rfl) (has rfl) (aI (aF a1F) (aI (aF a1F) (aI (aS) (aI (aS) (aI (aS) bN))))) (sz rfl) rfl rfl rfl ?_
 refine Z1 ?_
 refine aG ?_
 refine aG ?_
 refine iz H (fun c1 H=>?_) fun c1 H=>?_
 apply bD (ods:=[_,_,_,_,_,_,_,_,_,_,_,_,_,_]) 14 0 6 bC rfl rfl rfl
 refine ND ?_
 refine M8 ?_
 intros
 refine M6 ?_
 intros
 refine Z7 ?_
 refine cP ?_
 refine cP ?_
 refine cP ?_
 refine cP ?_
 refine cP ?_
 refine eM ?_
 cases H
 refine aE [0] (by decide) ?_
 exact To
 exact fk
 kernel_rfl
 apply bD (ods:=[_,_,_,_,_,_,_,_,_,_,_,_,_,_]) 14 0 6 bC rfl rfl rfl
 refine ND ?_
 refine M8 ?_
 intros
 refine M6 ?_
 intros
 refine I2 H (fun c2 H=>?_) fun c2 H=>?_
 refine Z5 ?_
 refine cP ?_
 refine cP ?_
 refine cP ?_
 refine cP ?_
 refine cP ?_
 refine eM ?_
 cases H
 refine aE [0] (by decide) ?_
 exact To
 refine Z3 ?_
 refine aG ?_
 refine bz H fun y2 h2 H=>?_
 apply bD (ods:=[_,_,_,_,_,_,_,_,_,_,_]) 11 1 7 bC rfl rfl rfl
 refine ND ?_
 refine M8 ?_
 intros
 refine M1 ?_
 intros
 refine Mn 6 (fun b2=>ptr b2) (fun b2=>aA b2 77 [fEq (.slice none 0 0),fEq (.slice none 0 0),fEq (.slice none 0 0)]) rfl (cB rfl oP rfl) (fun b2 u1=>?_)
 refine mS (od:=od1 9 [6] true (fun b2 _=>dP) (fun b2 _=>[aA b2 77 [fSl aZ y2.AT,fSl aU y2.AS,fSl aY y2.AQ]])) (p:=6) (φs':=[fSl aZ y2.AT,fSl aU y2.AS,fSl aY y2.AQ]) rfl (fun _=>rfl) (fun _=>rfl) a1F rfl rfl rfl (has rfl) (has rfl) (aI (aS) (aI (aS) (aI (aS) bN))) (sz rfl) rfl rfl rfl (fun _=>?_)
 refine B10 H fun z1 h3 H=>?_
 refine B1 H fun y3 h4 H=>?_
 refine Tc (aEu _ _ _ _ h4) ?_
 refine B6 H fun z2 h5 H=>?_
 refine B9 H fun y4 h6 H=>?_
 refine Z1 ?_
 refine Yo 3 rfl (iA rfl rfl hh (sc rfl) (dN h6) rfl) ?_
 refine B1 H fun y5 h7 H=>?_
 refine Tc (aC6 _ _ _ h7) ?_
 revert H;refine B2z fun o1 H Hr1=>?_
 refine aO (ι:=List ByteArray × List Int × List Ao × List AN × Int × List (List Int) × List (List Int) × List Bool × List ByteArray × List AZ × List AN × Int × Value × Value × Value × Value) (fun i=>o1=Sum.inl (i.1,i.2.1,i.2.2.1,i.2.2.2.1,i.2.2.2.2.1,i.2.2.2.2.2.1,i.2.2.2.2.2.2.1,i.2.2.2.2.2.2.2.1,i.2.2.2.2.2.2.2.2.1,i.2.2.2.2.2.2.2.2.2.1,i.2.2.2.2.2.2.2.2.2.2.1,i.2.2.2.2.2.2.2.2.2.2.2.1)) (fun i=>[(0,fEq (ptr p0)),(2,fSl tI a2),(3,fI z2),(9,fEq (ptr b1)),(10,fEq (ptr b2)),(11,fSl tI y3),(12,fSl tI y5)]) (fun i=>[aA b1 54 [fI y1.Op,fI y1.N,fSl aN y1.AX,fSl tI y1.AM,fSl tI y1.AI],aA p0 113 [fSl aD i.1,fSl tI i.2.1,fSl aW i.2.2.1,fSl aB i.2.2.2.1,fI i.2.2.2.2.1,fEq i.2.2.2.2.2.2.2.2.2.2.2.2.1,fEq i.2.2.2.2.2.2.2.2.2.2.2.2.2.1,fEq i.2.2.2.2.2.2.2.2.2.2.2.2.2.2.1,fSl aD i.2.2.2.2.2.2.2.2.1,fEq i.2.2.2.2.2.2.2.2.2.2.2.2.2.2.2,fSl aB i.2.2.2.2.2.2.2.2.2.2.1,fI i.2.2.2.2.2.2.2.2.2.2.2.1],aA b2 77 [fSl aZ y2.AT,fSl aU y2.AS,fSl aY y2.AQ],aC i.2.2.2.2.2.2.2.2.2.2.2.2.1 27 (tSl tI) i.2.2.2.2.2.1,aC i.2.2.2.2.2.2.2.2.2.2.2.2.2.1 27 (tSl tI) i.2.2.2.2.2.2.1,aC i.2.2.2.2.2.2.2.2.2.2.2.2.2.2.1 4 aR i.2.2.2.2.2.2.2.1,aC i.2.2.2.2.2.2.2.2.2.2.2.2.2.2.2 65 aJ i.2.2.2.2.2.2.2.2.2.1]) ?_ ?_
 refine Z7 ?_
 refine aE [0,1,6,2,3,4,5] (by decide) ?_
 refine Th (ι:=Int × List ByteArray × List Int × List Ao × List AN × Int × List (List Int) × List (List Int) × List Bool × List ByteArray × List AZ × List AN × Int × Value × Value × Value × Value) (fun i=>pZ AA (eL AA) y2 z2 y5 i.1 i.2.1 i.2.2.1 i.2.2.2.1 i.2.2.2.2.1 i.2.2.2.2.2.1 i.2.2.2.2.2.2.1 i.2.2.2.2.2.2.2.1 i.2.2.2.2.2.2.2.2.1 i.2.2.2.2.2.2.2.2.2.1 i.2.2.2.2.2.2.2.2.2.2.1 i.2.2.2.2.2.2.2.2.2.2.2.1 i.2.2.2.2.2.2.2.2.2.2.2.2.1 i.2.2.2.2.2.2.2.2.2.2.2.2.2.1=_) (fun i=>[(0,fEq (ptr p0)),(2,fSl tI a2),(3,fI z2),(9,fEq (ptr b1)),(10,fEq (ptr b2)),(11,fSl tI y3),(12,fSl tI y5),(72,fSl aY y2.AQ),(73,fI (y2.AQ.length:Int)),(74,fI i.2.1)]) (fun i=>[aA b1 54 [fI y1.Op,fI y1.N,fSl aN y1.AX,fSl tI y1.AM,fSl tI y1.AI],aA p0 113 [fSl aD i.2.2.1,fSl tI i.2.2.2.1,fSl aW i.2.2.2.2.1,fSl aB i.2.2.2.2.2.1,fI i.2.2.2.2.2.2.1,fEq i.2.2.2.2.2.2.2.2.2.2.2.2.2.2.1,fEq i.2.2.2.2.2.2.2.2.2.2.2.2.2.2.2.1,fEq i.2.2.2.2.2.2.2.2.2.2.2.2.2.2.2.2.1,fSl aD i.2.2.2.2.2.2.2.2.2.2.1,fEq i.2.2.2.2.2.2.2.2.2.2.2.2.2.2.2.2.2,fSl aB i.2.2.2.2.2.2.2.2.2.2.2.2.1,fI i.2.2.2.2.2.2.2.2.2.2.2.2.2.1],aA b2 77 [fSl aZ y2.AT,fSl aU y2.AS,fSl aY y2.AQ],aC i.2.2.2.2.2.2.2.2.2.2.2.2.2.2.1 27 (tSl tI) i.2.2.2.2.2.2.2.1,aC i.2.2.2.2.2.2.2.2.2.2.2.2.2.2.2.1 27 (tSl tI) i.2.2.2.2.2.2.2.2.1,aC i.2.2.2.2.2.2.2.2.2.2.2.2.2.2.2.2.1 4 aR i.2.2.2.2.2.2.2.2.2.1,aC i.2.2.2.2.2.2.2.2.2.2.2.2.2.2.2.2.2 65 aJ i.2.2.2.2.2.2.2.2.2.2.2.1]) (AA,0,a0.AH.AF,a0.AH.AI,a0.AH.AB,a0.AH.AD,a0.AH.AG,a0.AY,a0.AU,a0.AP,a0.AO.AF,a0.AO.AB,a0.AO.AD,a0.AO.AG,v1,v2,v3,v4) H (fun _ h=>nomatch h) ?_
 clear H;rintro k1 ⟨x26,x27,x28,x29,x30,x31,x32,x33,x34,x35,x36,x37,x38,v13,v14,v15,v16⟩ H;dsimp only at H ⊢;rw [pZ]at H
 refine rc 3 fun hc_v13=>?_
 refine rc 4 fun hc_v14=>?_
 refine rc 5 fun hc_v15=>?_
 refine rc 6 fun hc_v16=>?_
 refine Z3 ?_
 refine aG ?_
 revert H;refine is (fun c3 H=>?_) fun c3 H=>?_
 refine Z3 ?_
 refine aG ?_
 revert H;refine B2z fun y6 h8 H=>?_
 refine Z2 ?_
 refine Tn (cB rfl pM rfl) fun b3=>?_
 refine cO (φs':=[fI y6.At,fSl tI y6.Ad,fI y6.AW]) a1F rfl rfl (has rfl) (has rfl) (aI (aF a1F) (aI (aS) (aI (aF a1F) bN))) (sz rfl) rfl rfl rfl ?_
 revert H;refine B4z fun y7 h9 H=>?_
 refine Tc (aJA _ _ _ _ h9) ?_
 refine Z2 ?_
 refine aG ?_
 revert H;refine is (fun c4 H=>?_) fun c4 H=>?_
 apply bD (ods:=[_,_,_,_,_,_,_,_,_,_,_,_,_,_]) 14 0 8 bC rfl rfl rfl
 refine ND ?_
 refine M8 ?_
 intros
 refine M6 ?_
 intros
 refine Z12 ?_
 revert H;refine B3z fun r1 H e1=>?_
 cases e1;cases Hr1
 refine dI ?_
 refine dI ?_
 refine dI ?_
 refine dI ?_
 refine aV ?_
 refine eM ?_
 cases H
 refine aE [0] (by decide) ?_
 exact To
 exact fk
 kernel_rfl
 revert H;refine bs fun y8 h10 H=>?_
 revert H;refine bs fun y9 h11 H=>?_
 revert H;refine bs fun z3 h12 H=>?_
 apply bD (ods:=[_,_,_,_,_,_,_,_,_,_,_,_,_,_]) 14 0 8 bC rfl rfl rfl
 refine ND ?_
 refine M8 ?_
 intros
 refine M1 ?_
 intros
 refine Nc (aEu _ _ _ _ h10) fun _=>?_
 refine Nc (aC6 _ _ _ h11) fun _=>?_
 refine M3 ?_
 intros
 refine Z1 ?_
 refine dI ?_
 refine dI ?_
 refine dI ?_
 refine dI ?_
 refine aV ?_
 refine eM ?_
 revert H;refine bs fun y10 h13 H=>?_
 refine Tc (ih_flat_view_node _ _ _ _ _ _ h13) ?_
 refine lW (fun v17 v18 v19 v20=>?_)
 refine rc 1 fun hc_v17=>?_
 refine rc 2 fun hc_v18=>?_
 refine rc 3 fun hc_v19=>?_
 refine rc 4 fun hc_v20=>?_
 refine Z3 ?_
 revert H;refine cs (fun c5 H=>?_) fun c5 H=>?_
 revert H;refine B5z fun z4 h14 H=>?_
 refine Z3 ?_
 refine aE [6,0,7,1,2,3,4] (by decide) ?_
 exact Tm ((k1,z4,y10.1.AH.AF,y10.1.AH.AI,y10.1.AH.AB,y10.1.AH.AD,y10.1.AH.AG,y10.1.AY,y10.1.AU,y10.1.AP,y10.1.AO.AF,y10.1.AO.AB,y10.1.AO.AD,y10.1.AO.AG,v17,v18,v19,v20)) ⟨H,ls⟩
 revert H;refine dS fun r2 H e2=>?_
 cases e2;cases Hr1
 refine eM ?_
 cases H
 refine aE [0] (by decide) ?_
 exact To
 exact fk
 kernel_rfl
 refine Z6 ?_
 exact Tm ((x27,x28,x29,x30,x31,x32,x33,x34,x35,x36,x37,x38,v13,v14,v15,v16)) (ij H)
 rintro⟨x1,x2,x3,x4,x5,x6,x7,x8,x9,x10,x11,x12,v5,v6,v7,v8⟩ hi;subst o1;replace H:=Hr1;clear Hr1;try dsimp only at H ⊢
 refine rc 3 fun hc_v5=>?_
 refine rc 4 fun hc_v6=>?_
 refine rc 5 fun hc_v7=>?_
 refine rc 6 fun hc_v8=>?_
 revert H;refine bs fun o2 H Hr2=>?_
 refine aO (ι:=List ByteArray × List Int × List Ao × List AN × Int × List (List Int) × List (List Int) × List Bool × List ByteArray × List AZ × List AN × Int × Value × Value × Value × Value) (fun i=>o2=Sum.inl (i.1,i.2.1,i.2.2.1,i.2.2.2.1,i.2.2.2.2.1,i.2.2.2.2.2.1,i.2.2.2.2.2.2.1,i.2.2.2.2.2.2.2.1,i.2.2.2.2.2.2.2.2.1,i.2.2.2.2.2.2.2.2.2.1,i.2.2.2.2.2.2.2.2.2.2.1,i.2.2.2.2.2.2.2.2.2.2.2.1)) (fun i=>[(0,fEq (ptr p0)),(2,fSl tI a2),(3,fI z2),(9,fEq (ptr b1)),(11,fSl tI y3)]) (fun i=>[aA b1 54 [fI y1.Op,fI y1.N,fSl aN y1.AX,fSl tI y1.AM,fSl tI y1.AI],aA p0 113 [fSl aD i.1,fSl tI i.2.1,fSl aW i.2.2.1,fSl aB i.2.2.2.1,fI i.2.2.2.2.1,fEq i.2.2.2.2.2.2.2.2.2.2.2.2.1,fEq i.2.2.2.2.2.2.2.2.2.2.2.2.2.1,fEq i.2.2.2.2.2.2.2.2.2.2.2.2.2.2.1,fSl aD i.2.2.2.2.2.2.2.2.1,fEq i.2.2.2.2.2.2.2.2.2.2.2.2.2.2.2,fSl aB i.2.2.2.2.2.2.2.2.2.2.1,fI i.2.2.2.2.2.2.2.2.2.2.2.1],aA b2 77 [fSl aZ y2.AT,fSl aU y2.AS,fSl aY y2.AQ],aC i.2.2.2.2.2.2.2.2.2.2.2.2.1 27 (tSl tI) i.2.2.2.2.2.1,aC i.2.2.2.2.2.2.2.2.2.2.2.2.2.1 27 (tSl tI) i.2.2.2.2.2.2.1,aC i.2.2.2.2.2.2.2.2.2.2.2.2.2.2.1 4 aR i.2.2.2.2.2.2.2.1,aC i.2.2.2.2.2.2.2.2.2.2.2.2.2.2.2 65 aJ i.2.2.2.2.2.2.2.2.2.1]) ?_ ?_
 refine Z7 ?_
 refine Th (ι:=Int × List ByteArray × List Int × List Ao × List AN × Int × List (List Int) × List (List Int) × List Bool × List ByteArray × List AZ × List AN × Int × Value × Value × Value × Value) (fun i=>pT (eL AA) y2 z2 y5 i.1 i.2.1 i.2.2.1 i.2.2.2.1 i.2.2.2.2.1 i.2.2.2.2.2.1 i.2.2.2.2.2.2.1 i.2.2.2.2.2.2.2.1 i.2.2.2.2.2.2.2.2.1 i.2.2.2.2.2.2.2.2.2.1 i.2.2.2.2.2.2.2.2.2.2.1 i.2.2.2.2.2.2.2.2.2.2.2.1 i.2.2.2.2.2.2.2.2.2.2.2.2.1 i.2.2.2.2.2.2.2.2.2.2.2.2.2.1=_) (fun i=>[(0,fEq (ptr p0)),(2,fSl tI a2),(3,fI z2),(9,fEq (ptr b1)),(11,fSl tI y3),(12,fSl tI y5),(100,fSl aU y2.AS),(101,fI (y2.AS.length:Int)),(102,fI i.2.1)]) (fun i=>[aA b1 54 [fI y1.Op,fI y1.N,fSl aN y1.AX,fSl tI y1.AM,fSl tI y1.AI],aA p0 113 [fSl aD i.2.2.1,fSl tI i.2.2.2.1,fSl aW i.2.2.2.2.1,fSl aB i.2.2.2.2.2.1,fI i.2.2.2.2.2.2.1,fEq i.2.2.2.2.2.2.2.2.2.2.2.2.2.2.1,fEq i.2.2.2.2.2.2.2.2.2.2.2.2.2.2.2.1,fEq i.2.2.2.2.2.2.2.2.2.2.2.2.2.2.2.2.1,fSl aD i.2.2.2.2.2.2.2.2.2.2.1,fEq i.2.2.2.2.2.2.2.2.2.2.2.2.2.2.2.2.2,fSl aB i.2.2.2.2.2.2.2.2.2.2.2.2.1,fI i.2.2.2.2.2.2.2.2.2.2.2.2.2.1],aA b2 77 [fSl aZ y2.AT,fSl aU y2.AS,fSl aY y2.AQ],aC i.2.2.2.2.2.2.2.2.2.2.2.2.2.2.1 27 (tSl tI) i.2.2.2.2.2.2.2.1,aC i.2.2.2.2.2.2.2.2.2.2.2.2.2.2.2.1 27 (tSl tI) i.2.2.2.2.2.2.2.2.1,aC i.2.2.2.2.2.2.2.2.2.2.2.2.2.2.2.2.1 4 aR i.2.2.2.2.2.2.2.2.2.1,aC i.2.2.2.2.2.2.2.2.2.2.2.2.2.2.2.2.2 65 aJ i.2.2.2.2.2.2.2.2.2.2.2.1]) (AA,0,x1,x2,x3,x4,x5,x6,x7,x8,x9,x10,x11,x12,v5,v6,v7,v8) H (fun _ h=>nomatch h) ?_
 clear H;rintro k2 ⟨x64,x65,x66,x67,x68,x69,x70,x71,x72,x73,x74,x75,x76,v29,v30,v31,v32⟩ H;dsimp only at H ⊢;rw [pT]at H
 refine rc 3 fun _=>?_
 refine rc 4 fun _=>?_
 refine rc 5 fun _=>?_
 refine rc 6 fun _=>?_
 refine Z3 ?_
 refine aG ?_
 revert H;refine is (fun c6 H=>?_) fun c6 H=>?_
 refine Z3 ?_
 refine aG ?_
 revert H;refine B2z fun y11 h15 H=>?_
 refine Z2 ?_
 refine Tn (cB rfl aAA rfl) fun b4=>?_
 refine cO (φs':=[fI y11.In,fI y11.AW]) a1F rfl rfl (has rfl) (has rfl) (aI (aF a1F) (aI (aF a1F) bN)) (sz rfl) rfl rfl rfl ?_
 refine Z7 ?_
 refine dI ?_
 refine dI ?_
 refine dI ?_
 refine dI ?_
 refine aV ?_
 refine eM ?_
 revert H;refine bs fun y12 h16 H=>?_
 refine Tc (ih_flat_view_node _ _ _ _ _ _ h16) ?_
 refine lW (fun v33 v34 v35 v36=>?_)
 refine rc 1 fun _=>?_
 refine rc 2 fun _=>?_
 refine rc 3 fun _=>?_
 refine rc 4 fun _=>?_
 refine Z2 ?_
 revert H;refine cs (fun c7 H=>?_) fun c7 H=>?_
 revert H;refine B5z fun z5 h17 H=>?_
 refine Z3 ?_
 refine aE [6,0,7,1,2,3,4] (by decide) ?_
 exact Tm ((k2,z5,y12.1.AH.AF,y12.1.AH.AI,y12.1.AH.AB,y12.1.AH.AD,y12.1.AH.AG,y12.1.AY,y12.1.AU,y12.1.AP,y12.1.AO.AF,y12.1.AO.AB,y12.1.AO.AD,y12.1.AO.AG,v33,v34,v35,v36)) ⟨H,ls⟩
 revert H;refine dS fun r3 H e3=>?_
 cases e3;cases Hr2
 refine eM ?_
 cases H
 refine aE [0] (by decide) ?_
 exact To
 refine Z6 ?_
 exact Tm ((x65,x66,x67,x68,x69,x70,x71,x72,x73,x74,x75,x76,v29,v30,v31,v32)) (ij H)
 rintro⟨x39,x40,x41,x42,x43,x44,x45,x46,x47,x48,x49,x50,v21,v22,v23,v24⟩ hi;subst o2;replace H:=Hr2;clear Hr2;try dsimp only at H ⊢
 refine rc 3 fun _=>?_
 refine rc 4 fun _=>?_
 refine rc 5 fun _=>?_
 refine rc 6 fun _=>?_
 refine aG ?_
 refine bz H fun y13 h18 H=>?_
 apply bD (ods:=[_,_,_,_,_,_,_]) 7 0 7 bC rfl rfl rfl
 refine ND ?_
 refine M5 ?_
 intros
 refine Nc (aC6 _ _ _ h18) fun _=>?_
 refine M1 ?_
 intros
 refine Z1 ?_
 refine aV ?_
 refine aV ?_
 refine aV ?_
 refine aV ?_
 refine cP ?_
 refine eM ?_
 refine bz H fun y14 h19 H=>?_
 refine Tc (ih_flat_view_kids _ _ _ _ _ _ h19) ?_
 refine lW (fun v37 v38 v39 v40=>?_)
 refine rc 1 fun _=>?_
 refine rc 2 fun _=>?_
 refine rc 3 fun _=>?_
 refine rc 4 fun _=>?_
 refine Z3 ?_
 refine eM ?_
 cases H
 refine aE [0] (by decide) ?_
 exact To
 exact fk
 kernel_rfl
 exact fk
 kernel_rfl
 exact fk
 kernel_rfl
 intro p0 a0 a1 a2 a3 r H
 rw [kW]at H
 refine bB Tryz.func109 rfl Tryz.ntmps109 rfl (fun β=>?_)
 refine lW (fun v1 v2 v3 v4=>?_)
 refine rc 1 fun hc_v1=>?_
 refine rc 2 fun hc_v2=>?_
 refine rc 3 fun hc_v3=>?_
 refine rc 4 fun hc_v4=>?_
 revert H;refine B3z fun o1 H Hr1=>?_
 refine aO (ι:=List ByteArray × List Int × List Ao × List AN × Int × List (List Int) × List (List Int) × List Bool × List ByteArray × List AZ × List AN × Int × Value × Value × Value × Value) (fun i=>o1=Sum.inl (i.1,i.2.1,i.2.2.1,i.2.2.2.1,i.2.2.2.2.1,i.2.2.2.2.2.1,i.2.2.2.2.2.2.1,i.2.2.2.2.2.2.2.1,i.2.2.2.2.2.2.2.2.1,i.2.2.2.2.2.2.2.2.2.1,i.2.2.2.2.2.2.2.2.2.2.1,i.2.2.2.2.2.2.2.2.2.2.2.1)) (fun i=>[(0,fEq (ptr p0))]) (fun i=>[aA p0 113 [fSl aD i.1,fSl tI i.2.1,fSl aW i.2.2.1,fSl aB i.2.2.2.1,fI i.2.2.2.2.1,fEq i.2.2.2.2.2.2.2.2.2.2.2.2.1,fEq i.2.2.2.2.2.2.2.2.2.2.2.2.2.1,fEq i.2.2.2.2.2.2.2.2.2.2.2.2.2.2.1,fSl aD i.2.2.2.2.2.2.2.2.1,fEq i.2.2.2.2.2.2.2.2.2.2.2.2.2.2.2,fSl aB i.2.2.2.2.2.2.2.2.2.2.1,fI i.2.2.2.2.2.2.2.2.2.2.2.1],aC i.2.2.2.2.2.2.2.2.2.2.2.2.1 27 (tSl tI) i.2.2.2.2.2.1,aC i.2.2.2.2.2.2.2.2.2.2.2.2.2.1 27 (tSl tI) i.2.2.2.2.2.2.1,aC i.2.2.2.2.2.2.2.2.2.2.2.2.2.2.1 4 aR i.2.2.2.2.2.2.2.1,aC i.2.2.2.2.2.2.2.2.2.2.2.2.2.2.2 65 aJ i.2.2.2.2.2.2.2.2.2.1]) ?_ ?_
 refine Z6 ?_
 refine Th (ι:=Int × List ByteArray × List Int × List Ao × List AN × Int × List (List Int) × List (List Int) × List Bool × List ByteArray × List AZ × List AN × Int × Value × Value × Value × Value) (fun i=>qD (eL AA) a1 a2 a3 i.1 i.2.1 i.2.2.1 i.2.2.2.1 i.2.2.2.2.1 i.2.2.2.2.2.1 i.2.2.2.2.2.2.1 i.2.2.2.2.2.2.2.1 i.2.2.2.2.2.2.2.2.1 i.2.2.2.2.2.2.2.2.2.1 i.2.2.2.2.2.2.2.2.2.2.1 i.2.2.2.2.2.2.2.2.2.2.2.1 i.2.2.2.2.2.2.2.2.2.2.2.2.1 i.2.2.2.2.2.2.2.2.2.2.2.2.2.1=_) (fun i=>[(0,fEq (ptr p0)),(2,fSl tI a2),(3,fI a3),(11,fSl tI a1),(12,fI (a1.length:Int)),(13,fI i.2.1)]) (fun i=>[aA p0 113 [fSl aD i.2.2.1,fSl tI i.2.2.2.1,fSl aW i.2.2.2.2.1,fSl aB i.2.2.2.2.2.1,fI i.2.2.2.2.2.2.1,fEq i.2.2.2.2.2.2.2.2.2.2.2.2.2.2.1,fEq i.2.2.2.2.2.2.2.2.2.2.2.2.2.2.2.1,fEq i.2.2.2.2.2.2.2.2.2.2.2.2.2.2.2.2.1,fSl aD i.2.2.2.2.2.2.2.2.2.2.1,fEq i.2.2.2.2.2.2.2.2.2.2.2.2.2.2.2.2.2,fSl aB i.2.2.2.2.2.2.2.2.2.2.2.2.1,fI i.2.2.2.2.2.2.2.2.2.2.2.2.2.1],aC i.2.2.2.2.2.2.2.2.2.2.2.2.2.2.1 27 (tSl tI) i.2.2.2.2.2.2.2.1,aC i.2.2.2.2.2.2.2.2.2.2.2.2.2.2.2.1 27 (tSl tI) i.2.2.2.2.2.2.2.2.1,aC i.2.2.2.2.2.2.2.2.2.2.2.2.2.2.2.2.1 4 aR i.2.2.2.2.2.2.2.2.2.1,aC i.2.2.2.2.2.2.2.2.2.2.2.2.2.2.2.2.2 65 aJ i.2.2.2.2.2.2.2.2.2.2.2.1]) (AA,0,a0.AH.AF,a0.AH.AI,a0.AH.AB,a0.AH.AD,a0.AH.AG,a0.AY,a0.AU,a0.AP,a0.AO.AF,a0.AO.AB,a0.AO.AD,a0.AO.AG,v1,v2,v3,v4) H (fun _ h=>nomatch h) ?_
 clear H;rintro k1 ⟨x26,x27,x28,x29,x30,x31,x32,x33,x34,x35,x36,x37,x38,v13,v14,v15,v16⟩ H;dsimp only at H ⊢;rw [qD]at H
 refine rc 1 fun hc_v13=>?_
 refine rc 2 fun hc_v14=>?_
 refine rc 3 fun hc_v15=>?_
 refine rc 4 fun hc_v16=>?_
 refine Z3 ?_
 refine aG ?_
 revert H;refine is (fun c1 H=>?_) fun c1 H=>?_
 refine Z3 ?_
 refine aG ?_
 revert H;refine B2z fun y1 h1 H=>?_
 refine Yy (cT rfl hh hh (el rfl) h1) ?_
 refine Z8 ?_
 refine eM ?_
 revert H;refine bs fun y2 h2 H=>?_
 refine Tc (ih_flat_view_node _ _ _ _ _ _ h2) ?_
 refine lW (fun v17 v18 v19 v20=>?_)
 refine rc 1 fun hc_v17=>?_
 refine rc 2 fun hc_v18=>?_
 refine rc 3 fun hc_v19=>?_
 refine rc 4 fun hc_v20=>?_
 refine Z2 ?_
 revert H;refine cs (fun c2 H=>?_) fun c2 H=>?_
 revert H;refine B5z fun z1 h3 H=>?_
 refine Z3 ?_
 exact Tm ((k1,z1,y2.1.AH.AF,y2.1.AH.AI,y2.1.AH.AB,y2.1.AH.AD,y2.1.AH.AG,y2.1.AY,y2.1.AU,y2.1.AP,y2.1.AO.AF,y2.1.AO.AB,y2.1.AO.AD,y2.1.AO.AG,v17,v18,v19,v20)) ⟨H,ls⟩
 revert H;refine dS fun r1 H e1=>?_
 cases e1;cases Hr1
 refine eM ?_
 cases H
 exact To
 refine Z6 ?_
 exact Tm ((x27,x28,x29,x30,x31,x32,x33,x34,x35,x36,x37,x38,v13,v14,v15,v16)) (ij H)
 rintro⟨x1,x2,x3,x4,x5,x6,x7,x8,x9,x10,x11,x12,v5,v6,v7,v8⟩ hi;subst o1;replace H:=Hr1;clear Hr1;try dsimp only at H ⊢
 refine rc 1 fun hc_v5=>?_
 refine rc 2 fun hc_v6=>?_
 refine rc 3 fun hc_v7=>?_
 refine rc 4 fun hc_v8=>?_
 refine Z4 ?_
 refine eM ?_
 cases H
 exact To
theorem aLd (AA:Nat) (p0:Nat) (a0:Ai) (a1:Int) (a2:List Int) (a3:Int) (r:Ai × Bool) (H:eL AA a0 a1 a2 a3=some r):FnS Tryz.prog 77 [fEq (.pointer (some ⟨p0,0,none⟩)),fI a1,fSl tI a2,fI a3] [kD p0 a0] (aH r.2) (fun _=>[kD p0 r.1]):=(aIO AA).1 p0 a0 a1 a2 a3 r H
open Go.SX Go.SW Go.Dt
theorem aCt (p0:Nat) (e0:Int):FnD Tryz.prog 136 [fEq (ptr p0)] [aA p0 31 [fI e0]] (.returning) [aA p0 31 [fI e0]]:=by
 refine FnD_of Tryz.func136 rfl Tryz.ntmps136 rfl (fun β c₀ cs hc=>?_)
 refine aG6 (v:= .nilIface) (cs':=c₀ :: cs) (by simp [recoverD,hc]) rfl rfl rfl rfl rfl rfl ⟨rfl,rfl⟩ ?_
 refine T_inS ?_
 refine Z2 ?_
 refine Yy (aBo rfl hh aF6 (rfl:iU _=some true)) ?_
 refine Z3 ?_
 exact T_endD (u':= .returning) (.inr rfl) rfl (by cases c₀;cases hc;rfl) rfl rfl
theorem aD0 (p0:Nat) (e0 e1:Int):FnD Tryz.prog 136 [fEq (ptr p0)] [aA p0 31 [fI e0]] (.panicking [{ v:=(.iface 245 (.agg #[.int .i64 e1])),recovered:=false }]) [aA p0 31 [fI e1]]:=by
 refine FnD_of Tryz.func136 rfl Tryz.ntmps136 rfl (fun β c₀ cs hc=>?_)
 refine aG6 (v:=(.iface 245 (.agg #[.int .i64 e1]))) (cs':={ c₀ with mode:= .panicking [{ v:=(.iface 245 (.agg #[.int .i64 e1])),recovered:=true }] } :: cs) (by simp [recoverD,hc]) rfl rfl rfl rfl rfl rfl ⟨rfl,rfl⟩ ?_
 refine T_inS ?_
 refine Z2 ?_
 refine Yy (aBo rfl hh aF6 (rfl:iU _=some false)) ?_
 refine Z4 ?_
 refine Yy (aLl rfl hh aFN aKv) ?_
 refine Z2 ?_
 refine mA 11 rfl (xF [(.int .i64 e1)]) ?_
 refine Z1 ?_
 refine Tn (cB rfl aLx rfl) fun b1=>?_
 refine cO (φs':=[fI e1]) a1F rfl rfl (has rfl) (has rfl) (aI (aF a1F) bN) (sz rfl) rfl rfl rfl ?_
 refine Z2 ?_
 refine aG ?_
 refine Z12 ?_
 refine bH ?_
 refine bK (φs':=[fI e1]) a1F rfl rfl (has rfl) (has rfl) (aF a1F) (sz rfl) rfl rfl ?_
 refine Z1 ?_
 refine aE [0] (by decide) ?_
 exact T_endD (u':= .panicking [{ v:=(.iface 245 (.agg #[.int .i64 e1])),recovered:=true }]) (.inr rfl) rfl rfl rfl rfl
def bZ (a0:Bool):Option (Unit ⊕ Value):=
 bif a0 then
  some (Sum.inl ())
 else
  some (Sum.inr (.iface 245 (.agg ([(.int .i64 2)]:List Value).toArray)))
theorem bA  (a0:Bool) (r:Unit ⊕ Value) (H:bZ a0=some r):FnE Tryz.prog 162 [aH a0] [] r (fun r=>dB []) (fun r=>[]):=by
 unfold bZ at H
 refine rF Tryz.func162 rfl Tryz.ntmps162 rfl (fun β=>?_)
 refine Z4 ?_
 refine cz H (fun c1 H=>?_) fun c1 H=>?_
 refine Z2 ?_
 cases H
 refine pR ?_
 exact dH (.inr rfl) rfl rfl
 refine Z2 ?_
 refine Yy (gL (ψs:=[fI 2]) rfl aLJ rfl (bW.cons (has rfl) (cL (aF a1F)) bW.nil) rfl) ?_
 refine Yy (uA rfl (fY rfl (zR [(.int .i64 2)])) aFN) ?_
 refine T_panic a1F rfl (has rfl) ?_
 cases H
 exact cF
def aA9  :Option (aM ByteArray Bool):=
 some (aM.upd (aM.upd (aM.upd (aM.upd (aM.upd (aM.upd (aM.upd (aM.upd (aM.upd (aM.upd (aM.none:aM ByteArray Bool) ({ data:=#[97,110,100] }) true) ({ data:=#[100,101,102] }) true) ({ data:=#[101,108,115,101] }) true) ({ data:=#[103,111] }) true) ({ data:=#[105,102] }) true) ({ data:=#[105,110] }) true) ({ data:=#[112,108,97,99,101] }) true) ({ data:=#[115,116,111,112] }) true) ({ data:=#[116,104,101,110] }) true) ({ data:=#[119,97,116,99,104] }) true)
theorem aJv   (r:aM ByteArray Bool) (H:aA9=some r):FnS Tryz.prog 174 [] [] (kK kStr (fun y=>aH y) r) (fun _=>[]):=by
 unfold aA9 at H
 refine bB Tryz.func174 rfl Tryz.ntmps174 rfl (fun β=>?_)
 refine Z4 ?_
 refine Tn (aBp (fun y=>aH y) kStr rfl) fun b1=>?_
 refine gR (k:={ data:=#[97,110,100] }) (y:=true) a1F (.inr rfl) rfl (has rfl) (has rfl) rfl (has rfl) rfl kF ?_
 refine gR (k:={ data:=#[100,101,102] }) (y:=true) a1F (.inr rfl) rfl (has rfl) (has rfl) rfl (has rfl) rfl kF ?_
 refine gR (k:={ data:=#[101,108,115,101] }) (y:=true) a1F (.inr rfl) rfl (has rfl) (has rfl) rfl (has rfl) rfl kF ?_
 refine gR (k:={ data:=#[103,111] }) (y:=true) a1F (.inr rfl) rfl (has rfl) (has rfl) rfl (has rfl) rfl kF ?_
 refine gR (k:={ data:=#[105,102] }) (y:=true) a1F (.inr rfl) rfl (has rfl) (has rfl) rfl (has rfl) rfl kF ?_
 refine gR (k:={ data:=#[105,110] }) (y:=true) a1F (.inr rfl) rfl (has rfl) (has rfl) rfl (has rfl) rfl kF ?_
 refine gR (k:={ data:=#[112,108,97,99,101] }) (y:=true) a1F (.inr rfl) rfl (has rfl) (has rfl) rfl (has rfl) rfl kF ?_
 refine gR (k:={ data:=#[115,116,111,112] }) (y:=true) a1F (.inr rfl) rfl (has rfl) (has rfl) rfl (has rfl) rfl kF ?_
 refine gR (k:={ data:=#[116,104,101,110] }) (y:=true) a1F (.inr rfl) rfl (has rfl) (has rfl) rfl (has rfl) rfl kF ?_
 refine gR (k:={ data:=#[119,97,116,99,104] }) (y:=true) a1F (.inr rfl) rfl (has rfl) (has rfl) rfl (has rfl) rfl kF ?_
 refine Z4 ?_
 refine bT (φ:=kK kStr (fun y=>aH y) (aM.upd (aM.upd (aM.upd (aM.upd (aM.upd (aM.upd (aM.upd (aM.upd (aM.upd (aM.upd (aM.none:aM ByteArray Bool) ({ data:=#[97,110,100] }) true) ({ data:=#[100,101,102] }) true) ({ data:=#[101,108,115,101] }) true) ({ data:=#[103,111] }) true) ({ data:=#[105,102] }) true) ({ data:=#[105,110] }) true) ({ data:=#[112,108,97,99,101] }) true) ({ data:=#[115,116,111,112] }) true) ({ data:=#[116,104,101,110] }) true) ({ data:=#[119,97,116,99,104] }) true)) (v:= .map (some b1)) [0,1,2] aG4 fz ?_
 refine bQ ?_
 cases H
 exact To
def jF (a0:ByteArray):Nat->Int->Option ((Unit) ⊕ (Bool))
| 0,_=>none
| k+1,x2=>
 if x2<(a0.size:Int)then
  (sidx a0 x2).bind fun z1=>
  if z1<97 then
   (some false).bind fun r=>some (Sum.inr r)
  else
   (sidx a0 x2).bind fun z2=>
   if 122<z2 then
    (some false).bind fun r=>some (Sum.inr r)
   else
    (chk (x2+1)).bind fun z3=>
    jF a0 k z3
 else
  some (Sum.inl ())
def rE (AA:Nat) (a0:ByteArray):Option (Bool):=
 (jF a0 AA 0).bind fun o=>match o with
 | Sum.inr r=>some r
 | Sum.inl _=>
 (if 0<(a0.size:Int)then
  if (a0.size:Int)<=8 then
   (aA9).bind fun y1=>
   some (!((y1.get a0).getD false))
  else
   some false
 else
  some false).bind fun x3=>
 some x3
theorem aLG (AA:Nat)  (a0:ByteArray) (r:Bool) (H:rE AA a0=some r):FnS Tryz.prog 163 [gC a0] [] (aH r) (fun _=>[]):=by
 unfold rE at H
 refine bB Tryz.func163 rfl Tryz.ntmps163 rfl (fun β=>?_)
 revert H;refine B3z fun o1 H Hr1=>?_
 refine aO (ι:=Unit) (fun i=>o1=Sum.inl ()) (fun i=>[(0,gC a0)]) (fun i=>[]) ?_ ?_
 refine Z2 ?_
 refine Yy (uJ rfl hh lV) ?_
 refine Z3 ?_
 refine Th (ι:=Int) (fun i=>jF a0 i.1 i.2=_) (fun i=>[(0,gC a0),(5,fI (a0.size:Int)),(6,fI i.2)]) (fun i=>[]) (AA,0) H (fun _ h=>nomatch h) ?_
 clear H;rintro k1 x2 H;dsimp only at H ⊢;rw [jF]at H
 refine Z3 ?_
 refine aG ?_
 revert H;refine is (fun c1 H=>?_) fun c1 H=>?_
 refine Z3 ?_
 refine aG ?_
 revert H;refine B8z fun z1 h1 H=>?_
 refine Yy (aBw rfl hh hh lV h1) ?_
 revert H;refine I2z (fun c2 H=>?_) fun c2 H=>?_
 refine Z12 ?_
 revert H;refine B4z fun r1 H e1=>?_
 cases e1;cases Hr1
 cases H
 exact To
 revert H;refine B2z fun z2 h2 H=>?_
 refine Yg c2 (aBw rfl hh hh lV h2) ?_
 revert H;refine I3z (fun c3 H=>?_) fun c3 H=>?_
 revert H;refine dS fun r2 H e2=>?_
 cases e2;cases Hr1
 cases H
 exact To
 revert H;refine B5z fun z3 h3 H=>?_
 refine Z3 ?_
 exact Tm ((k1,z3)) ⟨H,ls⟩
 refine Z6 ?_
 exact Tm (()) (ij H)
 rintro i hi;subst o1;replace H:=Hr1;clear Hr1;try dsimp only at H ⊢
 revert H;refine bs fun o2 H Hr2=>?_
 refine aO (fun i=>o2=i) (fun i=>[(2,aH i)]) (fun i=>[]) ?_ ?_
 refine Z2 ?_
 refine Yy (uJ rfl hh lV) ?_
 revert H;refine I2z (fun c4 H=>?_) fun c4 H=>?_
 refine Z1 ?_
 refine Yg c4 (uJ rfl hh lV) ?_
 revert H;refine I3z (fun c5 H=>?_) fun c5 H=>?_
 revert H;refine bs fun y1 h4 H=>?_
 refine Tc (aJv _ h4) ?_
 refine Z1 ?_
 refine Yg c5 (aGs (zα:=false) (k:=a0) rfl hh hh rfl kF Ent.rfl) ?_
 refine Z4 ?_
 exact Tm (!((y1.get a0).getD false)) (ij H)
 refine Z7 ?_
 exact Tm (false) (ij H)
 refine Z12 ?_
 exact Tm (false) (ij H)
 rintro x3 hi;subst o2;replace H:=Hr2;clear Hr2;try dsimp only at H ⊢
 refine Z1 ?_
 cases H
 exact To
def iJ (a0:Int):Option (Value):=
 (if a0=1 then
  some (decide (a0=1))
 else
  some (decide (a0=7))).bind fun x1=>
 bif x1 then
  some ((.iface 235 (.int .i64 0)):Value)
 else
  if a0=3 then
   some ((.iface 235 (.int .i64 2)):Value)
  else
   if a0=2 then
    some ((.iface 207 (.agg ([]:List Value).toArray)):Value)
   else
    if a0=5 then
     some ((.iface 236 (.agg ([]:List Value).toArray)):Value)
    else
     (if a0=6 then
      some (decide (a0=6))
     else
      some (decide (a0=8))).bind fun x2=>
     bif x2 then
      some ((.iface 208 (.agg ([]:List Value).toArray)):Value)
     else
      if a0=4 then
       some ((.iface 237 (.agg ([]:List Value).toArray)):Value)
      else
       some (Go.Value.nilIface:Value)
theorem aG0  (a0:Int) (r:Value) (H:iJ a0=some r):FnS Tryz.prog 123 [fI a0] [] (fRaw r) (fun _=>[]):=by
 unfold iJ at H
 refine bB Tryz.func123 rfl Tryz.ntmps123 rfl (fun β=>?_)
 refine Z3 ?_
 refine aG ?_
 revert H;refine B4z fun o1 H Hr1=>?_
 refine aO (fun i=>o1=i) (fun i=>[(3,fI a0),(4,aH i)]) (fun i=>[]) ?_ ?_
 revert H;refine I4z (fun c1 H=>?_) fun c1 H=>?_
 refine Z3 ?_
 exact Tm (decide (a0=1)) (ij H)
 refine Z5 ?_
 exact Tm (decide (a0=7)) (ij H)
 rintro x1 hi;subst o1;replace H:=Hr1;clear Hr1;try dsimp only at H ⊢
 refine cz H (fun c2 H=>?_) fun c2 H=>?_
 refine Z2 ?_
 refine Yy (uA rfl hh aHw) ?_
 refine Z5 ?_
 cases H
 exact fV rfl (fF rfl (tQ trivial)) rfl
 refine I5 H (fun c3 H=>?_) fun c3 H=>?_
 refine Z2 ?_
 refine Yy (uA rfl hh aHw) ?_
 refine Z5 ?_
 cases H
 exact fV rfl (fF rfl (tQ trivial)) rfl
 refine I5 H (fun c4 H=>?_) fun c4 H=>?_
 refine Z2 ?_
 refine Yy (gL (ψs:=[]) rfl aK5 rfl bW.nil rfl) ?_
 refine Yy (uA rfl (fY rfl (zR [])) aCq) ?_
 refine Z5 ?_
 cases H
 exact fV rfl (fF rfl (tQ trivial)) rfl
 refine I5 H (fun c5 H=>?_) fun c5 H=>?_
 refine Z2 ?_
 refine Yy (gL (ψs:=[]) rfl aKn rfl bW.nil rfl) ?_
 refine Yy (uA rfl (fY rfl (zR [])) aHN) ?_
 refine Z5 ?_
 cases H
 exact fV rfl (fF rfl (tQ trivial)) rfl
 revert H;refine B1z fun o2 H Hr2=>?_
 refine aO (fun i=>o2=i) (fun i=>[(3,fI a0),(19,aH i)]) (fun i=>[]) ?_ ?_
 revert H;refine I4z (fun c6 H=>?_) fun c6 H=>?_
 refine Z3 ?_
 exact Tm (decide (a0=6)) (ij H)
 refine Z5 ?_
 exact Tm (decide (a0=8)) (ij H)
 rintro x2 hi;subst o2;replace H:=Hr2;clear Hr2;try dsimp only at H ⊢
 refine cz H (fun c7 H=>?_) fun c7 H=>?_
 refine Z2 ?_
 refine Yy (gL (ψs:=[]) rfl aJ3 rfl bW.nil rfl) ?_
 refine Yy (uA rfl (fY rfl (zR [])) aDm) ?_
 refine Z5 ?_
 cases H
 exact fV rfl (fF rfl (tQ trivial)) rfl
 refine I5 H (fun c8 H=>?_) fun c8 H=>?_
 refine Z2 ?_
 refine Yy (gL (ψs:=[]) rfl aLs rfl bW.nil rfl) ?_
 refine Yy (uA rfl (fY rfl (zR [])) aF2) ?_
 refine Z5 ?_
 cases H
 exact fV rfl (fF rfl (tQ trivial)) rfl
 refine Z8 ?_
 cases H
 exact fV rfl (fF rfl (tQ trivial)) rfl
def sF (rec_scope_exp_1:AV->Int->Int->Int->Option (Int ⊕ Value)) (a0:AV) (a1:Int) (w1:Int):Nat->Int->Int->Option (Int ⊕ Value)
| 0,_,_=>none
| k+1,x4,x5=>
 if x4<(a0.AM.length:Int)then
  (idx a0.AM x4).bind fun y12=>
  (chk (a1+1)).bind fun z2=>
  (rec_scope_exp_1 (⟨y12.Op,y12.N,y12.AM⟩:AV) z2 x5 w1).bind fun y13=>
  match y13 with
  | Sum.inr pv12=>some (Sum.inr pv12)
  | Sum.inl y13=>
  (chk (x4+1)).bind fun z3=>
  sF rec_scope_exp_1 a0 a1 w1 k z3 y13
 else
  some (Sum.inl x5)
def nK:Nat->AV->Int->Int->Int->Option (Int ⊕ Value)
| 0,_,_,_,_=>none
| AA+1,a0,a1,w0,w1=>
 (chk (w0+1)).bind fun z1=>
 (if z1<=60 then
  (bZ (decide (a1<=12))).bind fun y1=>
  match y1 with
  | Sum.inr pv1=>(some (Sum.inr pv1)).bind fun r=>some (Sum.inr r)
  | Sum.inl y1=>
  some (Sum.inl ())
 else
  (bZ false).bind fun y2=>
  match y2 with
  | Sum.inr pv2=>(some (Sum.inr pv2)).bind fun r=>some (Sum.inr r)
  | Sum.inl y2=>
  some (Sum.inl ())).bind fun o=>match o with
 | Sum.inr r=>some r
 | Sum.inl _=>
 (if a0.Op=1 then
  if (-1000000000)<=a0.N then
   if a0.N<=1000000000 then
    (bZ (decide ((a0.AM.length:Int)=0))).bind fun y3=>
    match y3 with
    | Sum.inr pv3=>(some (Sum.inr pv3)).bind fun r=>some (Sum.inr r)
    | Sum.inl y3=>
    some (Sum.inl ())
   else
    (bZ false).bind fun y4=>
    match y4 with
    | Sum.inr pv4=>(some (Sum.inr pv4)).bind fun r=>some (Sum.inr r)
    | Sum.inl y4=>
    some (Sum.inl ())
  else
   (bZ false).bind fun y5=>
   match y5 with
   | Sum.inr pv5=>(some (Sum.inr pv5)).bind fun r=>some (Sum.inr r)
   | Sum.inl y5=>
   some (Sum.inl ())
 else
  if a0.Op=2 then
   if 0<=a0.N then
    if a0.N<w1 then
     (bZ (decide ((a0.AM.length:Int)=0))).bind fun y6=>
     match y6 with
     | Sum.inr pv6=>(some (Sum.inr pv6)).bind fun r=>some (Sum.inr r)
     | Sum.inl y6=>
     some (Sum.inl ())
    else
     (bZ false).bind fun y7=>
     match y7 with
     | Sum.inr pv7=>(some (Sum.inr pv7)).bind fun r=>some (Sum.inr r)
     | Sum.inl y7=>
     some (Sum.inl ())
   else
    (bZ false).bind fun y8=>
    match y8 with
    | Sum.inr pv8=>(some (Sum.inr pv8)).bind fun r=>some (Sum.inr r)
    | Sum.inl y8=>
    some (Sum.inl ())
  else
   (if a0.Op=3 then
    some (decide (a0.Op=3))
   else
    if a0.Op=4 then
     some (decide (a0.Op=4))
    else
     if a0.Op=5 then
      some (decide (a0.Op=5))
     else
      if a0.Op=6 then
       some (decide (a0.Op=6))
      else
       some (decide (a0.Op=7))).bind fun x1=>
   bif x1 then
    if a0.N=0 then
     (bZ (decide ((a0.AM.length:Int)=2))).bind fun y9=>
     match y9 with
     | Sum.inr pv9=>(some (Sum.inr pv9)).bind fun r=>some (Sum.inr r)
     | Sum.inl y9=>
     some (Sum.inl ())
    else
     (bZ false).bind fun y10=>
     match y10 with
     | Sum.inr pv10=>(some (Sum.inr pv10)).bind fun r=>some (Sum.inr r)
     | Sum.inl y10=>
     some (Sum.inl ())
   else
    (bZ false).bind fun y11=>
    match y11 with
    | Sum.inr pv11=>(some (Sum.inr pv11)).bind fun r=>some (Sum.inr r)
    | Sum.inl y11=>
    some (Sum.inl ())).bind fun o=>match o with
 | Sum.inr r=>some r
 | Sum.inl _=>
 sF (nK AA) a0 a1 w1 AA 0 z1
theorem aFZ:∀ (AA:Nat),(∀ (q0:Nat) (q2:Nat) (a0:AV) (a1:Int) (w0:Int) (w1:Int) (r:Int ⊕ Value) (H:nK AA a0 a1 w0 w1=some r),FnE Tryz.prog 202 [fSt aN a0,fI a1,fEq (.pointer (some ⟨q0,0,none⟩)),aL tI w1,fEq (.pointer (some ⟨q2,0,none⟩))] [aA q0 3 [fI w0],aA q2 276 [cY 202 [fEq (.pointer (some ⟨q0,0,none⟩)),aL tI w1,fEq (.pointer (some ⟨q2,0,none⟩))]]] r (fun r=>dB []) (fun r=>[aA q0 3 [fI r],aA q2 276 [cY 202 [fEq (.pointer (some ⟨q0,0,none⟩)),aL tI w1,fEq (.pointer (some ⟨q2,0,none⟩))]]])):=by
 intro AA
 induction AA with
 | zero=>exact fun q0 q2 a0 a1 w0 w1 r H=>(by rw [nK]at H;cases H)
 | succ AA ih=>
 have ih_scope_exp_1:=@ih
 refine ?_
 intro q0 q2 a0 a1 w0 w1 r H
 rw [nK]at H
 refine rF Tryz.func202 rfl Tryz.ntmps202 rfl (fun β=>?_)
 refine Z1 ?_
 refine Tn (bU rfl hh bM) fun b1=>?_
 refine B3 H fun z1 h1 H=>?_
 refine Z1 ?_
 refine bH ?_
 refine bK (φs':=[fI z1]) a1F rfl rfl (has rfl) (has rfl) (aF a1F) (sz rfl) rfl rfl ?_
 revert H;refine B1z fun o1 H Hr1=>?_
 refine aO (ι:=Unit) (fun i=>o1=Sum.inl ()) (fun i=>[(1,fI a1),(2,fEq (ptr q0)),(3,aL tI w1),(4,fEq (ptr q2)),(5,fEq (ptr b1))]) (fun i=>[aA q0 3 [fI z1],aA b1 71 [fI a0.Op,fI a0.N,dD a0.AM],aA q2 276 [cY 202 [fEq (ptr q0),aL tI w1,fEq (ptr q2)]]]) ?_ ?_
 revert H;refine I4z (fun c1 H=>?_) fun c1 H=>?_
 revert H;refine B3z fun y1 h2 H=>?_
 rcases y1 with y1 | pv1 <;> dsimp only at H
 refine Tc (bA _ _ h2).s ?_
 refine Z1 ?_
 exact Tm (()) (ij H)
 refine Tp (bA _ _ h2).pan ?_
 revert H;refine B1z fun r1 H e1=>?_
 cases e1;cases Hr1
 cases H
 exact cF
 revert H;refine B3z fun y2 h3 H=>?_
 rcases y2 with y2 | pv2 <;> dsimp only at H
 refine Tc (bA _ _ h3).s ?_
 refine Z1 ?_
 exact Tm (()) (ij H)
 refine Tp (bA _ _ h3).pan ?_
 revert H;refine B1z fun r2 H e2=>?_
 cases e2;cases Hr1
 cases H
 exact cF
 rintro i hi;subst o1;replace H:=Hr1;clear Hr1;try dsimp only at H ⊢
 revert H;refine bs fun o2 H Hr2=>?_
 refine aO (ι:=Unit) (fun i=>o2=Sum.inl ()) (fun i=>[(1,fI a1),(2,fEq (ptr q0)),(4,fEq (ptr q2)),(5,fEq (ptr b1))]) (fun i=>[aA q0 3 [fI z1],aA b1 71 [fI a0.Op,fI a0.N,dD a0.AM],aA q2 276 [cY 202 [fEq (ptr q0),aL tI w1,fEq (ptr q2)]]]) ?_ ?_
 revert H;refine I9z (fun c2 H=>?_) fun c2 H=>?_
 revert H;refine I6z (fun c3 H=>?_) fun c3 H=>?_
 revert H;refine I5z (fun c4 H=>?_) fun c4 H=>?_
 refine Z1 ?_
 refine Yh 1 rfl c4 (eU rfl hh (sc rfl) rfl (fB eO)) ?_
 revert H;refine B3z fun y3 h4 H=>?_
 rcases y3 with y3 | pv3 <;> dsimp only at H
 refine Tc (bA _ _ h4).s ?_
 refine Z3 ?_
 exact Tm (()) (ij H)
 refine Tp (bA _ _ h4).pan ?_
 revert H;refine B2z fun r3 H e3=>?_
 cases e3;cases Hr2
 cases H
 exact cF
 revert H;refine B5z fun y4 h5 H=>?_
 rcases y4 with y4 | pv4 <;> dsimp only at H
 refine Tc (bA _ _ h5).s ?_
 refine Z3 ?_
 exact Tm (()) (ij H)
 refine Tp (bA _ _ h5).pan ?_
 revert H;refine B2z fun r4 H e4=>?_
 cases e4;cases Hr2
 cases H
 exact cF
 revert H;refine dS fun y5 h6 H=>?_
 rcases y5 with y5 | pv5 <;> dsimp only at H
 refine Tc (bA _ _ h6).s ?_
 refine Z3 ?_
 exact Tm (()) (ij H)
 refine Tp (bA _ _ h6).pan ?_
 revert H;refine B2z fun r5 H e5=>?_
 cases e5;cases Hr2
 cases H
 exact cF
 revert H;refine I5z (fun c5 H=>?_) fun c5 H=>?_
 revert H;refine I6z (fun c6 H=>?_) fun c6 H=>?_
 revert H;refine I6z (fun c7 H=>?_) fun c7 H=>?_
 refine Z1 ?_
 refine Yh 1 rfl c7 (eU rfl hh (sc rfl) rfl (fB eO)) ?_
 revert H;refine B3z fun y6 h7 H=>?_
 rcases y6 with y6 | pv6 <;> dsimp only at H
 refine Tc (bA _ _ h7).s ?_
 refine Z3 ?_
 exact Tm (()) (ij H)
 refine Tp (bA _ _ h7).pan ?_
 revert H;refine B2z fun r6 H e6=>?_
 cases e6;cases Hr2
 cases H
 exact cF
 revert H;refine B5z fun y7 h8 H=>?_
 rcases y7 with y7 | pv7 <;> dsimp only at H
 refine Tc (bA _ _ h8).s ?_
 refine Z3 ?_
 exact Tm (()) (ij H)
 refine Tp (bA _ _ h8).pan ?_
 revert H;refine B2z fun r7 H e7=>?_
 cases e7;cases Hr2
 cases H
 exact cF
 revert H;refine B11z fun y8 h9 H=>?_
 rcases y8 with y8 | pv8 <;> dsimp only at H
 refine Tc (bA _ _ h9).s ?_
 refine Z3 ?_
 exact Tm (()) (ij H)
 refine Tp (bA _ _ h9).pan ?_
 revert H;refine B2z fun r8 H e8=>?_
 cases e8;cases Hr2
 cases H
 exact cF
 revert H;refine B1z fun o3 H Hr3=>?_
 refine aO (fun i=>o3=i) (fun i=>[(1,fI a1),(2,fEq (ptr q0)),(4,fEq (ptr q2)),(5,fEq (ptr b1)),(56,aH i)]) (fun i=>[aA q0 3 [fI z1],aA b1 71 [fI a0.Op,fI a0.N,dD a0.AM],aA q2 276 [cY 202 [fEq (ptr q0),aL tI w1,fEq (ptr q2)]]]) ?_ ?_
 revert H;refine I4z (fun c8 H=>?_) fun c8 H=>?_
 refine Z3 ?_
 exact Tm (decide (a0.Op=3)) (ij H)
 revert H;refine I5z (fun c9 H=>?_) fun c9 H=>?_
 refine Z3 ?_
 exact Tm (decide (a0.Op=4)) (ij H)
 revert H;refine I5z (fun c10 H=>?_) fun c10 H=>?_
 refine Z3 ?_
 exact Tm (decide (a0.Op=5)) (ij H)
 revert H;refine I5z (fun c11 H=>?_) fun c11 H=>?_
 refine Z3 ?_
 exact Tm (decide (a0.Op=6)) (ij H)
 refine Z5 ?_
 exact Tm (decide (a0.Op=7)) (ij H)
 rintro x1 hi;subst o3;replace H:=Hr3;clear Hr3;try dsimp only at H ⊢
 revert H;refine cs (fun c12 H=>?_) fun c12 H=>?_
 revert H;refine I6z (fun c13 H=>?_) fun c13 H=>?_
 refine Z1 ?_
 refine Yh 1 rfl c13 (eU rfl hh (sc rfl) rfl (fB eO)) ?_
 revert H;refine B3z fun y9 h10 H=>?_
 rcases y9 with y9 | pv9 <;> dsimp only at H
 refine Tc (bA _ _ h10).s ?_
 refine Z3 ?_
 exact Tm (()) (ij H)
 refine Tp (bA _ _ h10).pan ?_
 revert H;refine B2z fun r9 H e9=>?_
 cases e9;cases Hr2
 cases H
 exact cF
 revert H;refine B5z fun y10 h11 H=>?_
 rcases y10 with y10 | pv10 <;> dsimp only at H
 refine Tc (bA _ _ h11).s ?_
 refine Z3 ?_
 exact Tm (()) (ij H)
 refine Tp (bA _ _ h11).pan ?_
 revert H;refine B2z fun r10 H e10=>?_
 cases e10;cases Hr2
 cases H
 exact cF
 revert H;refine B2z fun y11 h12 H=>?_
 rcases y11 with y11 | pv11 <;> dsimp only at H
 refine Tc (bA _ _ h12).s ?_
 refine Z3 ?_
 exact Tm (()) (ij H)
 refine Tp (bA _ _ h12).pan ?_
 revert H;refine B2z fun r11 H e11=>?_
 cases e11;cases Hr2
 cases H
 exact cF
 rintro i hi;subst o2;replace H:=Hr2;clear Hr2;try dsimp only at H ⊢
 refine Z2 ?_
 refine Yo 1 rfl (eU rfl hh (sc rfl) rfl (fB eO)) ?_
 refine Z4 ?_
 refine Th (ι:=Int × Int) (fun i=>sF (nK AA) a0 a1 w1 i.1 i.2.1 i.2.2=_) (fun i=>[(1,fI a1),(2,fEq (ptr q0)),(4,fEq (ptr q2)),(73,fSl aN a0.AM),(74,fI (a0.AM.length:Int)),(75,fI i.2.1)]) (fun i=>[aA q0 3 [fI i.2.2],aA b1 71 [fI a0.Op,fI a0.N,dD a0.AM],aA q2 276 [cY 202 [fEq (ptr q0),aL tI w1,fEq (ptr q2)]]]) (AA,0,z1) H (fun _ h=>nomatch h) ?_
 clear H;rintro k1 ⟨x4,x5⟩ H;dsimp only at H ⊢;rw [sF]at H
 refine Z3 ?_
 refine aG ?_
 refine iz H (fun c14 H=>?_) fun c14 H=>?_
 refine Z3 ?_
 refine aG ?_
 refine B2 H fun y12 h13 H=>?_
 refine Z2 ?_
 refine Tn (cB rfl jX rfl) fun b2=>?_
 refine cO (φs':=[fI y12.Op,fI y12.N,dD y12.AM]) a1F rfl rfl (has rfl) (has rfl) (aI (aF a1F) (aI (aF a1F) (aI (nH) bN))) (sz rfl) rfl rfl rfl ?_
 refine B5 H fun z2 h14 H=>?_
 refine Z1 ?_
 refine cZ ?_
 refine dK ?_
 refine bz H fun y13 h15 H=>?_
 rcases y13 with y13 | pv12 <;> dsimp only at H
 refine jP a1F rfl rfl rfl (has rfl) (aP.cons (has rfl) (aP.cons (has rfl) aP.nil)) rfl (cb rfl) (ih_scope_exp_1 q0 q2 (⟨y12.Op,y12.N,y12.AM⟩:AV) z2 x5 w1 (Sum.inl y13) h15).s rfl ?_
 refine B4 H fun z3 h16 H=>?_
 refine Z3 ?_
 refine aE [0,3,1] (by decide) ?_
 exact Tm ((k1,z3,y13)) ⟨H,ls⟩
 refine aBG a1F rfl (has rfl) (aP.cons (has rfl) (aP.cons (has rfl) aP.nil)) rfl (cb rfl) (ih_scope_exp_1 q0 q2 (⟨y12.Op,y12.N,y12.AM⟩:AV) z2 x5 w1 (Sum.inr pv12) h15).pan rfl ?_
 refine Z4 ?_
 cases H
 exact cF
 refine Z5 ?_
 cases H
 refine pR ?_
 refine aE [0,2] (by decide) ?_
 exact dH (.inr rfl) rfl rfl
def zN (AA:Nat) (a0:AV) (a1:Int):Option (Unit ⊕ Value):=
 (nK AA (⟨a0.Op,a0.N,a0.AM⟩:AV) 1 0 a1).bind fun y1=>
 match y1 with
 | Sum.inr pv1=>some (Sum.inr pv1)
 | Sum.inl y1=>
 some (Sum.inl ())
theorem aE3 (AA:Nat)  (a0:AV) (a1:Int) (r:Unit ⊕ Value) (H:zN AA a0 a1=some r):FnE Tryz.prog 175 [fSt aN a0,fI a1] [] r (fun r=>dB []) (fun r=>[]):=by
 unfold zN at H
 refine rF Tryz.func175 rfl Tryz.ntmps175 rfl (fun β=>?_)
 refine Z1 ?_
 refine Tn (bU rfl hh bM) fun b1=>?_
 refine Tn (bU rfl (has rfl) (cL (aF a1F))) fun b2=>?_
 refine Z2 ?_
 refine Tn (cB rfl pE rfl) fun b3=>?_
 refine bK (φs':=[fI 0]) a1F rfl rfl (has rfl) (has rfl) (aF a1F) (sz rfl) rfl rfl ?_
 refine Z2 ?_
 refine Tn (cB rfl aIR rfl) fun b4=>?_
 refine Z2 ?_
 refine dK ?_
 refine bT (φ:=aL tI a1) (v:=ptr b2) [3] (fA aK.rfl) fz ?_
 refine bQ ?_
 refine Yy (oA rfl (aP.cons hh (aP.cons hh (aP.cons hh aP.nil)))) ?_
 refine bK (φs':=[cY 202 [fEq (ptr b3),aL tI a1,fEq (ptr b4)]]) a1F rfl rfl (has rfl) (has rfl) (aGQ) (sz rfl) rfl rfl ?_
 refine Z4 ?_
 refine bH ?_
 refine bz H fun y1 h1 H=>?_
 rcases y1 with y1 | pv1 <;> dsimp only at H
 refine jP a1F rfl rfl rfl (has rfl) (aP.cons (has rfl) (aP.cons (has rfl) aP.nil)) rfl (cb rfl) (aFZ AA b3 b4 (⟨a0.Op,a0.N,a0.AM⟩:AV) 1 0 a1 (Sum.inl y1) h1).s rfl ?_
 refine Z1 ?_
 cases H
 refine pR ?_
 refine aE [] (by decide) ?_
 exact dH (.inr rfl) rfl rfl
 refine aBG a1F rfl (has rfl) (aP.cons (has rfl) (aP.cons (has rfl) aP.nil)) rfl (cb rfl) (aFZ AA b3 b4 (⟨a0.Op,a0.N,a0.AM⟩:AV) 1 0 a1 (Sum.inr pv1) h1).pan rfl ?_
 cases H
 exact cF
def pP (a0:List Int) (a1:Int):Nat->Int->Option ((Unit) ⊕ (Int))
| 0,_=>none
| k+1,x2=>
 if x2<(a0.length:Int)then
  (idx a0 x2).bind fun y1=>
  if a1=y1 then
   (some x2).bind fun r=>some (Sum.inr r)
  else
   (chk (x2+1)).bind fun z1=>
   pP a0 a1 k z1
 else
  some (Sum.inl ())
def aAF (AA:Nat) (a0:List Int) (a1:Int):Option (Int):=
 (pP a0 a1 AA 0).bind fun o=>match o with
 | Sum.inr r=>some r
 | Sum.inl _=>
 some (-1)
theorem aLj (AA:Nat)  (a0:List Int) (a1:Int) (r:Int) (H:aAF AA a0 a1=some r):FnS Tryz.prog 218 [fSl tI a0,fI a1] [] (fI r) (fun _=>[]):=by
 unfold aAF at H
 refine bB Tryz.func218 rfl Tryz.ntmps218 rfl (fun β=>?_)
 revert H;refine B3z fun o1 H Hr1=>?_
 refine aO (ι:=Unit) (fun i=>o1=Sum.inl ()) (fun i=>[]) (fun i=>[]) ?_ ?_
 refine Z6 ?_
 refine Th (ι:=Int) (fun i=>pP a0 a1 i.1 i.2=_) (fun i=>[(0,fSl tI a0),(1,fI a1),(7,fI (a0.length:Int)),(8,fI i.2)]) (fun i=>[]) (AA,0) H (fun _ h=>nomatch h) ?_
 clear H;rintro k1 x2 H;dsimp only at H ⊢;rw [pP]at H
 refine Z3 ?_
 refine aG ?_
 revert H;refine is (fun c1 H=>?_) fun c1 H=>?_
 refine Z3 ?_
 refine aG ?_
 revert H;refine B9z fun y1 h1 H=>?_
 revert H;refine I4z (fun c2 H=>?_) fun c2 H=>?_
 revert H;refine B11z fun r1 H e1=>?_
 cases e1;cases Hr1
 cases H
 exact To
 revert H;refine B5z fun z1 h2 H=>?_
 refine Z3 ?_
 exact Tm ((k1,z1)) ⟨H,ls⟩
 refine Z6 ?_
 exact Tm (()) (ij H)
 rintro i hi;subst o1;replace H:=Hr1;clear Hr1;try dsimp only at H ⊢
 refine Z4 ?_
 cases H
 exact To
def aAm (AA:Nat) (a0:List Int) (a1:Int):Option (Bool):=
 (aAF AA a0 a1).bind fun y1=>
 some (decide (0<=y1))
theorem aJS (AA:Nat)  (a0:List Int) (a1:Int) (r:Bool) (H:aAm AA a0 a1=some r):FnS Tryz.prog 204 [fSl tI a0,fI a1] [] (aH r) (fun _=>[]):=by
 unfold aAm at H
 refine bB Tryz.func204 rfl Tryz.ntmps204 rfl (fun β=>?_)
 refine B6 H fun y1 h1 H=>?_
 refine Tc (aLj _ _ _ _ h1) ?_
 refine Z4 ?_
 cases H
 exact To
open Go.SX Go.SW Go.Dt
def uT (a0:Int) (w0:AN):Option (Unit ⊕ Value):=
 if 0<=a0 then
  (bZ (decide (a0<=(w0.AS.length:Int)))).bind fun y1=>
  match y1 with
  | Sum.inr pv1=>some (Sum.inr pv1)
  | Sum.inl y1=>
  some (Sum.inl ())
 else
  (bZ false).bind fun y2=>
  match y2 with
  | Sum.inr pv2=>some (Sum.inr pv2)
  | Sum.inl y2=>
  some (Sum.inl ())
theorem aB6  (a0:Int) (w0:AN) (r:Unit ⊕ Value) (H:uT a0 w0=some r):FnE Tryz.prog 203 [fI a0,aL aB w0] [] r (fun r=>dB []) (fun r=>[]):=by
 unfold uT at H
 refine rF Tryz.func203 rfl Tryz.ntmps203 rfl (fun β=>?_)
 refine I4 H (fun c1 H=>?_) fun c1 H=>?_
 refine B6 H fun y1 h1 H=>?_
 rcases y1 with y1 | pv1 <;> dsimp only at H
 refine Tc (bA _ _ h1).s ?_
 refine Z1 ?_
 cases H
 refine pR ?_
 exact dH (.inr rfl) rfl rfl
 refine Tp (bA _ _ h1).pan ?_
 cases H
 exact cF
 refine B6 H fun y2 h2 H=>?_
 rcases y2 with y2 | pv2 <;> dsimp only at H
 refine Tc (bA _ _ h2).s ?_
 refine Z1 ?_
 cases H
 refine pR ?_
 exact dH (.inr rfl) rfl rfl
 refine Tp (bA _ _ h2).pan ?_
 cases H
 exact cF
def sT (a0:AN):Nat->Int->Option ((Unit) ⊕ (Unit ⊕ Value))
| 0,_=>none
| k+1,x2=>
 if x2<(((⟨a0.AT,a0.AS,a0.AQ⟩:AN).AT).length:Int)then
  ((idx ((⟨a0.AT,a0.AS,a0.AQ⟩:AN).AT) x2).bind fun y4=>
  (uT y4.At (⟨a0.AT,a0.AS,a0.AQ⟩:AN)).bind fun y5=>
  match y5 with
  | Sum.inr pv4=>((some (Sum.inr pv4)).bind fun r=>some (Sum.inr r)).bind fun r=>some (Sum.inr r)
  | Sum.inl y5=>
  if 0<=y4.Ar then
   (bZ (decide (y4.Ar<=3))).bind fun y6=>
   match y6 with
   | Sum.inr pv5=>((some (Sum.inr pv5)).bind fun r=>some (Sum.inr r)).bind fun r=>some (Sum.inr r)
   | Sum.inl y6=>
   some (Sum.inl ())
  else
   (bZ false).bind fun y7=>
   match y7 with
   | Sum.inr pv6=>((some (Sum.inr pv6)).bind fun r=>some (Sum.inr r)).bind fun r=>some (Sum.inr r)
   | Sum.inl y7=>
   some (Sum.inl ())).bind fun o=>match o with
  | Sum.inr r=>some r
  | Sum.inl _=>
  (chk (x2+1)).bind fun z1=>
  sT a0 k z1
 else
  some (Sum.inl ())
def rG (a0:AN):Nat->Int->Option ((Unit) ⊕ (Unit ⊕ Value))
| 0,_=>none
| k+1,x4=>
 if x4<(((⟨a0.AT,a0.AS,a0.AQ⟩:AN).AS).length:Int)then
  ((idx ((⟨a0.AT,a0.AS,a0.AQ⟩:AN).AS) x4).bind fun y8=>
  if 0<=y8.In then
   (bZ (decide (y8.In<=x4))).bind fun y9=>
   match y9 with
   | Sum.inr pv7=>((some (Sum.inr pv7)).bind fun r=>some (Sum.inr r)).bind fun r=>some (Sum.inr r)
   | Sum.inl y9=>
   some (Sum.inl ())
  else
   (bZ false).bind fun y10=>
   match y10 with
   | Sum.inr pv8=>((some (Sum.inr pv8)).bind fun r=>some (Sum.inr r)).bind fun r=>some (Sum.inr r)
   | Sum.inl y10=>
   some (Sum.inl ())).bind fun o=>match o with
  | Sum.inr r=>some r
  | Sum.inl _=>
  (chk (x4+1)).bind fun z2=>
  rG a0 k z2
 else
  some (Sum.inl ())
def mH (AA:Nat) (a0:AN) (y11:Ah):Nat->Int->(aM Int Bool)->Option ((aM Int Bool) ⊕ ((aM Int Bool) ⊕ (Unit ⊕ Value)))
| 0,_,_=>none
| k+1,x13,x14=>
 if x13<(y11.Ad.length:Int)then
  (idx y11.Ad x13).bind fun y15=>
  (if 0<=y15 then
   if y15<(((⟨a0.AT,a0.AS,a0.AQ⟩:AN).AT).length:Int)then
    (idx ((⟨a0.AT,a0.AS,a0.AQ⟩:AN).AT) y15).bind fun y16=>
    if y16.At=y11.At then
     (slc y11.Ad 0 x13).bind fun y17=>
     (aAm AA y17 y15).bind fun y18=>
     (bZ (!y18)).bind fun y19=>
     match y19 with
     | Sum.inr pv12=>(((some (Sum.inr pv12)).bind fun r=>some (Sum.inr r)).bind fun r=>some (Sum.inr r)).bind fun r=>some (Sum.inr r)
     | Sum.inl y19=>
     some (Sum.inl ())
    else
     (bZ false).bind fun y20=>
     match y20 with
     | Sum.inr pv13=>(((some (Sum.inr pv13)).bind fun r=>some (Sum.inr r)).bind fun r=>some (Sum.inr r)).bind fun r=>some (Sum.inr r)
     | Sum.inl y20=>
     some (Sum.inl ())
   else
    (bZ false).bind fun y21=>
    match y21 with
    | Sum.inr pv14=>(((some (Sum.inr pv14)).bind fun r=>some (Sum.inr r)).bind fun r=>some (Sum.inr r)).bind fun r=>some (Sum.inr r)
    | Sum.inl y21=>
    some (Sum.inl ())
  else
   (bZ false).bind fun y22=>
   match y22 with
   | Sum.inr pv15=>(((some (Sum.inr pv15)).bind fun r=>some (Sum.inr r)).bind fun r=>some (Sum.inr r)).bind fun r=>some (Sum.inr r)
   | Sum.inl y22=>
   some (Sum.inl ())).bind fun o=>match o with
  | Sum.inr r=>some r
  | Sum.inl _=>
  (chk (x13+1)).bind fun z3=>
  mH AA a0 y11 k z3 (aM.upd x14 y15 true)
 else
  some (Sum.inl x14)
def qB (AA:Nat) (a0:AN):Nat->Int->(aM Int Bool)->Option ((aM Int Bool) ⊕ (Unit ⊕ Value))
| 0,_,_=>none
| k+1,x8,x9=>
 if x8<(((⟨a0.AT,a0.AS,a0.AQ⟩:AN).AQ).length:Int)then
  ((idx ((⟨a0.AT,a0.AS,a0.AQ⟩:AN).AQ) x8).bind fun y11=>
  (uT y11.At (⟨a0.AT,a0.AS,a0.AQ⟩:AN)).bind fun y12=>
  match y12 with
  | Sum.inr pv9=>((some (Sum.inr pv9)).bind fun r=>some (Sum.inr r)).bind fun r=>some (Sum.inr r)
  | Sum.inl y12=>
  (if 0<(y11.Ad.length:Int)then
   (bZ (decide ((y11.Ad.length:Int)<=3))).bind fun y13=>
   match y13 with
   | Sum.inr pv10=>(((some (Sum.inr pv10)).bind fun r=>some (Sum.inr r)).bind fun r=>some (Sum.inr r)).bind fun r=>some (Sum.inr r)
   | Sum.inl y13=>
   some (Sum.inl ())
  else
   (bZ false).bind fun y14=>
   match y14 with
   | Sum.inr pv11=>(((some (Sum.inr pv11)).bind fun r=>some (Sum.inr r)).bind fun r=>some (Sum.inr r)).bind fun r=>some (Sum.inr r)
   | Sum.inl y14=>
   some (Sum.inl ())).bind fun o=>match o with
  | Sum.inr r=>some r
  | Sum.inl _=>
  mH AA a0 y11 AA 0 x9).bind fun o=>match o with
  | Sum.inr r=>some r
  | Sum.inl x10=>
  (chk (x8+1)).bind fun z4=>
  qB AA a0 k z4 x10
 else
  some (Sum.inl x9)
def vD (AA:Nat) (a0:AN):Option (Unit ⊕ Value):=
 (if (a0.AT.length:Int)<=30 then
  if (a0.AS.length:Int)<=30 then
   (bZ (decide ((a0.AQ.length:Int)<=30))).bind fun y1=>
   match y1 with
   | Sum.inr pv1=>(some (Sum.inr pv1)).bind fun r=>some (Sum.inr r)
   | Sum.inl y1=>
   some (Sum.inl ())
  else
   (bZ false).bind fun y2=>
   match y2 with
   | Sum.inr pv2=>(some (Sum.inr pv2)).bind fun r=>some (Sum.inr r)
   | Sum.inl y2=>
   some (Sum.inl ())
 else
  (bZ false).bind fun y3=>
  match y3 with
  | Sum.inr pv3=>(some (Sum.inr pv3)).bind fun r=>some (Sum.inr r)
  | Sum.inl y3=>
  some (Sum.inl ())).bind fun o=>match o with
 | Sum.inr r=>some r
 | Sum.inl _=>
 (sT a0 AA 0).bind fun o=>match o with
 | Sum.inr r=>some r
 | Sum.inl _=>
 (rG a0 AA 0).bind fun o=>match o with
 | Sum.inr r=>some r
 | Sum.inl _=>
 (qB AA a0 AA 0 (aM.none:aM Int Bool)).bind fun o=>match o with
 | Sum.inr r=>some r
 | Sum.inl x5=>
 (bZ (decide ((x5.size:Int)=(((⟨a0.AT,a0.AS,a0.AQ⟩:AN).AT).length:Int)))).bind fun y23=>
 match y23 with
 | Sum.inr pv16=>some (Sum.inr pv16)
 | Sum.inl y23=>
 some (Sum.inl ())
theorem aEQ (AA:Nat)  (a0:AN) (r:Unit ⊕ Value) (H:vD AA a0=some r):FnE Tryz.prog 176 [fSt aB a0] [] r (fun r=>dB []) (fun r=>[]):=by
 unfold vD at H
 refine rF Tryz.func176 rfl Tryz.ntmps176 rfl (fun β=>?_)
 refine Z1 ?_
 refine Tn (bU rfl hh bM) fun b1=>?_
 revert H;refine B1z fun o1 H Hr1=>?_
 refine aO (ι:=Unit) (fun i=>o1=Sum.inl ()) (fun i=>[(1,fEq (ptr b1))]) (fun i=>[aA b1 77 [fSl aZ a0.AT,fSl aU a0.AS,fSl aY a0.AQ]]) ?_ ?_
 revert H;refine I6z (fun c1 H=>?_) fun c1 H=>?_
 revert H;refine I6z (fun c2 H=>?_) fun c2 H=>?_
 revert H;refine B5z fun y1 h1 H=>?_
 rcases y1 with y1 | pv1 <;> dsimp only at H
 refine Tc (bA _ _ h1).s ?_
 refine Z1 ?_
 exact Tm (()) (ij H)
 refine Tp (bA _ _ h1).pan ?_
 revert H;refine B1z fun r1 H e1=>?_
 cases e1;cases Hr1
 cases H
 exact cF
 revert H;refine B5z fun y2 h2 H=>?_
 rcases y2 with y2 | pv2 <;> dsimp only at H
 refine Tc (bA _ _ h2).s ?_
 refine Z1 ?_
 exact Tm (()) (ij H)
 refine Tp (bA _ _ h2).pan ?_
 revert H;refine B1z fun r2 H e2=>?_
 cases e2;cases Hr1
 cases H
 exact cF
 revert H;refine B11z fun y3 h3 H=>?_
 rcases y3 with y3 | pv3 <;> dsimp only at H
 refine Tc (bA _ _ h3).s ?_
 refine Z1 ?_
 exact Tm (()) (ij H)
 refine Tp (bA _ _ h3).pan ?_
 revert H;refine B1z fun r3 H e3=>?_
 cases e3;cases Hr1
 cases H
 exact cF
 rintro i hi;subst o1;replace H:=Hr1;clear Hr1;try dsimp only at H ⊢
 refine Z1 ?_
 refine bT (φ:=aL aB a0) (v:=ptr b1) [1] (fA aK.rfl) fz ?_
 refine bQ ?_
 refine Yy (oA rfl (aP.cons hh aP.nil)) ?_
 revert H;refine B2z fun o2 H Hr2=>?_
 refine aO (ι:=Unit) (fun i=>o2=Sum.inl ()) (fun i=>[(1,aL aB a0),(2,cY 203 [aL aB a0])]) (fun i=>[]) ?_ ?_
 refine Z7 ?_
 refine Th (ι:=Int) (fun i=>sT a0 i.1 i.2=_) (fun i=>[(1,aL aB a0),(2,cY 203 [aL aB a0]),(31,fSl aZ (a0.AT)),(32,fI ((a0.AT).length:Int)),(33,fI i.2)]) (fun i=>[]) (AA,0) H (fun _ h=>nomatch h) ?_
 clear H;rintro k1 x2 H;dsimp only at H ⊢;rw [sT]at H
 refine Z3 ?_
 refine aG ?_
 revert H;refine is (fun c3 H=>?_) fun c3 H=>?_
 revert H;refine B3z fun o3 H Hr3=>?_
 refine aO (ι:=Unit) (fun i=>o3=Sum.inl ()) (fun i=>[(1,aL aB a0),(2,cY 203 [aL aB a0]),(31,fSl aZ (a0.AT)),(32,fI ((a0.AT).length:Int)),(33,fI x2)]) (fun i=>[]) ?_ ?_
 revert H;refine B2z fun y4 h4 H=>?_
 refine Z2 ?_
 refine Tn (cB rfl aIm rfl) fun b2=>?_
 refine cO (φs':=[fI y4.At,fI y4.Ar]) a1F rfl rfl (has rfl) (has rfl) (aI (aF a1F) (aI (aF a1F) bN)) (sz rfl) rfl rfl rfl ?_
 revert H;refine B5z fun y5 h5 H=>?_
 rcases y5 with y5 | pv4 <;> dsimp only at H
 refine jP a1F rfl rfl rfl (has rfl) (aP.cons (has rfl) aP.nil) rfl (cb rfl) (aB6 y4.At a0 (Sum.inl y5) h5).s rfl ?_
 revert H;refine I6z (fun c4 H=>?_) fun c4 H=>?_
 revert H;refine B4z fun y6 h6 H=>?_
 rcases y6 with y6 | pv5 <;> dsimp only at H
 refine Tc (bA _ _ h6).s ?_
 refine Z3 ?_
 refine aE [] (by decide) ?_
 exact Tm (()) (ij H)
 refine Tp (bA _ _ h6).pan ?_
 revert H;refine B2z fun r4 H e4=>?_
 cases e4;cases Hr3
 revert H;refine B3z fun r5 H e5=>?_
 cases e5;cases Hr2
 cases H
 exact cF
 revert H;refine B4z fun y7 h7 H=>?_
 rcases y7 with y7 | pv6 <;> dsimp only at H
 refine Tc (bA _ _ h7).s ?_
 refine Z3 ?_
 refine aE [] (by decide) ?_
 exact Tm (()) (ij H)
 refine Tp (bA _ _ h7).pan ?_
 revert H;refine B2z fun r6 H e6=>?_
 cases e6;cases Hr3
 revert H;refine B3z fun r7 H e7=>?_
 cases e7;cases Hr2
 cases H
 exact cF
 refine aBG a1F rfl (has rfl) (aP.cons (has rfl) aP.nil) rfl (cb rfl) (aB6 y4.At a0 (Sum.inr pv4) h5).pan rfl ?_
 revert H;refine B3z fun r8 H e8=>?_
 cases e8;cases Hr3
 revert H;refine B3z fun r9 H e9=>?_
 cases e9;cases Hr2
 cases H
 exact cF
 rintro i hi;subst o3;replace H:=Hr3;clear Hr3;try dsimp only at H ⊢
 revert H;refine B1z fun z1 h8 H=>?_
 refine Z3 ?_
 exact Tm ((k1,z1)) ⟨H,ls⟩
 refine Z6 ?_
 exact Tm (()) (ij H)
 rintro i hi;subst o2;replace H:=Hr2;clear Hr2;try dsimp only at H ⊢
 revert H;refine bs fun o4 H Hr4=>?_
 refine aO (ι:=Unit) (fun i=>o4=Sum.inl ()) (fun i=>[(1,aL aB a0),(2,cY 203 [aL aB a0])]) (fun i=>[]) ?_ ?_
 refine Z7 ?_
 refine Th (ι:=Int) (fun i=>rG a0 i.1 i.2=_) (fun i=>[(1,aL aB a0),(2,cY 203 [aL aB a0]),(52,fSl aU (a0.AS)),(53,fI ((a0.AS).length:Int)),(54,fI i.2)]) (fun i=>[]) (AA,0) H (fun _ h=>nomatch h) ?_
 clear H;rintro k2 x4 H;dsimp only at H ⊢;rw [rG]at H
 refine Z3 ?_
 refine aG ?_
 revert H;refine is (fun c5 H=>?_) fun c5 H=>?_
 revert H;refine B3z fun o5 H Hr5=>?_
 refine aO (ι:=Unit) (fun i=>o5=Sum.inl ()) (fun i=>[(1,aL aB a0),(2,cY 203 [aL aB a0]),(52,fSl aU (a0.AS)),(53,fI ((a0.AS).length:Int)),(54,fI x4)]) (fun i=>[]) ?_ ?_
 revert H;refine B3z fun y8 h9 H=>?_
 refine Z2 ?_
 refine Tn (cB rfl aAA rfl) fun b3=>?_
 refine Z1 ?_
 refine cO (φs':=[fI y8.In,fI y8.AW]) a1F rfl rfl (has rfl) (has rfl) (aI (aF a1F) (aI (aF a1F) bN)) (sz rfl) rfl rfl rfl ?_
 revert H;refine I6z (fun c6 H=>?_) fun c6 H=>?_
 revert H;refine B5z fun y9 h10 H=>?_
 rcases y9 with y9 | pv7 <;> dsimp only at H
 refine Tc (bA _ _ h10).s ?_
 refine Z3 ?_
 refine aE [] (by decide) ?_
 exact Tm (()) (ij H)
 refine Tp (bA _ _ h10).pan ?_
 revert H;refine B2z fun r10 H e10=>?_
 cases e10;cases Hr5
 revert H;refine B3z fun r11 H e11=>?_
 cases e11;cases Hr4
 cases H
 exact cF
 revert H;refine B5z fun y10 h11 H=>?_
 rcases y10 with y10 | pv8 <;> dsimp only at H
 refine Tc (bA _ _ h11).s ?_
 refine Z3 ?_
 refine aE [] (by decide) ?_
 exact Tm (()) (ij H)
 refine Tp (bA _ _ h11).pan ?_
 revert H;refine B2z fun r12 H e12=>?_
 cases e12;cases Hr5
 revert H;refine B3z fun r13 H e13=>?_
 cases e13;cases Hr4
 cases H
 exact cF
 rintro i hi;subst o5;replace H:=Hr5;clear Hr5;try dsimp only at H ⊢
 revert H;refine B1z fun z2 h12 H=>?_
 refine Z3 ?_
 exact Tm ((k2,z2)) ⟨H,ls⟩
 refine Z6 ?_
 exact Tm (()) (ij H)
 rintro i hi;subst o4;replace H:=Hr4;clear Hr4;try dsimp only at H ⊢
 refine Z1 ?_
 refine Tn (aBp (fun y=>aH y) dG rfl) fun b4=>?_
 revert H;refine B2z fun o6 H Hr6=>?_
 refine aO (fun i=>o6=Sum.inl i) (fun i=>[(1,aL aB a0),(7,fEq (.map (some b4)))]) (fun i=>[dY dG (fun y=>aH y) b4 i]) ?_ ?_
 refine Z7 ?_
 refine Th (ι:=Int × aM Int Bool) (fun i=>qB AA a0 i.1 i.2.1 i.2.2=_) (fun i=>[(1,aL aB a0),(2,cY 203 [aL aB a0]),(7,fEq (.map (some b4))),(72,fSl aY (a0.AQ)),(73,fI ((a0.AQ).length:Int)),(74,fI i.2.1)]) (fun i=>[dY dG (fun y=>aH y) b4 i.2.2]) (AA,0,(aM.none:aM Int Bool)) H (fun _ h=>nomatch h) ?_
 clear H;rintro k3 ⟨x8,x9⟩ H;dsimp only at H ⊢;rw [qB]at H
 refine Z3 ?_
 refine aG ?_
 revert H;refine is (fun c7 H=>?_) fun c7 H=>?_
 revert H;refine B3z fun o7 H Hr7=>?_
 refine aO (fun i=>o7=Sum.inl i) (fun i=>[(1,aL aB a0),(2,cY 203 [aL aB a0]),(7,fEq (.map (some b4))),(72,fSl aY (a0.AQ)),(73,fI ((a0.AQ).length:Int)),(74,fI x8)]) (fun i=>[dY dG (fun y=>aH y) b4 i]) ?_ ?_
 revert H;refine B2z fun y11 h13 H=>?_
 refine Z2 ?_
 refine Tn (cB rfl pM rfl) fun b5=>?_
 refine cO (φs':=[fI y11.At,fSl tI y11.Ad,fI y11.AW]) a1F rfl rfl (has rfl) (has rfl) (aI (aF a1F) (aI (aS) (aI (aF a1F) bN))) (sz rfl) rfl rfl rfl ?_
 revert H;refine B5z fun y12 h14 H=>?_
 rcases y12 with y12 | pv9 <;> dsimp only at H
 refine jP a1F rfl rfl rfl (has rfl) (aP.cons (has rfl) aP.nil) rfl (cb rfl) (aB6 y11.At a0 (Sum.inl y12) h14).s rfl ?_
 revert H;refine B1z fun o8 H Hr8=>?_
 refine aO (ι:=Unit) (fun i=>o8=Sum.inl ()) (fun i=>[(1,aL aB a0),(2,cY 203 [aL aB a0]),(7,fEq (.map (some b4))),(72,fSl aY (a0.AQ)),(73,fI ((a0.AQ).length:Int)),(74,fI x8),(9,fEq (ptr b5))]) (fun i=>[aA b5 81 [fI y11.At,fSl tI y11.Ad,fI y11.AW],dY dG (fun y=>aH y) b4 x9]) ?_ ?_
 revert H;refine I6z (fun c8 H=>?_) fun c8 H=>?_
 revert H;refine B5z fun y13 h15 H=>?_
 rcases y13 with y13 | pv10 <;> dsimp only at H
 refine Tc (bA _ _ h15).s ?_
 refine Z1 ?_
 exact Tm (()) (ij H)
 refine Tp (bA _ _ h15).pan ?_
 revert H;refine B1z fun r14 H e14=>?_
 cases e14;cases Hr8
 revert H;refine B2z fun r15 H e15=>?_
 cases e15;cases Hr7
 revert H;refine B3z fun r16 H e16=>?_
 cases e16;cases Hr6
 cases H
 exact cF
 revert H;refine B5z fun y14 h16 H=>?_
 rcases y14 with y14 | pv11 <;> dsimp only at H
 refine Tc (bA _ _ h16).s ?_
 refine Z1 ?_
 exact Tm (()) (ij H)
 refine Tp (bA _ _ h16).pan ?_
 revert H;refine B1z fun r17 H e17=>?_
 cases e17;cases Hr8
 revert H;refine B2z fun r18 H e18=>?_
 cases e18;cases Hr7
 revert H;refine B3z fun r19 H e19=>?_
 cases e19;cases Hr6
 cases H
 exact cF
 rintro i hi;subst o8;replace H:=Hr8;clear Hr8;try dsimp only at H ⊢
 refine Z7 ?_
 refine Th (ι:=Int × aM Int Bool) (fun i=>mH AA a0 y11 i.1 i.2.1 i.2.2=_) (fun i=>[(1,aL aB a0),(2,cY 203 [aL aB a0]),(7,fEq (.map (some b4))),(72,fSl aY (a0.AQ)),(73,fI ((a0.AQ).length:Int)),(74,fI x8),(9,fEq (ptr b5)),(94,fSl tI y11.Ad),(95,fI (y11.Ad.length:Int)),(96,fI i.2.1)]) (fun i=>[aA b5 81 [fI y11.At,fSl tI y11.Ad,fI y11.AW],dY dG (fun y=>aH y) b4 i.2.2]) (AA,0,x9) H (fun _ h=>nomatch h) ?_
 clear H;rintro k4 ⟨x13,x14⟩ H;dsimp only at H ⊢;rw [mH]at H
 refine Z3 ?_
 refine aG ?_
 revert H;refine is (fun c9 H=>?_) fun c9 H=>?_
 refine Z3 ?_
 refine aG ?_
 revert H;refine B3z fun y15 h17 H=>?_
 revert H;refine B5z fun o9 H Hr9=>?_
 refine aO (ι:=Unit) (fun i=>o9=Sum.inl ()) (fun i=>[(1,aL aB a0),(2,cY 203 [aL aB a0]),(7,fEq (.map (some b4))),(72,fSl aY (a0.AQ)),(73,fI ((a0.AQ).length:Int)),(74,fI x8),(9,fEq (ptr b5)),(94,fSl tI y11.Ad),(95,fI (y11.Ad.length:Int)),(96,fI x13),(11,fI y15)]) (fun i=>[aA b5 81 [fI y11.At,fSl tI y11.Ad,fI y11.AW],dY dG (fun y=>aH y) b4 x14]) ?_ ?_
 revert H;refine is (fun c10 H=>?_) fun c10 H=>?_
 revert H;refine is (fun c11 H=>?_) fun c11 H=>?_
 revert H;refine bs fun y16 h18 H=>?_
 revert H;refine is (fun c12 H=>?_) fun c12 H=>?_
 revert H;refine bs fun y17 h19 H=>?_
 revert H;refine bs fun y18 h20 H=>?_
 apply bD (ods:=[_,_,_,_,_,_,_,_,_,_,_,_,_,_,_,_,_,_,_,_,_,_,_,_,_,_,_,_,_]) 29 0 2 bC rfl rfl rfl
 refine ND ?_
 refine M8 ?_
 intros
 refine M8 ?_
 intros
 refine M8 ?_
 intros
 refine Mg c12 (aCE (t:=tI) rfl hh aDq (aCF hh) (el rfl) h19) fun _=>?_
 refine M1 ?_
 intros
 refine Nc (aJS _ _ _ _ h20) fun _=>?_
 refine M2 ?_
 intros
 revert H;refine B1z fun y19 h21 H=>?_
 rcases y19 with y19 | pv12 <;> dsimp only at H
 refine Tc (bA _ _ h21).s ?_
 refine Z1 ?_
 exact Tm (()) (ij H)
 refine Tp (bA _ _ h21).pan ?_
 revert H;refine B1z fun r20 H e20=>?_
 cases e20;cases Hr9
 revert H;refine B6z fun r21 H e21=>?_
 cases e21;cases Hr7
 revert H;refine B3z fun r22 H e22=>?_
 cases e22;cases Hr6
 cases H
 exact cF
 exact fk
 kernel_rfl
 apply bD (ods:=[_,_,_,_,_,_,_,_,_,_,_,_,_,_,_,_,_,_,_,_,_,_,_,_,_,_,_,_,_]) 29 0 2 bC rfl rfl rfl
 refine ND ?_
 refine M8 ?_
 intros
 refine M8 ?_
 intros
 refine M8 ?_
 intros
 refine M5 ?_
 intros
 revert H;refine B1z fun y20 h22 H=>?_
 rcases y20 with y20 | pv13 <;> dsimp only at H
 refine Tc (bA _ _ h22).s ?_
 refine Z1 ?_
 exact Tm (()) (ij H)
 refine Tp (bA _ _ h22).pan ?_
 revert H;refine B1z fun r23 H e23=>?_
 cases e23;cases Hr9
 revert H;refine B6z fun r24 H e24=>?_
 cases e24;cases Hr7
 revert H;refine B3z fun r25 H e25=>?_
 cases e25;cases Hr6
 cases H
 exact cF
 exact fk
 kernel_rfl
 apply bD (ods:=[_,_,_,_,_,_,_,_,_,_,_,_,_,_,_,_,_,_,_,_,_,_,_,_,_,_,_,_,_]) 29 0 2 bC rfl rfl rfl
 refine ND ?_
 refine M8 ?_
 intros
 refine M8 ?_
 intros
 refine M8 ?_
 intros
 refine M5 ?_
 intros
 revert H;refine B1z fun y21 h23 H=>?_
 rcases y21 with y21 | pv14 <;> dsimp only at H
 refine Tc (bA _ _ h23).s ?_
 refine Z1 ?_
 exact Tm (()) (ij H)
 refine Tp (bA _ _ h23).pan ?_
 revert H;refine B1z fun r26 H e26=>?_
 cases e26;cases Hr9
 revert H;refine B6z fun r27 H e27=>?_
 cases e27;cases Hr7
 revert H;refine B3z fun r28 H e28=>?_
 cases e28;cases Hr6
 cases H
 exact cF
 exact fk
 kernel_rfl
 apply bD (ods:=[_,_,_,_,_,_,_,_,_,_,_,_,_,_,_,_,_,_,_,_,_,_,_,_,_,_,_,_,_]) 29 0 2 bC rfl rfl rfl
 refine ND ?_
 refine M8 ?_
 intros
 refine M8 ?_
 intros
 refine M8 ?_
 intros
 refine M5 ?_
 intros
 revert H;refine B1z fun y22 h24 H=>?_
 rcases y22 with y22 | pv15 <;> dsimp only at H
 refine Tc (bA _ _ h24).s ?_
 refine Z1 ?_
 exact Tm (()) (ij H)
 refine Tp (bA _ _ h24).pan ?_
 revert H;refine B1z fun r29 H e29=>?_
 cases e29;cases Hr9
 revert H;refine B6z fun r30 H e30=>?_
 cases e30;cases Hr7
 revert H;refine B3z fun r31 H e31=>?_
 cases e31;cases Hr6
 cases H
 exact cF
 exact fk
 kernel_rfl
 rintro i hi;subst o9;replace H:=Hr9;clear Hr9;try dsimp only at H ⊢
 refine Z3 ?_
 refine bH ?_
 refine gR (k:=y15) (y:=true) a1F (.inl rfl) rfl (has rfl) (has rfl) rfl (has rfl) rfl wQ ?_
 revert H;refine B4z fun z3 h25 H=>?_
 refine Z3 ?_
 refine aE [1,0] (by decide) ?_
 exact Tm ((k4,z3,aM.upd x14 y15 true)) ⟨H,ls⟩
 refine Z7 ?_
 refine aE [1] (by decide) ?_
 exact Tm (x14) (ij H)
 refine aBG a1F rfl (has rfl) (aP.cons (has rfl) aP.nil) rfl (cb rfl) (aB6 y11.At a0 (Sum.inr pv9) h14).pan rfl ?_
 revert H;refine B3z fun r32 H e32=>?_
 cases e32;cases Hr7
 revert H;refine B3z fun r33 H e33=>?_
 cases e33;cases Hr6
 cases H
 exact cF
 rintro x10 hi;subst o7;replace H:=Hr7;clear Hr7;try dsimp only at H ⊢
 revert H;refine B1z fun z4 h26 H=>?_
 refine Z3 ?_
 exact Tm ((k3,z4,x10)) ⟨H,ls⟩
 refine Z6 ?_
 exact Tm (x9) (ij H)
 rintro x5 hi;subst o6;replace H:=Hr6;clear Hr6;try dsimp only at H ⊢
 refine Z2 ?_
 refine Yo 0 rfl (o_lenMO rfl hh wQ) ?_
 refine B4 H fun y23 h27 H=>?_
 rcases y23 with y23 | pv16 <;> dsimp only at H
 refine Tc (bA _ _ h27).s ?_
 refine Z1 ?_
 cases H
 refine pR ?_
 refine aE [] (by decide) ?_
 exact dH (.inr rfl) rfl rfl
 refine Tp (bA _ _ h27).pan ?_
 cases H
 exact cF
def wR (a0:AN):Option (Int):=
 (chk ((a0.AT.length:Int)+(a0.AS.length:Int))).bind fun z1=>
 some z1
theorem aKq  (a0:AN) (r:Int) (H:wR a0=some r):FnS Tryz.prog 177 [fSt aB a0] [] (fI r) (fun _=>[]):=by
 unfold wR at H
 refine bB Tryz.func177 rfl Tryz.ntmps177 rfl (fun β=>?_)
 refine Z1 ?_
 refine Tn (bU rfl hh bM) fun b1=>?_
 refine B9 H fun z1 h1 H=>?_
 refine Z4 ?_
 cases H
 refine aE [] (by decide) ?_
 exact To
def sP (a0:AN) (a1:Ah):Nat->Int->Int->Option (Int)
| 0,_,_=>none
| k+1,x4,x5=>
 if x5<(a1.Ad.length:Int)then
  (idx a1.Ad x5).bind fun y1=>
  (idx a0.AT y1).bind fun y2=>
  (chk (x4+y2.Ar)).bind fun z1=>
  (chk (x5+1)).bind fun z2=>
  sP a0 a1 k z1 z2
 else
  some x4
def zJ (AA:Nat) (a0:AN) (a1:Ah):Option (Int):=
 (sP a0 a1 AA 0 0).bind fun x1=>
 some x1
theorem aJq (AA:Nat)  (a0:AN) (a1:Ah) (r:Int) (H:zJ AA a0 a1=some r):FnS Tryz.prog 178 [fSt aB a0,fSt aY a1] [] (fI r) (fun _=>[]):=by
 unfold zJ at H
 refine bB Tryz.func178 rfl Tryz.ntmps178 rfl (fun β=>?_)
 refine Z1 ?_
 refine Tn (bU rfl hh bM) fun b1=>?_
 refine Tn (bU rfl hh bM) fun b2=>?_
 revert H;refine B5z fun o1 H Hr1=>?_
 refine aO (fun i=>o1=i) (fun i=>[(5,fI i)]) (fun i=>[aA b2 81 [fI a1.At,fSl tI a1.Ad,fI a1.AW],aA b1 77 [fSl aZ a0.AT,fSl aU a0.AS,fSl aY a0.AQ]]) ?_ ?_
 refine Z7 ?_
 refine Th (ι:=Int × Int) (fun i=>sP a0 a1 i.1 i.2.1 i.2.2=_) (fun i=>[(2,fEq (ptr b1)),(5,fI i.2.1),(9,fSl tI a1.Ad),(10,fI (a1.Ad.length:Int)),(11,fI i.2.2)]) (fun i=>[aA b2 81 [fI a1.At,fSl tI a1.Ad,fI a1.AW],aA b1 77 [fSl aZ a0.AT,fSl aU a0.AS,fSl aY a0.AQ]]) (AA,0,0) H (fun _ h=>nomatch h) ?_
 clear H;rintro k1 ⟨x4,x5⟩ H;dsimp only at H ⊢;rw [sP]at H
 refine Z3 ?_
 refine aG ?_
 revert H;refine is (fun c1 H=>?_) fun c1 H=>?_
 refine Z3 ?_
 refine aG ?_
 revert H;refine B2z fun y1 h1 H=>?_
 revert H;refine B9z fun y2 h2 H=>?_
 revert H;refine B3z fun z1 h3 H=>?_
 revert H;refine B6z fun z2 h4 H=>?_
 refine Z3 ?_
 exact Tm ((k1,z1,z2)) ⟨H,ls⟩
 refine Z6 ?_
 exact Tm (x4) (ij H)
 rintro x1 hi;subst o1;replace H:=Hr1;clear Hr1;try dsimp only at H ⊢
 refine Z5 ?_
 cases H
 refine aE [] (by decide) ?_
 exact To
open Go.SX Go.SW Go.Dt
def aDa (a0:Scope_speaks):Option (Int):=
 some 0
theorem aKw  (a0:Scope_speaks) (r:Int) (H:aDa a0=some r):FnS Tryz.prog 236 [fSt aJ9 a0] [] (fI r) (fun _=>[]):=by
 unfold aDa at H
 refine bB Tryz.func236 rfl Tryz.ntmps236 rfl (fun β=>?_)
 refine Z1 ?_
 refine Tn (bU rfl hh bM) fun b1=>?_
 refine Z6 ?_
 cases H
 refine aE [] (by decide) ?_
 exact To
def aC2 (a0:Scope_travels):Option (Int):=
 some 1
theorem aKL  (a0:Scope_travels) (r:Int) (H:aC2 a0=some r):FnS Tryz.prog 237 [fSt aK4 a0] [] (fI r) (fun _=>[]):=by
 unfold aC2 at H
 refine bB Tryz.func237 rfl Tryz.ntmps237 rfl (fun β=>?_)
 refine Z1 ?_
 refine Tn (bU rfl hh bM) fun b1=>?_
 refine Z6 ?_
 cases H
 refine aE [] (by decide) ?_
 exact To
def aCV (a0:Int):Option (Int):=
 some a0
theorem aI4  (a0:Int) (r:Int) (H:aCV a0=some r):FnS Tryz.prog 238 [fI a0] [] (fI r) (fun _=>[]):=by
 unfold aCV at H
 refine bB Tryz.func238 rfl Tryz.ntmps238 rfl (fun β=>?_)
 refine Z8 ?_
 cases H
 exact To
def aCw (a0:Scope_decides):Option (Int):=
 some 2
theorem aIL  (a0:Scope_decides) (r:Int) (H:aCw a0=some r):FnS Tryz.prog 239 [fSt aI5 a0] [] (fI r) (fun _=>[]):=by
 unfold aCw at H
 refine bB Tryz.func239 rfl Tryz.ntmps239 rfl (fun β=>?_)
 refine Z1 ?_
 refine Tn (bU rfl hh bM) fun b1=>?_
 refine Z6 ?_
 cases H
 refine aE [] (by decide) ?_
 exact To
def aD7 (a0:Scope_declares):Option (Int):=
 some 1
theorem aJn  (a0:Scope_declares) (r:Int) (H:aD7 a0=some r):FnS Tryz.prog 240 [fSt aKr a0] [] (fI r) (fun _=>[]):=by
 unfold aD7 at H
 refine bB Tryz.func240 rfl Tryz.ntmps240 rfl (fun β=>?_)
 refine Z1 ?_
 refine Tn (bU rfl hh bM) fun b1=>?_
 refine Z6 ?_
 cases H
 refine aE [] (by decide) ?_
 exact To
def kX:Value->Option Int
 | .iface 207 (.agg ⟨[]⟩)=>aDa ⟨⟩
 | .iface 208 (.agg ⟨[]⟩)=>aC2 ⟨⟩
 | .iface 235 (.int .i64 n)=>aCV n
 | .iface 236 (.agg ⟨[]⟩)=>aCw ⟨⟩
 | .iface 237 (.agg ⟨[]⟩)=>aD7 ⟨⟩
 | _=>none
theorem aIE (v:Value) (r:Int) (H:kX v=some r):Inv Tryz.prog v "cabotage/scope.kids" [] (fI r):=by
 unfold kX at H
 split at H
 exact⟨_,_,236,rfl,fun w=>by kernel_rfl,(cb rfl),(aKw ⟨⟩ r H).args (aK.cons (xF []) aK.nil)⟩
 exact⟨_,_,237,rfl,fun w=>by kernel_rfl,(cb rfl),(aKL ⟨⟩ r H).args (aK.cons (xF []) aK.nil)⟩
 rename_i n;exact⟨_,_,238,rfl,fun w=>by kernel_rfl,(cb rfl),(aI4 n r H).args aK.rfl⟩
 exact⟨_,_,239,rfl,fun w=>by kernel_rfl,(cb rfl),(aIL ⟨⟩ r H).args (aK.cons (xF []) aK.nil)⟩
 exact⟨_,_,240,rfl,fun w=>by kernel_rfl,(cb rfl),(aJn ⟨⟩ r H).args (aK.cons (xF []) aK.nil)⟩
 cases H
def oM (AA:Nat) (a2:Int) (y7:AZ):Nat->Int->Option ((Unit) ⊕ (Af ⊕ Value))
| 0,_=>none
| k+1,x8=>
 if x8<(y7.AX.length:Int)then
  (idx y7.AX x8).bind fun y27=>
  (zN AA (⟨y27.Op,y27.N,y27.AM⟩:AV) a2).bind fun y28=>
  match y28 with
  | Sum.inr pv16=>(some (Sum.inr pv16)).bind fun r=>some (Sum.inr r)
  | Sum.inl y28=>
  (chk (x8+1)).bind fun z1=>
  oM AA a2 y7 k z1
 else
  some (Sum.inl ())
def oR (AA:Nat) (rec_scope_looker_node:Af->Int->Int->Option (Af ⊕ Value)) (y30:AN) (z2:Int):Nat->Int->(List ByteArray)->(List AZ)->(List AN)->Int->(List Int)->(List Bool)->(List Bool)->Option ((List ByteArray × List AZ × List AN × Int × List Int × List Bool × List Bool) ⊕ ((Int × List ByteArray × List AZ × List AN × Int × List Int × List Bool × List Bool) ⊕ (Af ⊕ Value)))
| 0,_,_,_,_,_,_,_,_=>none
| k+1,x32,x33,x34,x35,x36,x37,x38,x39=>
 if x32<(y30.AQ.length:Int)then
  (idx y30.AQ x32).bind fun y33=>
  (zJ AA (⟨y30.AT,y30.AS,y30.AQ⟩:AN) (⟨y33.At,y33.Ad,y33.AW⟩:Ah)).bind fun y34=>
  (chk (z2+y34)).bind fun z3=>
  (rec_scope_looker_node (⟨(⟨x33,x34,x35,x36⟩:AJ),x37,x38,x39⟩:Af) y33.AW z3).bind fun y35=>
  match y35 with
  | Sum.inr pv18=>((some (Sum.inr pv18)).bind fun r=>some (Sum.inr r)).bind fun r=>some (Sum.inr r)
  | Sum.inl y35=>
  (chk (x32+1)).bind fun z4=>
  oR AA rec_scope_looker_node y30 z2 k z4 y35.p.AF y35.p.AB y35.p.AD y35.p.AG y35.Aa y35.AR y35.Ae
 else
  some (Sum.inl (x33,x34,x35,x36,x37,x38,x39))
def oS (rec_scope_looker_node:Af->Int->Int->Option (Af ⊕ Value)) (y30:AN) (z2:Int):Nat->Int->(List ByteArray)->(List AZ)->(List AN)->Int->(List Int)->(List Bool)->(List Bool)->Option ((Int × List ByteArray × List AZ × List AN × Int × List Int × List Bool × List Bool) ⊕ (Af ⊕ Value))
| 0,_,_,_,_,_,_,_,_=>none
| k+1,x48,x49,x50,x51,x52,x53,x54,x55=>
 if x48<(y30.AS.length:Int)then
  (idx y30.AS x48).bind fun y36=>
  (rec_scope_looker_node (⟨(⟨x49,x50,x51,x52⟩:AJ),x53,x54,x55⟩:Af) y36.AW z2).bind fun y37=>
  match y37 with
  | Sum.inr pv19=>(some (Sum.inr pv19)).bind fun r=>some (Sum.inr r)
  | Sum.inl y37=>
  (chk (x48+1)).bind fun z5=>
  oS rec_scope_looker_node y30 z2 k z5 y37.p.AF y37.p.AB y37.p.AD y37.p.AG y37.Aa y37.AR y37.Ae
 else
  some (Sum.inl (z2,x49,x50,x51,x52,x53,x54,x55))
def pY (rec_scope_looker_node:Af->Int->Int->Option (Af ⊕ Value)) (y7:AZ) (x9:Int):Nat->Int->(List ByteArray)->(List AZ)->(List AN)->Int->(List Int)->(List Bool)->(List Bool)->Option (Af ⊕ Value)
| 0,_,_,_,_,_,_,_,_=>none
| k+1,x64,x65,x66,x67,x68,x69,x70,x71=>
 if x64<(y7.AM.length:Int)then
  (idx y7.AM x64).bind fun y38=>
  (rec_scope_looker_node (⟨(⟨x65,x66,x67,x68⟩:AJ),x69,x70,x71⟩:Af) y38 x9).bind fun y39=>
  match y39 with
  | Sum.inr pv20=>some (Sum.inr pv20)
  | Sum.inl y39=>
  (chk (x64+1)).bind fun z6=>
  pY rec_scope_looker_node y7 x9 k z6 y39.p.AF y39.p.AB y39.p.AD y39.p.AG y39.Aa y39.AR y39.Ae
 else
  some (Sum.inl (⟨(⟨x65,x66,x67,x68⟩:AJ),x69,x70,x71⟩:Af))
def fP:Nat->Af->Int->Int->Option (Af ⊕ Value)
| 0,_,_,_=>none
| AA+1,a0,a1,a2=>
 (if 0<=a1 then
  if a1<(a0.p.AB.length:Int)then
   (idx a0.AR a1).bind fun y1=>
   (bZ (!y1)).bind fun y2=>
   match y2 with
   | Sum.inr pv1=>(some (Sum.inr pv1)).bind fun r=>some (Sum.inr r)
   | Sum.inl y2=>
   some (Sum.inl ())
  else
   (bZ false).bind fun y3=>
   match y3 with
   | Sum.inr pv2=>(some (Sum.inr pv2)).bind fun r=>some (Sum.inr r)
   | Sum.inl y3=>
   some (Sum.inl ())
 else
  (bZ false).bind fun y4=>
  match y4 with
  | Sum.inr pv3=>(some (Sum.inr pv3)).bind fun r=>some (Sum.inr r)
  | Sum.inl y4=>
  some (Sum.inl ())).bind fun o=>match o with
 | Sum.inr r=>some r
 | Sum.inl _=>
 (idx a0.AR a1).bind fun y5=>
 (idx a0.Aa a1).bind fun y6=>
 (idx a0.p.AB a1).bind fun y7=>
 (iJ y7.Op).bind fun y8=>
 ((iU y8).bind fun x1=>
 bif !x1 then
  (kX y8).bind fun y9=>
  (bZ (decide ((y7.AM.length:Int)=y9))).bind fun y10=>
  match y10 with
  | Sum.inr pv4=>(some (Sum.inr pv4)).bind fun r=>some (Sum.inr r)
  | Sum.inl y10=>
  some (Sum.inl ())
 else
  (bZ false).bind fun y11=>
  match y11 with
  | Sum.inr pv5=>(some (Sum.inr pv5)).bind fun r=>some (Sum.inr r)
  | Sum.inl y11=>
  some (Sum.inl ())).bind fun o=>match o with
 | Sum.inr r=>some r
 | Sum.inl _=>
 ((eA 207 (.agg #[]) y8).bind fun y12=>
 match y12 with
 | (u1,x3)=>
 bif x3 then
  if 0<=y7.N then
   (bZ (decide (y7.N<a2))).bind fun y13=>
   match y13 with
   | Sum.inr pv6=>(some (Sum.inr pv6)).bind fun r=>some (Sum.inr r)
   | Sum.inl y13=>
   some (Sum.inl (min (y7.AX.length:Int) 3))
  else
   (bZ false).bind fun y14=>
   match y14 with
   | Sum.inr pv7=>(some (Sum.inr pv7)).bind fun r=>some (Sum.inr r)
   | Sum.inl y14=>
   some (Sum.inl (min (y7.AX.length:Int) 3))
 else
  (eA 208 (.agg #[]) y8).bind fun y15=>
  match y15 with
  | (u2,x4)=>
  bif x4 then
   if 0<=y7.N then
    (bZ (decide (y7.N<a2))).bind fun y16=>
    match y16 with
    | Sum.inr pv8=>(some (Sum.inr pv8)).bind fun r=>some (Sum.inr r)
    | Sum.inl y16=>
    some (Sum.inl 0)
   else
    (bZ false).bind fun y17=>
    match y17 with
    | Sum.inr pv9=>(some (Sum.inr pv9)).bind fun r=>some (Sum.inr r)
    | Sum.inl y17=>
    some (Sum.inl 0)
  else
   (eA 237 (.agg #[]) y8).bind fun y18=>
   match y18 with
   | (u3,x5)=>
   bif x5 then
    if 0<=y7.N then
     if y7.N<(a0.p.AD.length:Int)then
      (idx a0.Ae y7.N).bind fun y19=>
      (bZ (!y19)).bind fun y20=>
      match y20 with
      | Sum.inr pv10=>(some (Sum.inr pv10)).bind fun r=>some (Sum.inr r)
      | Sum.inl y20=>
      some (Sum.inl 0)
     else
      (bZ false).bind fun y21=>
      match y21 with
      | Sum.inr pv11=>(some (Sum.inr pv11)).bind fun r=>some (Sum.inr r)
      | Sum.inl y21=>
      some (Sum.inl 0)
    else
     (bZ false).bind fun y22=>
     match y22 with
     | Sum.inr pv12=>(some (Sum.inr pv12)).bind fun r=>some (Sum.inr r)
     | Sum.inl y22=>
     some (Sum.inl 0)
   else
    (eA 236 (.agg #[]) y8).bind fun y23=>
    match y23 with
    | (u4,x6)=>
    bif x6 then
     (bZ (decide (y7.N=0))).bind fun y24=>
     match y24 with
     | Sum.inr pv13=>(some (Sum.inr pv13)).bind fun r=>some (Sum.inr r)
     | Sum.inl y24=>
     some (Sum.inl 1)
    else
     (bZ (decide (y7.N=0))).bind fun y25=>
     match y25 with
     | Sum.inr pv14=>(some (Sum.inr pv14)).bind fun r=>some (Sum.inr r)
     | Sum.inl y25=>
     some (Sum.inl 0)).bind fun o=>match o with
 | Sum.inr r=>some r
 | Sum.inl x2=>
 (bZ (decide ((y7.AX.length:Int)=x2))).bind fun y26=>
 match y26 with
 | Sum.inr pv15=>some (Sum.inr pv15)
 | Sum.inl y26=>
 (oM AA a2 y7 AA 0).bind fun o=>match o with
 | Sum.inr r=>some r
 | Sum.inl _=>
 (if y7.Op=4 then
  (idx a0.Ae y7.N).bind fun y29=>
  (idx a0.p.AD y7.N).bind fun y30=>
  (vD AA (⟨y30.AT,y30.AS,y30.AQ⟩:AN)).bind fun y31=>
  match y31 with
  | Sum.inr pv17=>(some (Sum.inr pv17)).bind fun r=>some (Sum.inr r)
  | Sum.inl y31=>
  (wR (⟨y30.AT,y30.AS,y30.AQ⟩:AN)).bind fun y32=>
  (chk (a2+y32)).bind fun z2=>
  (oR AA (fP AA) y30 z2 AA 0 a0.p.AF a0.p.AB a0.p.AD a0.p.AG (a0.Aa.set a1.toNat a2) (a0.AR.set a1.toNat true) (a0.Ae.set y7.N.toNat true)).bind fun o=>match o with
  | Sum.inr r=>some r
  | Sum.inl (x17,x18,x19,x20,x21,x22,x23)=>
  oS (fP AA) y30 z2 AA 0 x17 x18 x19 x20 x21 x22 x23
 else
  some (Sum.inl (a2,a0.p.AF,a0.p.AB,a0.p.AD,a0.p.AG,a0.Aa.set a1.toNat a2,a0.AR.set a1.toNat true,a0.Ae))).bind fun o=>match o with
 | Sum.inr r=>some r
 | Sum.inl (x9,x10,x11,x12,x13,x14,x15,x16)=>
 pY (fP AA) y7 x9 AA 0 x10 x11 x12 x13 x14 x15 x16
theorem aER:∀ (AA:Nat),(∀ (p0:Nat) (a0:Af) (a1:Int) (a2:Int) (r:Af ⊕ Value) (H:fP AA a0 a1 a2=some r),FnE Tryz.prog 164 [fEq (.pointer (some ⟨p0,0,none⟩)),fI a1,fI a2] [aAv p0 a0] r (fun r=>dB []) (fun r=>[aAv p0 r])):=by
 intro AA
 induction AA with
 | zero=>exact fun p0 a0 a1 a2 r H=>(by rw [fP]at H;cases H)
 | succ AA ih=>
 have ih_scope_looker_node:=@ih
 refine ?_
 intro p0 a0 a1 a2 r H
 rw [fP]at H
 refine rF Tryz.func164 rfl Tryz.ntmps164 rfl (fun β=>?_)
 refine xT (fun v1 v2 v3=>?_)
 refine rc 1 fun _=>?_
 refine rc 2 fun _=>?_
 refine rc 3 fun _=>?_
 revert H;refine bs fun o1 H Hr1=>?_
 refine aO (ι:=Unit) (fun i=>o1=Sum.inl ()) (fun i=>[(0,fEq (ptr p0)),(1,fI a1),(2,fI a2)]) (fun i=>[aA p0 131 [fSl aD a0.p.AF,fSl aJ a0.p.AB,fSl aB a0.p.AD,fI a0.p.AG,fEq v1,fEq v2,fEq v3],aC v1 3 tI a0.Aa,aC v2 4 aR a0.AR,aC v3 4 aR a0.Ae]) ?_ ?_
 revert H;refine I4z (fun c1 H=>?_) fun c1 H=>?_
 revert H;refine I10z (fun c2 H=>?_) fun c2 H=>?_
 revert H;refine B5z fun y1 h1 H=>?_
 refine Yh 2 rfl c2 (jO rfl hh hh (el rfl) h1) ?_
 refine Yh 2 rfl c2 (iA rfl rfl hh (sc rfl) (dN h1) rfl) ?_
 revert H;refine B2z fun y2 h2 H=>?_
 rcases y2 with y2 | pv1 <;> dsimp only at H
 refine Tc (bA _ _ h2).s ?_
 refine Z1 ?_
 exact Tm (()) (ij H)
 refine Tp (bA _ _ h2).pan ?_
 revert H;refine B1z fun r1 H e1=>?_
 cases e1;cases Hr1
 cases H
 exact cF
 revert H;refine B9z fun y3 h3 H=>?_
 rcases y3 with y3 | pv2 <;> dsimp only at H
 refine Tc (bA _ _ h3).s ?_
 refine Z1 ?_
 exact Tm (()) (ij H)
 refine Tp (bA _ _ h3).pan ?_
 revert H;refine B1z fun r2 H e2=>?_
 cases e2;cases Hr1
 cases H
 exact cF
 refine Z12 ?_
 revert H;refine B7z fun y4 h4 H=>?_
 rcases y4 with y4 | pv3 <;> dsimp only at H
 refine Tc (bA _ _ h4).s ?_
 refine Z1 ?_
 exact Tm (()) (ij H)
 refine Tp (bA _ _ h4).pan ?_
 revert H;refine B1z fun r3 H e3=>?_
 cases e3;cases Hr1
 cases H
 exact cF
 rintro i hi;subst o1;replace H:=Hr1;clear Hr1;try dsimp only at H ⊢
 refine aG ?_
 refine bz H fun y5 h5 H=>?_
 refine bz H fun y6 h6 H=>?_
 apply bD (ods:=[_,_,_,_,_,_,_,_,_,_,_,_,_,_,_]) 15 0 4 bC rfl rfl rfl
 refine ND ?_
 refine M8 ?_
 intros
 refine M4 ?_
 intros
 refine mJ (od:=odC [2] true (dP) [aC v2 4 aR (a0.AR.set a1.toNat true)]) (p:=2) (z':=true) rfl (fun _=>rfl) (fun _=>rfl) a1F rfl rfl rfl rfl (has rfl) (has rfl) (aF a1F) (sz rfl) (dN h5) rfl rfl (fun _=>?_)
 refine M1 ?_
 intros
 refine mJ (od:=odC [1] true (dP) [aC v1 3 tI (a0.Aa.set a1.toNat a2)]) (p:=1) (z':=a2) rfl (fun _=>rfl) (fun _=>rfl) a1F rfl rfl rfl rfl (has rfl) (has rfl) (aF a1F) (sz rfl) (dN h6) rfl rfl (fun _=>?_)
 refine B9 H fun y7 h7 H=>?_
 refine Z2 ?_
 refine Tn (cB rfl jV rfl) fun b1=>?_
 refine cO (φs':=[fI y7.Op,fI y7.N,fSl aN y7.AX,fSl tI y7.AM]) a1F rfl rfl (has rfl) (has rfl) (aI (aF a1F) (aI (aF a1F) (aI (aS) (aI (aS) bN)))) (sz rfl) rfl rfl rfl ?_
 refine B4 H fun y8 h8 H=>?_
 refine Tc (aG0 _ _ h8) ?_
 revert H;refine B2z fun o2 H Hr2=>?_
 refine aO (ι:=Unit) (fun i=>o2=Sum.inl ()) (fun i=>[(0,fEq (ptr p0)),(2,fI a2),(6,fEq (ptr b1)),(7,fRaw y8)]) (fun i=>[aA b1 65 [fI y7.Op,fI y7.N,fSl aN y7.AX,fSl tI y7.AM],aA p0 131 [fSl aD a0.p.AF,fSl aJ a0.p.AB,fSl aB a0.p.AD,fI a0.p.AG,fEq v1,fEq v2,fEq v3],aC v1 3 tI (a0.Aa.set a1.toNat a2),aC v2 4 aR (a0.AR.set a1.toNat true),aC v3 4 aR a0.Ae]) ?_ ?_
 revert H;refine bs fun x1 h9 H=>?_
 revert H;refine cs (fun c3 H=>?_) fun c3 H=>?_
 revert H;refine bs fun y9 h10 H=>?_
 apply bD (ods:=[_,_,_,_,_,_,_,_,_,_]) 10 0 5 bC rfl rfl rfl
 refine ND ?_
 refine M1 ?_
 intros
 refine My (aBo rfl (fY rfl mB) aHD h9) fun _=>?_
 refine M5 ?_
 intros
 refine N_callI (od:=odC [] true (fI y9) []) (Φ:=fI y9) rfl (fun _=>rfl) ⟨_,_,rfl,rfl,c3⟩ rfl rfl (fY rfl mB) aP.nil (aIE y8 y9 h10) (fun _=>?_)
 refine M2 ?_
 intros
 revert H;refine B1z fun y10 h11 H=>?_
 rcases y10 with y10 | pv4 <;> dsimp only at H
 refine Tc (bA _ _ h11).s ?_
 refine Z1 ?_
 exact Tm (()) (ij H)
 refine Tp (bA _ _ h11).pan ?_
 revert H;refine B1z fun r4 H e4=>?_
 cases e4;cases Hr2
 cases H
 exact cF
 exact fk
 kernel_rfl
 apply bD (ods:=[_,_,_,_,_,_,_,_,_,_]) 10 0 5 bC rfl rfl rfl
 refine ND ?_
 refine M1 ?_
 intros
 refine My (aBo rfl (fY rfl mB) aHD h9) fun _=>?_
 refine M8 ?_
 intros
 revert H;refine B1z fun y11 h12 H=>?_
 rcases y11 with y11 | pv5 <;> dsimp only at H
 refine Tc (bA _ _ h12).s ?_
 refine Z1 ?_
 exact Tm (()) (ij H)
 refine Tp (bA _ _ h12).pan ?_
 revert H;refine B1z fun r5 H e5=>?_
 cases e5;cases Hr2
 cases H
 exact cF
 exact fk
 kernel_rfl
 rintro i hi;subst o2;replace H:=Hr2;clear Hr2;try dsimp only at H ⊢
 revert H;refine B3z fun o3 H Hr3=>?_
 refine aO (fun i=>o3=Sum.inl i) (fun i=>[(0,fEq (ptr p0)),(2,fI a2),(6,fEq (ptr b1)),(8,fI i)]) (fun i=>[aA b1 65 [fI y7.Op,fI y7.N,fSl aN y7.AX,fSl tI y7.AM],aA p0 131 [fSl aD a0.p.AF,fSl aJ a0.p.AB,fSl aB a0.p.AD,fI a0.p.AG,fEq v1,fEq v2,fEq v3],aC v1 3 tI (a0.Aa.set a1.toNat a2),aC v2 4 aR (a0.AR.set a1.toNat true),aC v3 4 aR a0.Ae]) ?_ ?_
 revert H;refine B5z fun y12 h13 H=>?_
 obtain⟨u1,x3⟩:=y12;dsimp only at H
 refine Yy (sW rfl (fY rfl mB) aCq aEN h13) ?_
 refine Z3 ?_
 revert H;refine cs (fun c4 H=>?_) fun c4 H=>?_
 refine Z12 ?_
 revert H;refine I1z (fun c5 H=>?_) fun c5 H=>?_
 revert H;refine B5z fun y13 h14 H=>?_
 rcases y13 with y13 | pv6 <;> dsimp only at H
 refine Tc (bA _ _ h14).s ?_
 refine Z3 ?_
 exact Tm (min (y7.AX.length:Int) 3) (ij H)
 refine Tp (bA _ _ h14).pan ?_
 revert H;refine B2z fun r6 H e6=>?_
 cases e6;cases Hr3
 cases H
 exact cF
 revert H;refine B5z fun y14 h15 H=>?_
 rcases y14 with y14 | pv7 <;> dsimp only at H
 refine Tc (bA _ _ h15).s ?_
 refine Z3 ?_
 exact Tm (min (y7.AX.length:Int) 3) (ij H)
 refine Tp (bA _ _ h15).pan ?_
 revert H;refine B2z fun r7 H e7=>?_
 cases e7;cases Hr3
 cases H
 exact cF
 revert H;refine B2z fun y15 h16 H=>?_
 obtain⟨u2,x4⟩:=y15;dsimp only at H
 refine Yy (sW rfl (fY rfl mB) aDm aFd h16) ?_
 refine Z3 ?_
 revert H;refine cs (fun c6 H=>?_) fun c6 H=>?_
 revert H;refine I6z (fun c7 H=>?_) fun c7 H=>?_
 revert H;refine B5z fun y16 h17 H=>?_
 rcases y16 with y16 | pv8 <;> dsimp only at H
 refine Tc (bA _ _ h17).s ?_
 refine Z3 ?_
 exact Tm (0) (ij H)
 refine Tp (bA _ _ h17).pan ?_
 revert H;refine B2z fun r8 H e8=>?_
 cases e8;cases Hr3
 cases H
 exact cF
 revert H;refine B5z fun y17 h18 H=>?_
 rcases y17 with y17 | pv9 <;> dsimp only at H
 refine Tc (bA _ _ h18).s ?_
 refine Z3 ?_
 exact Tm (0) (ij H)
 refine Tp (bA _ _ h18).pan ?_
 revert H;refine B2z fun r9 H e9=>?_
 cases e9;cases Hr3
 cases H
 exact cF
 revert H;refine B2z fun y18 h19 H=>?_
 obtain⟨u3,x5⟩:=y18;dsimp only at H
 refine Yy (sW rfl (fY rfl mB) aF2 aKb h19) ?_
 refine Z3 ?_
 revert H;refine cs (fun c8 H=>?_) fun c8 H=>?_
 revert H;refine I1z (fun c9 H=>?_) fun c9 H=>?_
 revert H;refine is (fun c10 H=>?_) fun c10 H=>?_
 revert H;refine bs fun y19 h20 H=>?_
 apply bD (ods:=[_,_,_,_,_,_,_,_,_,_,_,_,_,_,_,_,_,_,_,_,_,_,_,_,_]) 25 0 5 bC rfl rfl rfl
 refine ND ?_
 refine M8 ?_
 intros
 refine M8 ?_
 intros
 refine M5 ?_
 intros
 refine N_op (od:=odC [4] false (mR v3 1 y7.N.toNat 0) [gG]) (ps:=[4]) (φ:=mR v3 1 y7.N.toNat 0) rfl (fun _=>rfl) ⟨_,_,rfl,rfl,c10⟩ rfl rfl (jO rfl hh hh (el rfl) h20) (fun _=>?_)
 refine N_op (od:=odC [4] false (aH y19) [gG]) (ps:=[4]) (φ:=aH y19) rfl (fun _=>rfl) ⟨_,_,rfl,rfl,c10⟩ rfl rfl (iA rfl rfl hh (sc rfl) (dN h20) rfl) (fun _=>?_)
 refine M2 ?_
 intros
 revert H;refine B1z fun y20 h21 H=>?_
 rcases y20 with y20 | pv10 <;> dsimp only at H
 refine Tc (bA _ _ h21).s ?_
 refine Z3 ?_
 exact Tm (0) (ij H)
 refine Tp (bA _ _ h21).pan ?_
 revert H;refine B2z fun r10 H e10=>?_
 cases e10;cases Hr3
 cases H
 exact cF
 exact fk
 kernel_rfl
 apply bD (ods:=[_,_,_,_,_,_,_,_,_,_,_,_,_,_,_,_,_,_,_,_,_,_,_,_,_]) 25 0 5 bC rfl rfl rfl
 refine ND ?_
 refine M8 ?_
 intros
 refine M8 ?_
 intros
 refine M8 ?_
 intros
 refine M1 ?_
 intros
 revert H;refine B1z fun y21 h22 H=>?_
 rcases y21 with y21 | pv11 <;> dsimp only at H
 refine Tc (bA _ _ h22).s ?_
 refine Z3 ?_
 exact Tm (0) (ij H)
 refine Tp (bA _ _ h22).pan ?_
 revert H;refine B2z fun r11 H e11=>?_
 cases e11;cases Hr3
 cases H
 exact cF
 exact fk
 kernel_rfl
 apply bD (ods:=[_,_,_,_,_,_,_,_,_,_,_,_,_,_,_,_,_,_,_,_,_,_,_,_,_]) 25 0 5 bC rfl rfl rfl
 refine ND ?_
 refine M8 ?_
 intros
 refine M8 ?_
 intros
 refine M8 ?_
 intros
 refine M1 ?_
 intros
 revert H;refine B1z fun y22 h23 H=>?_
 rcases y22 with y22 | pv12 <;> dsimp only at H
 refine Tc (bA _ _ h23).s ?_
 refine Z3 ?_
 exact Tm (0) (ij H)
 refine Tp (bA _ _ h23).pan ?_
 revert H;refine B2z fun r12 H e12=>?_
 cases e12;cases Hr3
 cases H
 exact cF
 exact fk
 kernel_rfl
 revert H;refine B2z fun y23 h24 H=>?_
 obtain⟨u4,x6⟩:=y23;dsimp only at H
 refine Yy (sW rfl (fY rfl mB) aHN aJi h24) ?_
 refine Z3 ?_
 revert H;refine cs (fun c11 H=>?_) fun c11 H=>?_
 revert H;refine B8z fun y24 h25 H=>?_
 rcases y24 with y24 | pv13 <;> dsimp only at H
 refine Tc (bA _ _ h25).s ?_
 refine Z3 ?_
 exact Tm (1) (ij H)
 refine Tp (bA _ _ h25).pan ?_
 revert H;refine B2z fun r13 H e13=>?_
 cases e13;cases Hr3
 cases H
 exact cF
 revert H;refine B5z fun y25 h26 H=>?_
 rcases y25 with y25 | pv14 <;> dsimp only at H
 refine Tc (bA _ _ h26).s ?_
 refine Z3 ?_
 exact Tm (0) (ij H)
 refine Tp (bA _ _ h26).pan ?_
 revert H;refine B2z fun r14 H e14=>?_
 cases e14;cases Hr3
 cases H
 exact cF
 rintro x2 hi;subst o3;replace H:=Hr3;clear Hr3;try dsimp only at H ⊢
 refine B6 H fun y26 h27 H=>?_
 rcases y26 with y26 | pv15 <;> dsimp only at H
 refine Tc (bA _ _ h27).s ?_
 revert H;refine B1z fun o4 H Hr4=>?_
 refine aO (ι:=Unit) (fun i=>o4=Sum.inl ()) (fun i=>[(0,fEq (ptr p0)),(2,fI a2),(6,fEq (ptr b1))]) (fun i=>[aA b1 65 [fI y7.Op,fI y7.N,fSl aN y7.AX,fSl tI y7.AM],aA p0 131 [fSl aD a0.p.AF,fSl aJ a0.p.AB,fSl aB a0.p.AD,fI a0.p.AG,fEq v1,fEq v2,fEq v3],aC v1 3 tI (a0.Aa.set a1.toNat a2),aC v2 4 aR (a0.AR.set a1.toNat true),aC v3 4 aR a0.Ae]) ?_ ?_
 refine Z7 ?_
 refine Th (ι:=Int) (fun i=>oM AA a2 y7 i.1 i.2=_) (fun i=>[(0,fEq (ptr p0)),(2,fI a2),(6,fEq (ptr b1)),(154,fSl aN y7.AX),(155,fI (y7.AX.length:Int)),(156,fI i.2)]) (fun i=>[aA b1 65 [fI y7.Op,fI y7.N,fSl aN y7.AX,fSl tI y7.AM],aA p0 131 [fSl aD a0.p.AF,fSl aJ a0.p.AB,fSl aB a0.p.AD,fI a0.p.AG,fEq v1,fEq v2,fEq v3],aC v1 3 tI (a0.Aa.set a1.toNat a2),aC v2 4 aR (a0.AR.set a1.toNat true),aC v3 4 aR a0.Ae]) (AA,0) H (fun _ h=>nomatch h) ?_
 clear H;rintro k1 x8 H;dsimp only at H ⊢;rw [oM]at H
 refine Z3 ?_
 refine aG ?_
 revert H;refine is (fun c12 H=>?_) fun c12 H=>?_
 refine Z3 ?_
 refine aG ?_
 revert H;refine B2z fun y27 h28 H=>?_
 refine Z2 ?_
 refine Tn (cB rfl jX rfl) fun b2=>?_
 refine cO (φs':=[fI y27.Op,fI y27.N,dD y27.AM]) a1F rfl rfl (has rfl) (has rfl) (aI (aF a1F) (aI (aF a1F) (aI (nH) bN))) (sz rfl) rfl rfl rfl ?_
 revert H;refine B4z fun y28 h29 H=>?_
 rcases y28 with y28 | pv16 <;> dsimp only at H
 refine Tc (aE3 _ _ _ _ h29).s ?_
 revert H;refine B4z fun z1 h30 H=>?_
 refine Z3 ?_
 refine aE [1,2,3,4,5] (by decide) ?_
 exact Tm ((k1,z1)) ⟨H,ls⟩
 refine Tp (aE3 _ _ _ _ h29).pan ?_
 revert H;refine B5z fun r15 H e15=>?_
 cases e15;cases Hr4
 cases H
 exact cF
 refine Z6 ?_
 exact Tm (()) (ij H)
 rintro i hi;subst o4;replace H:=Hr4;clear Hr4;try dsimp only at H ⊢
 revert H;refine bs fun o5 H Hr5=>?_
 refine aO (ι:=Int × List ByteArray × List AZ × List AN × Int × List Int × List Bool × List Bool × Value × Value × Value) (fun i=>o5=Sum.inl (i.1,i.2.1,i.2.2.1,i.2.2.2.1,i.2.2.2.2.1,i.2.2.2.2.2.1,i.2.2.2.2.2.2.1,i.2.2.2.2.2.2.2.1)) (fun i=>[(0,fEq (ptr p0)),(2,fI i.1),(6,fEq (ptr b1))]) (fun i=>[aA b1 65 [fI y7.Op,fI y7.N,fSl aN y7.AX,fSl tI y7.AM],aA p0 131 [fSl aD i.2.1,fSl aJ i.2.2.1,fSl aB i.2.2.2.1,fI i.2.2.2.2.1,fEq i.2.2.2.2.2.2.2.2.1,fEq i.2.2.2.2.2.2.2.2.2.1,fEq i.2.2.2.2.2.2.2.2.2.2],aC i.2.2.2.2.2.2.2.2.1 3 tI i.2.2.2.2.2.1,aC i.2.2.2.2.2.2.2.2.2.1 4 aR i.2.2.2.2.2.2.1,aC i.2.2.2.2.2.2.2.2.2.2 4 aR i.2.2.2.2.2.2.2.1]) ?_ ?_
 revert H;refine I5z (fun c13 H=>?_) fun c13 H=>?_
 refine Z1 ?_
 refine aG ?_
 revert H;refine bs fun y29 h31 H=>?_
 apply bD (ods:=[_,_,_,_,_,_,_,_]) 8 0 5 bC rfl rfl rfl
 refine ND ?_
 refine M7 ?_
 intros
 refine mJ (od:=odC [4] true (dP) [aC v3 4 aR (a0.Ae.set y7.N.toNat true)]) (p:=4) (z':=true) rfl (fun _=>rfl) (fun _=>rfl) a1F rfl rfl rfl rfl (has rfl) (has rfl) (aF a1F) (sz rfl) (dN h31) rfl rfl (fun _=>?_)
 refine Z2 ?_
 refine aG ?_
 revert H;refine bs fun y30 h32 H=>?_
 apply bD (ods:=[_,_,_,_,_,_,_,_,_,_,_]) 11 1 6 bC rfl rfl rfl
 refine ND ?_
 refine M8 ?_
 intros
 refine M1 ?_
 intros
 refine Mn 5 (fun b3=>ptr b3) (fun b3=>aA b3 77 [fEq (.slice none 0 0),fEq (.slice none 0 0),fEq (.slice none 0 0)]) rfl (cB rfl oP rfl) (fun b3 u5=>?_)
 refine mS (od:=od1 9 [5] true (fun b3 _=>dP) (fun b3 _=>[aA b3 77 [fSl aZ y30.AT,fSl aU y30.AS,fSl aY y30.AQ]])) (p:=5) (φs':=[fSl aZ y30.AT,fSl aU y30.AS,fSl aY y30.AQ]) rfl (fun _=>rfl) (fun _=>rfl) a1F rfl rfl rfl (has rfl) (has rfl) (aI (aS) (aI (aS) (aI (aS) bN))) (sz rfl) rfl rfl rfl (fun _=>?_)
 revert H;refine B4z fun y31 h33 H=>?_
 rcases y31 with y31 | pv17 <;> dsimp only at H
 refine Tc (aEQ _ _ _ h33).s ?_
 revert H;refine B4z fun y32 h34 H=>?_
 refine Tc (aKq _ _ h34) ?_
 revert H;refine bs fun z2 h35 H=>?_
 revert H;refine B3z fun o6 H Hr6=>?_
 refine aO (ι:=List ByteArray × List AZ × List AN × Int × List Int × List Bool × List Bool × Value × Value × Value) (fun i=>o6=Sum.inl (i.1,i.2.1,i.2.2.1,i.2.2.2.1,i.2.2.2.2.1,i.2.2.2.2.2.1,i.2.2.2.2.2.2.1)) (fun i=>[(0,fEq (ptr p0)),(2,fI z2),(6,fEq (ptr b1)),(11,fEq (ptr b3))]) (fun i=>[aA b1 65 [fI y7.Op,fI y7.N,fSl aN y7.AX,fSl tI y7.AM],aA p0 131 [fSl aD i.1,fSl aJ i.2.1,fSl aB i.2.2.1,fI i.2.2.2.1,fEq i.2.2.2.2.2.2.2.1,fEq i.2.2.2.2.2.2.2.2.1,fEq i.2.2.2.2.2.2.2.2.2],aA b3 77 [fSl aZ y30.AT,fSl aU y30.AS,fSl aY y30.AQ],aC i.2.2.2.2.2.2.2.1 3 tI i.2.2.2.2.1,aC i.2.2.2.2.2.2.2.2.1 4 aR i.2.2.2.2.2.1,aC i.2.2.2.2.2.2.2.2.2 4 aR i.2.2.2.2.2.2.1]) ?_ ?_
 refine Z7 ?_
 refine aE [0,1,5,2,3,4] (by decide) ?_
 refine Th (ι:=Int × List ByteArray × List AZ × List AN × Int × List Int × List Bool × List Bool × Value × Value × Value) (fun i=>oR AA (fP AA) y30 z2 i.1 i.2.1 i.2.2.1 i.2.2.2.1 i.2.2.2.2.1 i.2.2.2.2.2.1 i.2.2.2.2.2.2.1 i.2.2.2.2.2.2.2.1 i.2.2.2.2.2.2.2.2.1=_) (fun i=>[(0,fEq (ptr p0)),(2,fI z2),(6,fEq (ptr b1)),(11,fEq (ptr b3)),(190,fSl aY y30.AQ),(191,fI (y30.AQ.length:Int)),(192,fI i.2.1)]) (fun i=>[aA b1 65 [fI y7.Op,fI y7.N,fSl aN y7.AX,fSl tI y7.AM],aA p0 131 [fSl aD i.2.2.1,fSl aJ i.2.2.2.1,fSl aB i.2.2.2.2.1,fI i.2.2.2.2.2.1,fEq i.2.2.2.2.2.2.2.2.2.1,fEq i.2.2.2.2.2.2.2.2.2.2.1,fEq i.2.2.2.2.2.2.2.2.2.2.2],aA b3 77 [fSl aZ y30.AT,fSl aU y30.AS,fSl aY y30.AQ],aC i.2.2.2.2.2.2.2.2.2.1 3 tI i.2.2.2.2.2.2.1,aC i.2.2.2.2.2.2.2.2.2.2.1 4 aR i.2.2.2.2.2.2.2.1,aC i.2.2.2.2.2.2.2.2.2.2.2 4 aR i.2.2.2.2.2.2.2.2.1]) (AA,0,a0.p.AF,a0.p.AB,a0.p.AD,a0.p.AG,a0.Aa.set a1.toNat a2,a0.AR.set a1.toNat true,a0.Ae.set y7.N.toNat true,v1,v2,v3) H (fun _ h=>nomatch h) ?_
 clear H;rintro k2 ⟨x32,x33,x34,x35,x36,x37,x38,x39,v13,v14,v15⟩ H;dsimp only at H ⊢;rw [oR]at H
 refine rc 3 fun _=>?_
 refine rc 4 fun _=>?_
 refine rc 5 fun _=>?_
 refine Z3 ?_
 refine aG ?_
 revert H;refine is (fun c14 H=>?_) fun c14 H=>?_
 refine Z3 ?_
 refine aG ?_
 revert H;refine B2z fun y33 h36 H=>?_
 refine Z2 ?_
 refine Tn (cB rfl pM rfl) fun b4=>?_
 refine cO (φs':=[fI y33.At,fSl tI y33.Ad,fI y33.AW]) a1F rfl rfl (has rfl) (has rfl) (aI (aF a1F) (aI (aS) (aI (aF a1F) bN))) (sz rfl) rfl rfl rfl ?_
 revert H;refine B1z fun y34 h37 H=>?_
 revert H;refine bs fun z3 h38 H=>?_
 apply bD (ods:=[_,_,_,_,_,_,_,_]) 8 0 7 bC rfl rfl rfl
 refine ND ?_
 refine M6 ?_
 intros
 refine Nc (aJq _ _ _ _ h37) fun _=>?_
 refine M1 ?_
 intros
 refine Z1 ?_
 refine aV ?_
 refine aV ?_
 refine aV ?_
 refine cP ?_
 refine zL ?_
 revert H;refine bs fun y35 h39 H=>?_
 rcases y35 with y35 | pv18 <;> dsimp only at H
 refine Tc (ih_scope_looker_node _ _ _ _ _ h39).s ?_
 refine xT (fun v16 v17 v18=>?_)
 refine rc 1 fun _=>?_
 refine rc 2 fun _=>?_
 refine rc 3 fun _=>?_
 revert H;refine B4z fun z4 h40 H=>?_
 refine Z3 ?_
 refine aE [5,0,6,1,2,3] (by decide) ?_
 exact Tm ((k2,z4,y35.p.AF,y35.p.AB,y35.p.AD,y35.p.AG,y35.Aa,y35.AR,y35.Ae,v16,v17,v18)) ⟨H,ls⟩
 refine Tp (ih_scope_looker_node _ _ _ _ _ h39).pan ?_
 revert H;refine B5z fun r16 H e16=>?_
 cases e16;cases Hr6
 revert H;refine B1z fun r17 H e17=>?_
 cases e17;cases Hr5
 cases H
 exact cF
 exact fk
 kernel_rfl
 refine Z6 ?_
 exact Tm ((x33,x34,x35,x36,x37,x38,x39,v13,v14,v15)) (ij H)
 rintro⟨x17,x18,x19,x20,x21,x22,x23,v7,v8,v9⟩ hi;subst o6;replace H:=Hr6;clear Hr6;try dsimp only at H ⊢
 refine rc 3 fun _=>?_
 refine rc 4 fun _=>?_
 refine rc 5 fun _=>?_
 refine Z7 ?_
 refine Th (ι:=Int × List ByteArray × List AZ × List AN × Int × List Int × List Bool × List Bool × Value × Value × Value) (fun i=>oS (fP AA) y30 z2 i.1 i.2.1 i.2.2.1 i.2.2.2.1 i.2.2.2.2.1 i.2.2.2.2.2.1 i.2.2.2.2.2.2.1 i.2.2.2.2.2.2.2.1 i.2.2.2.2.2.2.2.2.1=_) (fun i=>[(0,fEq (ptr p0)),(2,fI z2),(6,fEq (ptr b1)),(207,fSl aU y30.AS),(208,fI (y30.AS.length:Int)),(209,fI i.2.1)]) (fun i=>[aA b1 65 [fI y7.Op,fI y7.N,fSl aN y7.AX,fSl tI y7.AM],aA p0 131 [fSl aD i.2.2.1,fSl aJ i.2.2.2.1,fSl aB i.2.2.2.2.1,fI i.2.2.2.2.2.1,fEq i.2.2.2.2.2.2.2.2.2.1,fEq i.2.2.2.2.2.2.2.2.2.2.1,fEq i.2.2.2.2.2.2.2.2.2.2.2],aA b3 77 [fSl aZ y30.AT,fSl aU y30.AS,fSl aY y30.AQ],aC i.2.2.2.2.2.2.2.2.2.1 3 tI i.2.2.2.2.2.2.1,aC i.2.2.2.2.2.2.2.2.2.2.1 4 aR i.2.2.2.2.2.2.2.1,aC i.2.2.2.2.2.2.2.2.2.2.2 4 aR i.2.2.2.2.2.2.2.2.1]) (AA,0,x17,x18,x19,x20,x21,x22,x23,v7,v8,v9) H (fun _ h=>nomatch h) ?_
 clear H;rintro k3 ⟨x48,x49,x50,x51,x52,x53,x54,x55,v22,v23,v24⟩ H;dsimp only at H ⊢;rw [oS]at H
 refine rc 3 fun _=>?_
 refine rc 4 fun _=>?_
 refine rc 5 fun _=>?_
 refine Z3 ?_
 refine aG ?_
 revert H;refine is (fun c15 H=>?_) fun c15 H=>?_
 refine Z3 ?_
 refine aG ?_
 revert H;refine B2z fun y36 h41 H=>?_
 refine Z2 ?_
 refine Tn (cB rfl aAA rfl) fun b5=>?_
 refine cO (φs':=[fI y36.In,fI y36.AW]) a1F rfl rfl (has rfl) (has rfl) (aI (aF a1F) (aI (aF a1F) bN)) (sz rfl) rfl rfl rfl ?_
 refine Z6 ?_
 refine aV ?_
 refine aV ?_
 refine aV ?_
 refine cP ?_
 refine zL ?_
 revert H;refine bs fun y37 h42 H=>?_
 rcases y37 with y37 | pv19 <;> dsimp only at H
 refine Tc (ih_scope_looker_node _ _ _ _ _ h42).s ?_
 refine xT (fun v25 v26 v27=>?_)
 refine rc 1 fun _=>?_
 refine rc 2 fun _=>?_
 refine rc 3 fun _=>?_
 revert H;refine B4z fun z5 h43 H=>?_
 refine Z3 ?_
 refine aE [5,0,6,1,2,3] (by decide) ?_
 exact Tm ((k3,z5,y37.p.AF,y37.p.AB,y37.p.AD,y37.p.AG,y37.Aa,y37.AR,y37.Ae,v25,v26,v27)) ⟨H,ls⟩
 refine Tp (ih_scope_looker_node _ _ _ _ _ h42).pan ?_
 revert H;refine B5z fun r18 H e18=>?_
 cases e18;cases Hr5
 cases H
 exact cF
 refine Z6 ?_
 refine aE [0,1,3,4,5] (by decide) ?_
 exact Tm ((z2,x49,x50,x51,x52,x53,x54,x55,v22,v23,v24)) (ij H)
 refine Tp (aEQ _ _ _ h33).pan ?_
 revert H;refine B2z fun r19 H e19=>?_
 cases e19;cases Hr5
 cases H
 exact cF
 exact fk
 kernel_rfl
 exact fk
 kernel_rfl
 refine Z3 ?_
 exact Tm ((a2,a0.p.AF,a0.p.AB,a0.p.AD,a0.p.AG,a0.Aa.set a1.toNat a2,a0.AR.set a1.toNat true,a0.Ae,v1,v2,v3)) (ij H)
 rintro⟨x9,x10,x11,x12,x13,x14,x15,x16,v4,v5,v6⟩ hi;subst o5;replace H:=Hr5;clear Hr5;try dsimp only at H ⊢
 refine rc 2 fun _=>?_
 refine rc 3 fun _=>?_
 refine rc 4 fun _=>?_
 refine Z7 ?_
 refine Th (ι:=Int × List ByteArray × List AZ × List AN × Int × List Int × List Bool × List Bool × Value × Value × Value) (fun i=>pY (fP AA) y7 x9 i.1 i.2.1 i.2.2.1 i.2.2.2.1 i.2.2.2.2.1 i.2.2.2.2.2.1 i.2.2.2.2.2.2.1 i.2.2.2.2.2.2.2.1 i.2.2.2.2.2.2.2.2.1=_) (fun i=>[(0,fEq (ptr p0)),(2,fI x9),(220,fSl tI y7.AM),(221,fI (y7.AM.length:Int)),(222,fI i.2.1)]) (fun i=>[aA b1 65 [fI y7.Op,fI y7.N,fSl aN y7.AX,fSl tI y7.AM],aA p0 131 [fSl aD i.2.2.1,fSl aJ i.2.2.2.1,fSl aB i.2.2.2.2.1,fI i.2.2.2.2.2.1,fEq i.2.2.2.2.2.2.2.2.2.1,fEq i.2.2.2.2.2.2.2.2.2.2.1,fEq i.2.2.2.2.2.2.2.2.2.2.2],aC i.2.2.2.2.2.2.2.2.2.1 3 tI i.2.2.2.2.2.2.1,aC i.2.2.2.2.2.2.2.2.2.2.1 4 aR i.2.2.2.2.2.2.2.1,aC i.2.2.2.2.2.2.2.2.2.2.2 4 aR i.2.2.2.2.2.2.2.2.1]) (AA,0,x10,x11,x12,x13,x14,x15,x16,v4,v5,v6) H (fun _ h=>nomatch h) ?_
 clear H;rintro k4 ⟨x64,x65,x66,x67,x68,x69,x70,x71,v31,v32,v33⟩ H;dsimp only at H ⊢;rw [pY]at H
 refine rc 2 fun _=>?_
 refine rc 3 fun _=>?_
 refine rc 4 fun _=>?_
 refine Z3 ?_
 refine aG ?_
 refine iz H (fun c16 H=>?_) fun c16 H=>?_
 refine Z3 ?_
 refine aG ?_
 refine B2 H fun y38 h44 H=>?_
 refine Z8 ?_
 refine bG ?_
 refine bG ?_
 refine bG ?_
 refine bG ?_
 refine zL ?_
 refine bz H fun y39 h45 H=>?_
 rcases y39 with y39 | pv20 <;> dsimp only at H
 refine Tc (ih_scope_looker_node _ _ _ _ _ h45).s ?_
 refine xT (fun v34 v35 v36=>?_)
 refine rc 1 fun _=>?_
 refine rc 2 fun _=>?_
 refine rc 3 fun _=>?_
 refine B4 H fun z6 h46 H=>?_
 refine Z3 ?_
 refine aE [4,0,1,2,3] (by decide) ?_
 exact Tm ((k4,z6,y39.p.AF,y39.p.AB,y39.p.AD,y39.p.AG,y39.Aa,y39.AR,y39.Ae,v34,v35,v36)) ⟨H,ls⟩
 refine Tp (ih_scope_looker_node _ _ _ _ _ h45).pan ?_
 refine Z4 ?_
 cases H
 exact cF
 refine Z5 ?_
 refine bG ?_
 refine bG ?_
 refine bG ?_
 refine bG ?_
 refine zL ?_
 cases H
 refine pR ?_
 refine aE [0] (by decide) ?_
 exact dH (.inr rfl) rfl rfl
 refine Tp (bA _ _ h27).pan ?_
 refine Z1 ?_
 cases H
 exact cF
 exact fk
 kernel_rfl
end Go.Proofs.YtgidgoahhepmlaaGreat
