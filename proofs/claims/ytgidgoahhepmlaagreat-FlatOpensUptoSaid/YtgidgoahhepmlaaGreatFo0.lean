/- Parts of the proof: lemmas, and the steps through the program. -/
import Derived.TacticsIn
import Derived.OrdersIn
import Derived.RangeFuncIn
import Derived.Below
import Derived.KernelRfl
import Derived.IntWalk
import Derived.RangeFuncLeaves
import Derived.RangeFuncRecord
import Derived.ArgAppend
import Derived.Laws.Append
import Derived.Laws.MakeOwn
import Derived.Great.BuildSlice
import Derived.Laws.Strings
import Derived.Maps.RangeRun
import Derived.RecoverIn
import Derived.Scope
import GoSem.ClaimChange
set_option linter.unusedVariables false
set_option linter.unusedSimpArgs false
set_option maxRecDepth 100000
set_option maxHeartbeats 2000000
abbrev a0a:=@_root_.Array.getD_eq_getD_getElem?
abbrev a0b:=@_root_.Array.getElem?_append_left
abbrev a0c:=@_root_.Array.getElem?_eq_some_iff
abbrev a0d:=@_root_.Array.getElem?_toList
abbrev a0e:=@_root_.Array.length_toList
abbrev a0f:=@_root_.Array.toArray_toList
abbrev a0g:=@_root_.Bool.and_eq_true
abbrev a0h:=@_root_.Bool.eq_iff_iff
abbrev a0i:=@_root_.Bool.false_ne_true
abbrev a0j:=@_root_.Bool.not_false
abbrev a0k:=@_root_.Bool.not_true
abbrev a0l:=@_root_.Bool.true_and
abbrev a0m:=@_root_.Int.natCast_zero
abbrev a0n:=@_root_.Int.toNat_natCast
abbrev a0o:=@_root_.List.all_eq_true
abbrev a0p:=@_root_.List.append_nil
abbrev a0q:=@_root_.List.cons_append
abbrev a0r:=@_root_.List.drop_of_length_le
abbrev a0s:=@_root_.List.eq_nil_of_length_eq_zero
abbrev a0t:=@_root_.List.ext_getElem?
abbrev a0u:=@_root_.List.flatMap_cons
abbrev a0v:=@_root_.List.getElem?_append_left
abbrev a0w:=@_root_.List.getElem?_cons_succ
abbrev a0x:=@_root_.List.getElem?_cons_zero
abbrev a0y:=@_root_.List.getElem?_eq_getElem
abbrev a0z:=@_root_.List.getElem?_eq_some_iff
abbrev a0A:=@_root_.List.getElem?_map
abbrev a0B:=@_root_.List.getElem?_set
abbrev a0C:=@_root_.List.getElem?_set_ne
abbrev a0D:=@_root_.List.getElem?_take
abbrev a0E:=@_root_.List.getElem?_toArray
abbrev a0F:=@_root_.List.length_append
abbrev a0G:=@_root_.List.length_cons
abbrev a0H:=@_root_.List.length_filter_le
abbrev a0I:=@_root_.List.length_map
abbrev a0J:=@_root_.List.length_nil
abbrev a0K:=@_root_.List.length_set
abbrev a0L:=@_root_.List.map_append
abbrev a0M:=@_root_.List.map_congr_left
abbrev a0N:=@_root_.List.map_cons
abbrev a0O:=@_root_.List.mem_append
abbrev a0P:=@_root_.List.mem_append_left
abbrev a0Q:=@_root_.List.mem_append_right
abbrev a0R:=@_root_.List.mem_cons
abbrev a0S:=@_root_.List.mem_iff_getElem?
abbrev a0T:=@_root_.List.mem_map
abbrev a0U:=@_root_.List.mem_map_of_mem
abbrev a0V:=@_root_.List.mem_of_getElem?
abbrev a0W:=@_root_.List.mem_singleton
abbrev a0X:=@_root_.List.nil_append
abbrev a0Y:=@_root_.List.nodup_append
abbrev a0Z:=@_root_.List.nodup_cons
abbrev a1a:=@_root_.List.pairwise_append
abbrev a1b:=@_root_.List.pairwise_cons
abbrev a1c:=@_root_.List.pairwise_iff_getElem
abbrev a1d:=@_root_.List.perm_middle
abbrev a1e:=@_root_.List.take_of_length_le
abbrev a1f:=@_root_.List.take_succ_eq_append_getElem
abbrev a1g:=@_root_.Nat.add_mul
abbrev a1h:=@_root_.Nat.blt_eq
abbrev a1i:=@_root_.Nat.eq_of_beq_eq_true
abbrev a1j:=@_root_.Nat.le_of_ble_eq_true
abbrev a1k:=@_root_.Nat.le_refl
abbrev a1l:=@_root_.Nat.le_trans
abbrev a1m:=@_root_.Nat.mul_le_mul_right
abbrev a1n:=@_root_.Nat.zero_add
abbrev a1o:=@_root_.Nat.zero_le
abbrev a1p:=@_root_.Option.getD_some
abbrev a1q:=@_root_.Option.isNone_iff_eq_none
abbrev a1r:=@_root_.Option.map_eq_some_iff
abbrev a1s:=@_root_.Option.map_some
abbrev a1t:=@_root_.Option.ne_none_iff_exists'
abbrev a1u:=@_root_.Option.some.inj
abbrev a1v:=@_root_.Option.some.injEq
abbrev a1w:=@_root_.Go.Result.andThen_ok
abbrev a1x:=@_root_.Go.Sem.run_bind
abbrev a1y:=@_root_.cond_false
abbrev a1z:=@_root_.cond_true
abbrev a1A:=@_root_.decide_eq_false
abbrev a1B:=@_root_.decide_eq_true
abbrev a1C:=@_root_.decide_eq_true_eq
abbrev a1D:=@_root_.if_neg
abbrev a1E:=@_root_.if_pos
abbrev a1F:=@_root_.trivial
namespace Go.SX
abbrev Mem:=Nat->Option Obj
abbrev Ak:=List (Nat × Obj)
abbrev Env:=List (Nat × Value)
def Mem.le (m m':Mem):Prop:=∀ b o,m b=some o->m' b=some o
theorem Mem.le_refl (m:Mem):Mem.le m m:=fun _ _ h=>h
theorem Mem.le_trans {a b c:Mem} (h:Mem.le a b) (k:Mem.le b c):Mem.le a c:=fun x o e=>k x o (h x o e)
structure bL where
 w:World
 m:Mem
 fp:List Nat
structure St (β:bL) (m:Mem) (L:Ak) (w:World):Prop where
 mem:∀ b o,m b=some o->w.heap[b]? =some o
 own:∀ x,x∈L->w.heap[x.1]? =some x.2
 apart:∀ x,x∈L->m x.1=none
 nodup:(L.map Prod.fst).Nodup
 mle:Mem.le β.m m
 Av:∀ b,m b≠β.m b->β.w.heap.size<=b\/b∈β.fp
 keys:∀ x,x∈L->x.1<β.w.heap.size->x.1∈β.fp
 size:β.w.heap.size<=w.heap.size
 frame:∀ b,b<β.w.heap.size->b ∉ β.fp->w.heap[b]? =β.w.heap[b]?
 os:w.os=β.w.os
 output:w.output=β.w.output
 tape:w.tape=β.w.tape
def look:Env->Nat->Option Value
 | [],_=>none
 | (s,v) :: r,t=>bif Nat.beq s t then some v else look r t
structure Fr (n:Nat) (ds:List Deferred) (E:Env) (a:Act):Prop where
 size:a.tmps.size=n
 Ae:a.defers=ds
 get:∀ t v,look E t=some v->a.tmps[t]? =some v
def ev (E:Env):Operand->Option Value
 | .tmp t=>look E t
 | .const v=>some v
 | .global g=>some (.pointer (some ⟨g,0,none⟩))
 | .func f=>some (.func (.func f) #[] #[])
def evs (E:Env):List Operand->Option (List Value)
 | []=>some []
 | x :: xs=>match ev E x,evs E xs with
  | some v,some vs=>some (v :: vs)
  | _,_=>none
def Sub (E' E:Env):Prop:=∀ p∈E',look E p.1=some p.2
def K (β:bL) (n:Nat) (ds:List Deferred) (m:Mem) (L:Ak) (E:Env) (F:Act->World->Prop):Prop:=
 ∀ a w,Fr n ds E a->St β m L w->F a w
abbrev fw (r:Option Nat):Fence:={ fn:=fun _=>True,depth:=none,alive:=false,round:=r }
section
variable {P:Program} {β:bL} {n:Nat} {ds:List Deferred} {m:Mem} {L:Ak} {E:Env} {r:Option Nat} {Q Q':Exit->Act->World->Prop} {N:Act->World->Prop}
def At {ι:Type} (β:bL) (n:Nat) (ds:List Deferred) (I:ι->Mem->Ak->Env->Prop) (i:ι) (a:Act) (w:World):Prop:=
 ∃ m L E,I i m L E/\Fr n ds E a/\St β m L w
theorem zA {J:Nat->Prop} (h:∃ k,J k):∃ k,J k/\∀ k',J k'->k<=k':=by
 obtain⟨k,hk⟩:=h
 induction k using Nat.strongRecOn with
 | _ k ih=>
  grind
end
def gN:Op->Bool
 | .defer _=>true
 | _=>false
def Wants (ops:Array Oper) (E:Env) (o:Oper):Prop:=
 match o.guard with
 | none=>True
 | some (j,want)=>∃ d,(ops[j]?).bind (·.dst)=some d/\look E d=some (.bool want)
def asB:Value->Option Bool
 | .bool b=>some b
 | _=>none
def Unwants (ops:Array Oper) (E:Env) (o:Oper):Prop:=
 ∃ j want d v,o.guard=some (j,want)/\(ops[j]?).bind (·.dst)=some d/\look E d=some v/\asB v≠some want
def scalB (P:Program) (T:TypeId):Bool:=match P.underlying T with
 | some (.struct _) | some (.array _ _) | none=>false
 | some _=>true
def Scal (P:Program) (T:TypeId):Prop:=scalB P T=true
def aggB (P:Program) (T:TypeId) (k:Nat):Bool:=match P.underlying T,P.info? T with
 | some (.struct _),some i | some (.array _ _),some i=>i.size==k
 | _,_=>false
def kO (P:Program) (T:TypeId) (k:Nat):Prop:=aggB P T k=true
def aBx (P:Program) (S f:Nat):Option Nat:=match P.underlying S with
 | some (.struct fs)=>match fs[f]? with
  | some fd=>match P.info? fd.type with
   | some i=>if i.size=0 then none else some fd.offset
   | none=>none
  | none=>none
 | _=>none
def sX (P:Program) (S f k:Nat):Prop:=aBx P S f=some k
def wB (P:Program) (T:TypeId):Option Nat:=match P.underlying T with
 | some (.slice e)=>(P.info? e).map (·.size)
 | _=>none
def nP (P:Program) (T k:Nat):Prop:=wB P T=some k
def gM (P:Program) (T:TypeId) (d:TypeDesc):Prop:=P.underlying T=some d
theorem run_underlying {P:Program} {T:TypeId} {d:TypeDesc} (h:P.underlying T=some d) (w:World):(underlying T).run P w= .ok d w:=by
 simp_all [underlying]
theorem run_typeInfo {P:Program} {T:TypeId} {i:TypeInfo} (h:P.info? T=some i) (w:World):(typeInfo T).run P w= .ok i w:=by
 simp_all [typeInfo]
theorem run_sizeOf {P:Program} {T:TypeId} {i:TypeInfo} (h:P.info? T=some i) (w:World):(sizeOf T).run P w= .ok i.size w:=by
 simp [sizeOf,a1x,run_typeInfo h,Sem.run]
theorem aE8 {P:Program} {T:TypeId} (h:Scal P T) (w:World):(isAgg T).run P w= .ok false w:=by
 unfold Scal scalB at h
 cases hu:P.underlying T with
 | none=>rw [hu]at h;cases h
 | some d=>
  rw [hu]at h;cases d <;> simp_all [isAgg,_root_.Go.Sem.run_bind,run_underlying hu,Sem.run,pure]
theorem aCA {P:Program} {T:TypeId} {k:Nat} (h:kO P T k) (w:World):(isAgg T).run P w= .ok true w:=by
 unfold kO aggB at h
 cases hu:P.underlying T with
 | none=>rw [hu]at h;cases h
 | some d=>
  rw [hu]at h;cases d <;> simp_all [isAgg,_root_.Go.Sem.run_bind,run_underlying hu,Sem.run,pure]
theorem aDT {P:Program} {T:TypeId} {k:Nat} (h:kO P T k) (w:World):(sizeOf T).run P w= .ok k w:=by
 unfold kO aggB at h
 grind [run_sizeOf]
def uP (h:Nat->Option Obj) (p:Addr):Option Value:=match h p.block with
 | some (.cells c _ _)=>if p.spot.isSome then none else c[p.off]?
 | _=>none
def Mem.cell (m:Mem) (p:Addr):Option Value:=uP m p
theorem Mem.cell_mono {m m':Mem} (h:Mem.le m m') {p:Addr} {v:Value} (e:m.cell p=some v):m'.cell p=some v:=by
 unfold Mem.cell uP at *
 cases hb:m p.block with
 | none=>rw [hb]at e;cases e
 | some o=>rw [h _ _ hb];rw [hb]at e;exact e
theorem St.cell {β:bL} {m:Mem} {L:Ak} {w:World} (h:St β m L w) {p:Addr} {v:Value} (e:m.cell p=some v):w.cell? p=some v:=by
 unfold Mem.cell uP at e
 unfold World.cell?
 grind [mem]
theorem xA {α:Type} {l:List α} {k:Nat} {x:α} (h:l[k]? =some x):x∈l:=a0V h
theorem St.own_cell {β:bL} {m:Mem} {L:Ak} {w:World} (h:St β m L w) {k b:Nat} {c:Array Value} {T:TypeId} {fz:Nat × Nat} {p:Addr} {v:Value}
 (hk:L[k]? =some (b, .cells c T fz)) (hb:p.block=b) (hs:p.spot=none) (hc:c[p.off]? =some v):w.cell? p=some v:=by
 grind [own,World.cell?]
theorem aDE {P:Program} {T:TypeId} {w:World} {p:Addr} {v:Value} (hT:Scal P T) (h:w.cell? p=some v):
 (Instr.loadAt T (.pointer (some p))).run P w= .ok v w:=by
 simp [Instr.loadAt,Instr.sureAddr,loadVar,a1x,Sem.run,pure,aE8 hT,h]
theorem run_loadCellsFrom {P:Program} {w:World} {p:Addr}:∀ (cs:List Value) (i:Nat) (acc:Array Value),(∀ j v,cs[j]? =some v->w.cell? (p.add (i+j))=some v) ->
 (loadCellsFrom p i cs.length acc).run P w= .ok (acc++cs.toArray) w
 | [],i,acc,_=>by simp [loadCellsFrom,Sem.run,pure]
 | c :: cs,i,acc,h=>by
  have h0:w.cell? (p.add i)=some c:=h 0 c rfl;have ih:=run_loadCellsFrom (P:=P) cs (i+1) (acc.push c) (fun j v hj=>by
   have:=h (j+1) v hj
   rwa [show i+1+j=i+(j+1)from by omega])
  simp_all [loadCellsFrom]
theorem aHa {P:Program} {T:TypeId} {w:World} {p:Addr} (cs:List Value) (hT:kO P T cs.length)
 (h:∀ j v,cs[j]? =some v->w.cell? (p.add j)=some v):(Instr.loadAt T (.pointer (some p))).run P w= .ok (.agg cs.toArray) w:=by
 have:=run_loadCellsFrom (P:=P) (w:=w) (p:=p) cs 0 #[] (fun j v hj=>by simpa using h j v hj)
 simp [Instr.loadAt,Instr.sureAddr,loadVar,a1x,Sem.run,pure,aCA hT,aDT hT,loadCells,this]
section
variable {P:Program} {β:bL} {n:Nat} {ds:List Deferred} {m:Mem} {L:Ak} {E:Env} {o:Oper}
def Sl (v:Value) (len es:Nat) (q:Nat->Addr):Prop:=∃ a cap,v= .slice a len cap/\len<=cap/\∀ i,i<len->∃ p,a=some p/\p.add (i*es)=q i
theorem wrap64_id {i:Int} (h1:-9223372036854775808<=i) (h2:i<=9223372036854775807):IntKind.i64.wrap i=i:=IntWalk.i64_in _ ⟨h1,h2⟩
end
theorem zV {w:World} {b:Nat} {o:Obj} (h:w.heap[b]? =some o):b<w.heap.size:=(a0c.1 h).1
section
variable {β:bL} {m:Mem} {L:Ak} {w:World}
theorem St.lt_own (h:St β m L w) {x:Nat × Obj} (hx:x∈L):x.1<w.heap.size:=zV (h.own x hx)
theorem St.alloc (h:St β m L w) (o:Obj):St β m ((w.heap.size,o) :: L) (w.alloc o):=by
 have hsz:(w.alloc o).heap.size=w.heap.size+1:=by show(w.heap.push o).size=_;simp
 have hold:∀ b,b<w.heap.size->(w.alloc o).heap[b]? =w.heap[b]?:=fun b hb=>by
  show(w.heap.push o)[b]? =_;rw [Array.getElem?_push];simp;omega
 have hnew:(w.alloc o).heap[w.heap.size]? =some o:=by show(w.heap.push o)[w.heap.size]? =_;simp
 refine⟨fun b x hx=>?_,fun x hx=>?_,fun x hx=>?_,?_,h.mle,h.Av,fun x hx hlt=>?_,by rw [hsz];have:=h.size;omega,fun b hb hf=>?_,h.os,h.output,h.tape⟩
 ·rw [hold b (zV (h.mem b x hx))];exact h.mem b x hx
 ·cases hx with
  | head=>exact hnew
  | tail _ hx=>rw [hold _ (h.lt_own hx)];exact h.own x hx
 ·cases hx with
  | head=>
   show m w.heap.size=none
   cases hm:m w.heap.size with
   | none=>rfl
   | some y=>exact absurd (zV (h.mem _ _ hm)) (Nat.lt_irrefl _)
  | tail _ hx=>exact h.apart x hx
 ·simp only [a0N,a0Z];refine⟨fun hin=>?_,h.nodup⟩
  obtain⟨x,hx,he⟩:=a0T.1 hin;have:=h.lt_own hx;omega
 ·cases hx with
  | head=>exact absurd hlt (by have:=h.size;simp;omega)
  | tail _ hx=>exact h.keys x hx hlt
 ·rw [hold b (by have:=h.size;omega)];exact h.frame b hb hf
theorem St.drawn (h:St β m L w):St β m L { w with drawn:=w.drawn+1 }:=⟨h.mem,h.own,h.apart,h.nodup,h.mle,h.Av,h.keys,h.size,h.frame,h.os,h.output,h.tape⟩
theorem keys_set {L:Ak} {k b:Nat} {o o':Obj} (hk:L[k]? =some (b,o)):(L.set k (b,o')).map Prod.fst=L.map Prod.fst:=by
 rw [List.map_set]
 apply a0t
 grind
theorem aLn {l:List Nat} (hn:l.Nodup) {i j:Nat} {b:Nat} (hi:l[i]? =some b) (hj:l[j]? =some b):i=j:=by
 have hli:=(a0z.1 hi).1
 have hlj:=(a0z.1 hj).1
 have e1:=(a0z.1 hi).2
 have e2:=(a0z.1 hj).2
 grind [_root_.List.pairwise_iff_getElem]
theorem mem_set {L:Ak} {k b:Nat} {o o':Obj} (hk:L[k]? =some (b,o)) (hn:(L.map Prod.fst).Nodup) {x:Nat × Obj} (hx:x∈L.set k (b,o')):
 x=(b,o')\/(x∈L/\x.1≠b):=by
 obtain⟨i,hi⟩:=a0S.1 hx
 rw [a0B]at hi
 split at hi
 ·grind
 ·rename_i hne;right
  refine⟨xA hi,fun he=>hne ?_⟩
  have h1:(L.map Prod.fst)[k]? =some b:=by simp [hk]
  have h2:(L.map Prod.fst)[i]? =some b:=by simp [hi,he]
  exact aLn hn h1 h2
theorem St.write {w':World} (h:St β m L w) {k b:Nat} {o o':Obj} (hk:L[k]? =some (b,o)) (hb:w'.heap[b]? =some o') (hother:∀ b',b'≠b->w'.heap[b']? =w.heap[b']?)
 (hsz:w'.heap.size=w.heap.size) (hos:w'.os=w.os) (hout:w'.output=w.output) (htp:w'.tape=w.tape):St β m (L.set k (b,o')) w':=by
 have hmem:=xA hk
 refine⟨fun c x hx=>?_,fun x hx=>?_,fun x hx=>?_,by rw [keys_set hk];exact h.nodup,h.mle,h.Av,fun x hx hlt=>?_,by rw [hsz];exact h.size,fun c hc hf=>?_,
  by rw [hos];exact h.os,by rw [hout];exact h.output,by rw [htp];exact h.tape⟩
 ·grind [apart,mem]
 ·grind [mem_set,nodup,own]
 ·grind [apart]
 ·grind [keys]
 ·have:c≠b:=by grind [keys]
  grind [frame]
theorem St.perm {L':Ak} (h:St β m L w) (hp:L.Perm L'):St β m L' w:=
 ⟨h.mem,fun x hx=>h.own x (hp.mem_iff.2 hx),fun x hx=>h.apart x (hp.mem_iff.2 hx),(by grind [nodup]),h.mle,h.Av,fun x hx=>h.keys x (hp.mem_iff.2 hx),h.size,h.frame,h.os,h.output,h.tape⟩
theorem St.drop {L':Ak} (h:St β m L w) (hs:L'.Sublist L):St β m L' w:=
 ⟨h.mem,fun x hx=>h.own x (hs.subset hx),fun x hx=>h.apart x (hs.subset hx),h.nodup.sublist (hs.map _),h.mle,h.Av,fun x hx=>h.keys x (hs.subset hx),h.size,h.frame,h.os,h.output,h.tape⟩
def Mem.ins (m:Mem) (b:Nat) (o:Obj):Mem:=fun c=>if c=b then some o else m c
theorem Mem.le_ins {m:Mem} {b:Nat} {o:Obj} (h:m b=none):Mem.le m (m.ins b o):=by grind [Mem.ins,Mem.le]
theorem Mem.ins_self {m:Mem} {b:Nat} {o:Obj}:m.ins b o b=some o:=by simp [Mem.ins]
theorem St.persist {b:Nat} {o:Obj} (h:St β m ((b,o) :: L) w):St β (m.ins b o) L w/\Mem.le m (m.ins b o):=by
 have hn:m b=none:=h.apart (b,o) (.head _)
 have hge:β.w.heap.size<=b\/b∈β.fp:=by
  rcases Nat.lt_or_ge b β.w.heap.size with hlt | hge
  ·exact .inr (h.keys (b,o) (.head _) hlt)
  ·exact .inl hge
 refine⟨⟨fun c x hx=>?_,fun x hx=>h.own x (.tail _ hx),fun x hx=>?_,?_,Mem.le_trans h.mle (Mem.le_ins hn),fun c hc=>?_,fun x hx=>h.keys x (.tail _ hx),h.size,h.frame,h.os,h.output,h.tape⟩,Mem.le_ins hn⟩
 ·unfold Mem.ins at hx;split at hx
  ·subst c;cases hx;exact h.own (b,o) (.head _)
  ·exact h.mem c x hx
 ·have hne:x.1≠b:=fun e=>by
   have:=h.nodup;simp only [a0N,a0Z]at this;exact this.1 (e ▸ a0U hx)
  simp only [Mem.ins,a1D hne];exact h.apart x (.tail _ hx)
 ·have:=h.nodup;simp only [a0N,a0Z]at this;exact this.2
 ·unfold Mem.ins at hc;split at hc
  ·subst c;exact hge
  ·exact h.Av c hc
end
section
variable {P:Program} {β:bL} {n:Nat} {ds:List Deferred} {m:Mem} {L:Ak} {E:Env} {r:Option Nat} {Q:Exit->Act->World->Prop}
 {ops:Array Oper} {o:Oper} {rest:List Oper}
def Makes (P:Program) (β:bL) (n:Nat) (ds:List Deferred) (m:Mem) (L:Ak) (E:Env) (o:Oper) (x:Obj) (f:Nat->Value):Prop:=
 gN o.op=false/\∀ a w,Fr n ds E a->St β m L w->(execOp a.eval o).run P w= .ok (.value (f w.heap.size)) (w.alloc x)
def ptr (b:Nat):Value:= .pointer (some ⟨b,0,none⟩)
def cX (P:Program) (T:TypeId):Option Value:=(P.info? T).bind (·.zero)
def Zero (P:Program) (T:TypeId) (z:Value):Prop:=cX P T=some z
theorem lT {z:Value} {T:TypeId} (h:Zero P T z) (w:World):(zeroValue T).run P w= .ok z w:=by
 unfold Zero cX at h
 cases hi:P.info? T with
 | none=>rw [hi]at h;cases h
 | some i=>
  rw [hi]at h;simp only [Option.bind_some]at h;simp [zeroValue,a1x,run_typeInfo hi,h,Sem.run,pure]
def eH:Value->Prop
 | .agg _ | .tuple _=>False
 | _=>True
theorem Sl.isCell {v:Value} {len es:Nat} {q:Nat->Addr} (h:Sl v len es q):eH v:=by obtain⟨_,_,rfl,_⟩:=h;trivial
theorem eH.cells {v:Value} (h:eH v):v.cells=#[v]:=by cases v <;> first | rfl | exact h.elim
theorem run_store {P:Program} {w:World} {p:Addr} {v u:Value} (hv:eH v) (hc:w.cell? p=some u) (hf:w.frozen? p=false):
 (Go.store p v).run P w= .ok () (w.setCell p v):=by
 cases v <;> first | exact hv.elim | simp [Go.store,Sem.run,hc,hf]
theorem setCell_size (w:World) (p:Addr) (v:Value):(w.setCell p v).heap.size=w.heap.size:=by simp [World.setCell]
theorem setCell_other (w:World) (p:Addr) (v:Value) {b:Nat} (h:b≠p.block):(w.setCell p v).heap[b]? =w.heap[b]?:=by
 grind [World.setCell]
theorem setCell_self (w:World) (p:Addr) (v:Value) {c:Array Value} {T:TypeId} {fz:Nat × Nat} (h:w.heap[p.block]? =some (.cells c T fz)) (hs:p.spot=none):
 (w.setCell p v).heap[p.block]? =some (.cells (c.setIfInBounds p.off v) T fz):=by
 grind [World.setCell]
theorem St.setCell {β:bL} {m:Mem} {L:Ak} {w:World} (h:St β m L w) {k:Nat} {c:Array Value} {T:TypeId} {fz:Nat × Nat} {p:Addr} (hk:L[k]? =some (p.block, .cells c T fz)) (hs:p.spot=none) (v:Value):
 St β m (L.set k (p.block, .cells (c.setIfInBounds p.off v) T fz)) (w.setCell p v):=
 h.write hk (setCell_self w p v (h.own _ (xA hk)) hs) (by grind [setCell_other]) (setCell_size w p v) rfl rfl rfl
theorem St.unfrozen {β:bL} {m:Mem} {L:Ak} {w:World} (h:St β m L w) {k:Nat} {c:Array Value} {T:TypeId} {p:Addr} (hk:L[k]? =some (p.block, .cells c T (0,0))):w.frozen? p=false:=by
 grind [own,World.frozen?]
theorem aFo {P:Program} {w:World} {T:TypeId} {i:TypeInfo} {p:Addr} {v u:Value} (hi:P.info? T=some i) (h1:i.size=1) (hv:eH v) (hc:w.cell? p=some u) (hf:w.frozen? p=false):
 (storeVar T p v).run P w= .ok () (w.setCell p v):=by
 have h0:p.add 0=p:=rfl
 simp [storeVar,a1x,run_sizeOf hi,h1,hv.cells,storeCells,h0,run_store hv hc hf,Sem.run,pure]
def lS (P:Program) (T:TypeId):Option Nat:=(P.info? T).map (·.size)
def hO (P:Program) (T k:Nat):Prop:=lS P T=some k
theorem aAY {P:Program} {β:bL} {m:Mem} {b k:Nat} {T:TypeId}:∀ (vs:List Value) (i:Nat) (c:Array Value) (L:Ak) (w:World),St β m L w->L[k]? =some (b, .cells c T (0,0))->(∀ v∈vs,eH v) ->
 i+vs.length<=c.size->∃ w',(storeCells ⟨b,0,none⟩ vs i).run P w= .ok () w'/\St β m (L.set k (b, .cells ((c.toList.take i++vs++c.toList.drop (i+vs.length)).toArray) T (0,0))) w'
 | [],i,c,L,w,hS,hk,_,_=>by
  refine⟨w,rfl,?_⟩;have e1:(c.toList.take i++[]++c.toList.drop (i+([]:List Value).length)).toArray=c:=by simp
  have e2:L.set k (b, .cells c T (0,0))=L:=by
   apply a0t;intro j;rw [a0B]
   split
   ·subst_vars;split
    ·exact hk.symm
    ·have:=(a0z.1 hk).1;omega
   ·rfl
  rw [e1,e2];exact hS
 | v :: vs,i,c,L,w,hS,hk,hv,hsz=>by
  have hi:i<c.size:=by simp at hsz;omega
  have hadd:(Addr.add ⟨b,0,none⟩ i).block=b/\(Addr.add ⟨b,0,none⟩ i).spot=none/\(Addr.add ⟨b,0,none⟩ i).off=i:=by
   unfold Addr.add;split
   ·subst_vars;simp
   ·simp
  obtain⟨a1,a2,a3⟩:=hadd;generalize Addr.add ⟨b,0,none⟩ i=p at a1 a2 a3
  have hk':L[k]? =some (p.block, .cells c T (0,0)):=by rw [a1];exact hk
  have hcell:=hS.own_cell hk a1 a2 (v:=c[i]) (by rw [a3];simp [hi])
  have hrun:=run_store (P:=P) (hv v (.head _)) hcell (hS.unfrozen hk');have hS':=hS.setCell hk' a2 v;rw [a1,a3]at hS';obtain⟨w',hr,hSt⟩:=aAY (P:=P) (β:=β) (m:=m) (b:=b) (k:=k) (T:=T) vs (i+1) (c.setIfInBounds i v) _ _ hS' (by
   rw [List.getElem?_set_self (a0z.1 hk).1]) (fun u hu=>hv u (.tail _ hu)) (by simp at hsz ⊢;omega)
  refine⟨w',?_,?_⟩
  ·simp only [storeCells,a1x];have e0:(Go.store (Addr.add ⟨b,0,none⟩ i) v).run P w= .ok () (w.setCell p v):=by
    have:Addr.add ⟨b,0,none⟩ i=p:=by
     cases p with
     | mk pb po ps=>
      simp only at a1 a2 a3;subst a1 a2 a3
      unfold Addr.add;split
      ·subst_vars;rfl
      ·simp
    rw [this];exact hrun
   rw [e0];exact hr
  ·rw [List.set_set]at hSt;have e:(c.setIfInBounds i v).toList.take (i+1)++vs++(c.setIfInBounds i v).toList.drop (i+1+vs.length)=c.toList.take i++(v :: vs)++c.toList.drop (i+(v :: vs).length):=by
    have h1:(c.setIfInBounds i v).toList=c.toList.set i v:=by simp
    rw [h1];have h2:(c.toList.set i v).take (i+1)=c.toList.take i++[v]:=by
     rw [List.take_set,a1f (by simpa using hi),List.set_append_right _ _ (by simp;omega)];simp [Nat.min_eq_left (Nat.le_of_lt hi)]
    have h3:(c.toList.set i v).drop (i+1+vs.length)=c.toList.drop (i+(v :: vs).length):=by
     rw [List.drop_set,a1E (by omega)];congr 1;simp;omega
    rw [h2,h3];simp
   rw [e]at hSt;exact hSt
end
def Fn (P:Program) (f:FuncId) (args:List Value) (m:Mem) (L:Ak) (post:Mem->Ak->Ending->Prop):Prop:=
 ∀ w,St ⟨w,m,L.map Prod.fst⟩ m L w->Calls P f args.toArray w fun e w'=>
  ∃ m' L',L'.map Prod.fst=L.map Prod.fst/\St ⟨w,m,L.map Prod.fst⟩ m' L' w'/\post m' L' e
def FnV (P:Program) (f:FuncId) (args:List Value) (m:Mem) (v:Value):Prop:=Fn P f args m [] fun m' _ e=>m'=m/\e= .returned v
theorem St.start {β:bL} {m:Mem} {L₀ R:Ak} {w:World} (h:St β m (L₀++R) w):St ⟨w,m,L₀.map Prod.fst⟩ m L₀ w:=
 ⟨h.mem,fun x hx=>h.own x (a0P _ hx),fun x hx=>h.apart x (a0P _ hx),by have:=h.nodup;rw [a0L]at this;exact(a0Y.1 this).1,
  Mem.le_refl _,fun _ hb=>absurd rfl hb,fun x hx _=>a0U hx,a1k _,fun _ _ _=>rfl,rfl,rfl,rfl⟩
def callB (P:Program) (f:FuncId):Bool:=match P.funcs[f]? with
 | some fn=>fn.name != "runtime.NumGoroutine" && fn.body.isSome
 | none=>false
def Au (P:Program) (f:FuncId):Prop:=callB P f=true
theorem run_callFunc {P:Program} {f:FuncId} (h:Au P f) (args:Array Value) (w:World):(callFunc f args).run P w= .ok (.enter f args) w:=by
 unfold Au callB at h
 cases hf:P.funcs[f]? with
 | none=>rw [hf]at h;cases h
 | some fn=>
  rw [hf]at h;simp only [a0g,bne_iff_ne,ne_eq]at h;have h2:fn.body≠none:=by grind
  simp_all [callFunc]
theorem aDW {P:Program} {f:FuncId} {args:Array Value} {w:World} {R:Ending->World->Prop} {r:Option Nat} {k:Nat} (h:Calls P f args w R):CallsIn (fw r) k P f args w R:=by
 have:=(callsIn_wide (n:=k)).2 h
 exact this
open Go.RowKit (Below)
inductive Res where
 | val (v:Value)
 | new (x:Obj) (f:Nat->Value)
theorem St.of_mem {β:bL} {m:Mem} {L L':Ak} {w:World} (h:St β m L w) (hs:∀ x∈L',x∈L) (hn:(L'.map Prod.fst).Nodup):St β m L' w:=
 ⟨h.mem,fun x hx=>h.own x (hs x hx),fun x hx=>h.apart x (hs x hx),hn,h.mle,h.Av,fun x hx=>h.keys x (hs x hx),h.size,h.frame,h.os,h.output,h.tape⟩
def aCY:Op->Bool
 | .move _ | .extract _ _ | .pick _ _ _=>true
 | _=>false
section
variable (P:Program) (β:bL) (n:Nat) (ds:List Deferred) (m:Mem) (L:Ak) (ops:Array Oper)
def QY (E:Env) (o:Oper) (v:Value):Prop:=
 gN o.op=false/\∀ a w,Fr n ds E a->St β m L w->(execOp a.eval o).run P w= .ok (.value v) w \/
  ∃ f args,(execOp a.eval o).run P w= .ok (.enter f args) w/\Calls P f args w fun e w'=>e= .returned v/\Below w.heap.size w w'
def iS (E:Env) (o:Oper) (d:Nat):Res->Prop
 | .val v=>(Unwants ops E o/\v=undef)\/(Wants ops E o/\QY P β n ds m L E o v)
 | .new x f=>o.guard=none/\Makes P β n ds m L E o x f/\look E d=none/\aCY o.op=false
def nextE (E:Env) (d:Nat):Res->Env
 | .val v=>(d,v) :: E
 | .new _ _=>E
abbrev News:=List (Nat × Nat × Obj × (Nat->Value))
def AllNew (G:Ak->Env->Prop):News->Ak->Env->Prop
 | [],L,E=>G L E
 | (_,d,x,f) :: N,L,E=>∀ b,AllNew G N ((b,x) :: L) ((d,f b) :: E)
end
def newL (bl:Nat->Nat):News->Ak->Ak
 | [],L=>L
 | (i,_,x,_) :: N,L=>newL bl N ((bl i,x) :: L)
def newE (bl:Nat->Nat):News->Env->Env
 | [],E=>E
 | (i,d,_,f) :: N,E=>newE bl N ((d,f (bl i)) :: E)
def waits (o:Oper) (j:Nat):Bool:=o.after.any fun e=>Region.binds .any e && e.on==j
def jM (ops:Array Oper):Nat->Nat->Nat->Bool
 | 0,_,_=>false
 | f+1,i,j=>match ops[i]? with
  | none=>false
  | some o=>waits o j || o.after.any fun e=>Region.binds .any e && jM ops f e.on j
def plainOp:Op->Bool
 | .defer _ | .select _ _=>false
 | _=>true
def simpleOp:Op->Bool
 | .move _ | .assign _ | .store _ _ _=>true
 | _=>false
structure Shape (ops:Array Oper) (h:Nat):Prop where
 plain:∀ (i:Nat) (o:Oper),ops[i]? =some o->plainOp o.op=true
 back:∀ (i:Nat) (o:Oper),ops[i]? =some o->∀ e∈o.after,Region.binds .any e=true->e.on<i
 apart:∀ (i j:Nat) (oi oj:Oper),ops[i]? =some oi->ops[j]? =some oj->i<h->j<i->oj.dst≠oi.dst
 data:∀ (i j:Nat) (oi oj:Oper) d,ops[i]? =some oi->ops[j]? =some oj->i<h->j<i->oj.dst=some d->d∈oi.looksAt ops->jM ops ops.size i j=true
 tail:∀ (i j:Nat) (oi oj:Oper),ops[i]? =some oi->ops[j]? =some oj->h<=i->j<i->jM ops ops.size i j=true \/
  (j<h/\aCY oj.op=true/\simpleOp oi.op=true/\∀ d,oj.dst=some d->d ∉ oi.looksAt ops)
 sep:∀ (i j:Nat) (oi oj:Oper) d,ops[i]? =some oi->ops[j]? =some oj->h<=i->j<h->oi.dst=some d->oj.dst≠some d/\(jM ops ops.size i j=true\/d ∉ oj.looksAt ops)
def lU (ops:Array Oper) (listed:Array Bool):Prop:=
 ∀ i o,ops[i]? =some o->listed.getD i false=true->∀ e∈o.after,Region.binds .any e=true->listed.getD e.on false=true
theorem aBa {ops:Array Oper} {listed:Array Bool} (hc:lU ops listed):∀ (f i j:Nat) (o:Oper),ops[i]? =some o ->
 (∀ e∈o.after,Region.binds .any e=true->listed.getD e.on false=true)->jM ops f i j=true->listed.getD j false=true
 | 0,_,_,_,_,_,h=>by cases h
 | f+1,i,j,o,ho,hall,h=>by
  simp only [jM,ho,Bool.or_eq_true]at h;rcases h with h | h
  ·grind [waits]
  ·rw [Array.any_eq_true']at h;obtain⟨e,he,h2⟩:=h;simp only [a0g]at h2;have hl:=hall e he h2.1;have hex:∃ o',ops[e.on]? =some o':=by
    cases f with
    | zero=>cases h2.2
    | succ f=>
     grind [jM]
   obtain⟨o',ho'⟩:=hex;exact aBa hc f e.on j o' ho' (hc e.on o' ho' hl) h2.2
section
variable {P:Program} {β:bL} {n:Nat} {ds:List Deferred} {m:Mem} {L:Ak} {ops:Array Oper}
def Goods (P:Program) (β:bL) (n:Nat) (ds:List Deferred) (m:Mem) (L:Ak) (ops:Array Oper):List Oper->Env->List Res->Prop
 | [],_,rs=>rs=[]
 | o :: l,E,rs=>∃ d r rs',rs=r :: rs'/\o.dst=some d/\d<n/\iS P β n ds m L ops E o d r/\Goods P β n ds m L ops l (nextE E d r) rs'
def envAt:Env->List Oper->List Res->Nat->Env
 | E,o :: l,r :: rs,i+1=>envAt (nextE E (o.dst.getD 0) r) l rs i
 | E,_,_,_=>E
def star:Act->List Oper->List Res->Nat->Act
 | a,o :: l, .val v :: rs,i+1=>star (a.put o.dst v) l rs i
 | a,_ :: l, .new _ _ :: rs,i+1=>star a l rs i
 | a,_,_,_=>a
end
open Go.RowKit (Below)
def cnt (p:Nat->Bool):Nat->Nat
 | 0=>0
 | s+1=>cnt p s+(if p s then 1 else 0)
theorem yX {listed:Array Bool} {i k:Nat} {b:Bool} (hi:i<listed.size):(listed.setIfInBounds i true).getD k b=if i=k then true else listed.getD k b:=by
 rw [a0a,a0a,Array.getElem?_setIfInBounds]
 split
 ·simp [hi]
 ·rfl
theorem yQ {listed:Array Bool} {i:Nat} (hi:i<listed.size):listed.getD i true=listed.getD i false:=by
 simp [a0a,hi]
structure Inv (β:bL) (n:Nat) (ds:List Deferred) (m:Mem) (L:Ak) (E:Env) (head:List Oper) (rs:List Res) (ai:Act) (bl:Nat->Nat) (Lc:Ak) (listed:Array Bool) (a:Act) (w:World):Prop where
 base:∀ t:Nat,(∀ o∈head,o.dst≠some t)->a.tmps[t]? =ai.tmps[t]?
 size:a.tmps.size=n
 Ae:a.defers=ds
 old:∀ t v,look E t=some v->a.tmps[t]? =some v
 vals:∀ (i:Nat) (o:Oper) (v:Value) (d:Nat),listed.getD i false=true->head[i]? =some o->rs[i]? =some (.val v)->o.dst=some d->a.tmps[d]? =some v
 news:∀ (i:Nat) (o:Oper) (x:Obj) (f:Nat->Value) (d:Nat),listed.getD i false=true->head[i]? =some o->rs[i]? =some (.new x f)->o.dst=some d ->
  a.tmps[d]? =some (f (bl i))
 mem:∀ (i:Nat) (x:Obj) (f:Nat->Value),listed.getD i false=true->rs[i]? =some (.new x f)->(bl i,x)∈Lc/\bl i ∉ L.map Prod.fst
 inj:∀ (i j:Nat) (x:Obj) (f:Nat->Value) (y:Obj) (g:Nat->Value),listed.getD i false=true->listed.getD j false=true->rs[i]? =some (.new x f)->rs[j]? =some (.new y g)->i≠j->bl i≠bl j
 st:St β m Lc w
 sub:∀ x∈L,x∈Lc
section
variable {P:Program} {β:bL} {n:Nat} {ds:List Deferred} {m:Mem} {L:Ak} {E:Env} {r:Option Nat} {Q:Exit->Act->World->Prop} {head tail:List Oper} {rs:List Res} {ops:Array Oper}
def Calm {α:Type} (P:Program) (s:Sem α):Prop:=∀ w v w',s.run P w≠ .halt (.panic v) w'
structure TInv (P:Program) (r:Option Nat) (Q:Exit->Act->World->Prop) (n:Nat) (ops:Array Oper) (head tail:List Oper) (rs:List Res) (ai:Act) (k:Nat) (listed:Array Bool) (a:Act) (w:World):Prop where
 size:a.tmps.size=n
 AC:∀ i:Nat,i<head.length+k->listed.getD i false=true\/∃ o,head[i]? =some o/\aCY o.op=true
 post:∀ i:Nat,head.length+k<=i->listed.getD i false=false
 closed:lU ops listed
 vals:∀ (i:Nat) (o:Oper) (v:Value) (d:Nat),listed.getD i false=true->head[i]? =some o->rs[i]? =some (.val v)->o.dst=some d->a.tmps[d]? =some v
 base:∀ t:Nat,(∀ o∈head,o.dst≠some t)->(∀ j:Nat,j<k->∀ o,tail[j]? =some o->o.dst≠some t)->a.tmps[t]? =ai.tmps[t]?
 run:wpListIn (fw r) 0 P ops Q (tail.drop k) (star a head rs head.length) w
end
open Go.RowKit (Below)
def oJ (l:Nat):Value:= .func (.yield l) #[] #[]
def wY (r:Loop) (vs:Array Value):Array Value:=(r.params.zip vs).foldl (fun tmps (t,a)=>tmps.setIfInBounds t a) r.tmps
theorem aIQ (w:World) (b:Nat) (o:Obj) (h:b<w.heap.size):(w.putObj b o).heap[b]? =some o:=by simp [World.putObj,h]
theorem aJ0 (w:World) (b c:Nat) (o:Obj) (h:c≠b):(w.putObj b o).heap[c]? =w.heap[c]?:=by
 grind [World.putObj]
theorem St.putObj {β:bL} {m:Mem} {L:Ak} {w:World} (h:St β m L w) {k b:Nat} {o o':Obj} (hk:L[k]? =some (b,o)):St β m (L.set k (b,o')) (w.putObj b o'):=
 h.write hk (aIQ w b o' (zV (h.own _ (xA hk)))) (by grind [aJ0]) (by simp [World.putObj]) rfl rfl rfl
def mark (rb:Nat):Deferred:={ target:= .collected rb,args:=#[] }
def busy (r:Loop):Obj:= .loop { r with state:= .busy }
section
variable {P:Program} {β:bL} {n:Nat} {ds:List Deferred} {m:Mem} {L:Ak} {E:Env} {Q:Exit->Act->World->Prop}
theorem aEZ {fn:Func} {tmps:Array Value} {R:Ending->World->Prop} {A L':Ak}:∀ (rbs:List Nat) (L:Ak) (w:World),St β m L w->(∀ rb∈rbs,∃ j,L[j]? =some (rb, .deferred (some []))/\j<A.length)->rbs.Nodup ->
 L.length=A.length+L'.length->L.drop A.length=L'->(∀ w',St β m L' w'->∃ v,(results fn tmps).run P w'= .ok v w'/\R (.returned v) w')->LeavesInM (fw none) 0 P fn tmps R (rbs.map mark) .returning w
 | [],L,w,hS,_,_,_,hd,h=>h w (by grind [St.drop])
 | rb :: rbs,L,w,hS,hin,hn,hl,hd,h=>by
  obtain⟨j,hj,hlt⟩:=hin rb (.head _);refine⟨by simp, .inl ⟨rb,_,rfl,run_takeDeferred (hS.own _ (xA hj)),?_⟩⟩
  refine aEZ (L':=L') (A:=A) rbs (L.set j (rb, .deferred none)) _ (hS.putObj hj) (fun rb' hrb'=>?_) (a0Z.1 hn).2 (by simpa using hl) (by grind [List.drop_set]) h
  obtain⟨j',hj',hlt'⟩:=hin rb' (.tail _ hrb');refine⟨j',?_,hlt'⟩
  grind
end
def AllCell:List Value->Prop
 | []=>True
 | v :: vs=>eH v/\AllCell vs
section
variable {P:Program} {β:bL} {n:Nat} {ds:List Deferred} {m:Mem} {L:Ak} {E:Env} {o:Oper}
def iD (P:Program) (T:TypeId):Option (List (Nat × Nat)):=match P.underlying T with
 | some (.struct fs)=>fs.toList.mapM fun f=>(P.info? f.type).map fun i=>(f.offset,i.size)
 | _=>none
def iP (P:Program) (T:TypeId) (pl:List (Nat × Nat)) (z:Value):Prop:=iD P T=some pl/\cX P T=some z
end
section
variable {P:Program} {β:bL} {n:Nat} {ds:List Deferred} {m:Mem} {L:Ak} {E:Env} {r:Option Nat} {Q:Exit->Act->World->Prop} {F:Act->World->Prop}
 {ops:Array Oper} {o:Oper} {rest:List Oper}
theorem aDg {c:List Value} {i:Nat} {v:Value} {vs:List Value} (hi:i<c.length):
 (c.set i v).take (i+1)++vs++(c.set i v).drop (i+1+vs.length)=c.take i++(v :: vs)++c.drop (i+(v :: vs).length):=by
 have h2:(c.set i v).take (i+1)=c.take i++[v]:=by
  rw [List.take_set,a1f hi,List.set_append_right _ _ (by simp;omega)]
  simp_all [Nat.le_of_lt]
 grind [List.drop_set]
theorem St.setCells {b k:Nat} {T:TypeId}:∀ (vs:List Value) (i:Nat) (c:Array Value) (L:Ak) (w:World),St β m L w->L[k]? =some (b, .cells c T (0,0))->i+vs.length<=c.size ->
 St β m (L.set k (b, .cells ((c.toList.take i++vs++c.toList.drop (i+vs.length)).toArray) T (0,0))) (w.setCells b i vs)
 | [],i,c,L,w,hS,hk,_=>by
  have e1:(c.toList.take i++[]++c.toList.drop (i+([]:List Value).length)).toArray=c:=by simp
  have e2:L.set k (b, .cells c T (0,0))=L:=by
   apply a0t;intro j;rw [a0B]
   split
   ·subst_vars;split
    ·exact hk.symm
    ·have:=(a0z.1 hk).1;omega
   ·rfl
  rw [e1,e2];exact hS
 | v :: vs,i,c,L,w,hS,hk,hsz=>by
  have hi:i<c.size:=by simp at hsz;omega
  have hS':=hS.setCell (p:=⟨b,i,none⟩) hk rfl v;have h:=St.setCells vs (i+1) (c.setIfInBounds i v) _ _ hS' (by
   rw [List.getElem?_set_self (a0z.1 hk).1]) (by simp at hsz ⊢;omega)
  rw [List.set_set]at h;have e:=aDg (c:=c.toList) (i:=i) (v:=v) (vs:=vs) (by simpa using hi)
  have h1:(c.setIfInBounds i v).toList=c.toList.set i v:=by simp
  rw [h1,e]at h;exact h
def elB (P:Program) (t e es by':Nat):Bool:=match P.underlying t,P.info? e with
 | some (.slice e'),some i=>e'==e && i.size==es && i.bytes==by' && (match i.zero with | some z=>z.cells.size==es | none=>false)
 | _,_=>false
def ElT (P:Program) (t e es by':Nat):Prop:=elB P t e es by'=true
theorem ElT.spell {t e es by':Nat} (h:ElT P t e es by'):P.underlying t=some (.slice e)/\∃ i z,P.info? e=some i/\i.size=es/\i.bytes=by'/\i.zero=some z/\z.cells.size=es:=by
 unfold ElT elB at h
 grind
def gI (v:Value) (es:Nat) (T:TypeId) (len:Nat) (cs:List Value) (R:Ak):Prop:=
 cs.length=len*es/\((v= .slice none 0 0/\len=0/\R=[]) \/
  ∃ b c cap,v= .slice (some ⟨b,0,none⟩) len cap/\R=[(b, .cells c T (0,0))]/\c.size=cap*es/\len<=cap/\c.toList.take cs.length=cs)
theorem gI.nil {es:Nat} {T:TypeId}:gI (.slice none 0 0) es T 0 [] []:=by grind [gI]
theorem gI.isCell {v:Value} {es:Nat} {T:TypeId} {len:Nat} {cs:List Value} {R:Ak} (h:gI v es T len cs R):eH v:=by
 rcases h.2 with⟨rfl,_⟩ | ⟨b,c,cap,rfl,_⟩ <;> trivial
theorem aDj {b:Nat} {c:Array Value} {T:TypeId} {w:World} (hS:St β m L w) (h:(b,Obj.cells c T (0,0))∈L) {j:Nat} {v:Value} (hv:c.toList[j]? =some v):w.cell? ⟨b,j,none⟩=some v:=by
 obtain⟨k,hk⟩:=a0S.1 h
 grind [St.own_cell]
theorem aF3 {c cs:List Value} (h:c.take cs.length=cs) {j:Nat} {v:Value} (hv:cs[j]? =some v):c[j]? =some v:=by
 grind
theorem aBr (b j:Nat):Addr.add ⟨b,0,none⟩ j=⟨b,j,none⟩:=by grind [Addr.add]
theorem eH.one {v:Value} (h:eH v):v.oneCell'=true:=by cases v <;> first | rfl | exact h.elim
def RowM (m:Mem) (v:Value) (es len:Nat) (cs:List Value):Prop:=∃ b,Sl v len es (fun i=>⟨b,i*es,none⟩)/\∀ (j:Nat) x,cs[j]? =some x->m.cell ⟨b,j,none⟩=some x
def CellsR {α:Type} (es:Nat) (R:Mem->List Value->α->Prop) (m:Mem) (cs:List Value) (xs:List α):Prop:=cs.length=xs.length*es/\∀ i x,xs[i]? =some x->R m ((cs.drop (i*es)).take es) x
end
end Go.SX
namespace Go.SW
open Go.SX
structure AK where
 p:Mem->Value->Prop
 mono:∀ {m m':Mem} {v:Value},Mem.le m m'->p m v->p m' v
abbrev Ctx:=List (Nat × AK)
def lk:Ctx->Nat->Option AK
 | [],_=>none
 | (s,φ) :: r,t=>bif Nat.beq s t then some φ else lk r t
structure Tk where
 p:Mem->Ak->Prop
 mono:∀ {m m':Mem} {H:Ak},Mem.le m m'->p m H->p m' H
def cD:List Tk->Mem->Ak->Prop
 | [],_,L=>L=[]
 | τ :: Δ,m,L=>∃ H R,L=H++R/\τ.p m H/\cD Δ m R
theorem cD.mono {m m':Mem} (h:Mem.le m m'):∀ {Δ:List Tk} {L:Ak},cD Δ m L->cD Δ m' L
 | [],_,k=>k
 | _ :: _,_,⟨H,R,e,h1,h2⟩=>⟨H,R,e,Tk.mono _ h h1,cD.mono h h2⟩
theorem cD.append {m:Mem}:∀ {Δ Δ':List Tk} {L L':Ak},cD Δ m L->cD Δ' m L'->cD (Δ++Δ') m (L++L')
 | [],_,_,_,h,k=>by cases h;exact k
 | _ :: _,_,_,_,⟨H,R,e,h1,h2⟩,k=>⟨H,R++_,by grind,h1,cD.append h2 k⟩
theorem cD.split {m:Mem}:∀ {Δ Δ':List Tk} {L:Ak},cD (Δ++Δ') m L->∃ A B,L=A++B/\cD Δ m A/\cD Δ' m B
 | [],_,L,h=>⟨[],L,rfl,rfl,h⟩
 | _ :: _,_,_,⟨H,R,e,h1,h2⟩=>by
  obtain⟨A,B,e2,h3,h4⟩:=cD.split h2;exact⟨H++A,B,by grind,⟨H,A,rfl,h1,h3⟩,h4⟩
structure FT (n:Nat) (ds:List Deferred) (Γ:Ctx) (m:Mem) (a:Act):Prop where
 size:a.tmps.size=n
 Ae:a.defers=ds
 get:∀ t φ,lk Γ t=some φ->∃ v,a.tmps[t]? =some v/\φ.p m v
theorem FT.mono {n:Nat} {ds:List Deferred} {Γ:Ctx} {m m':Mem} {a:Act} (h:FT n ds Γ m a) (hle:Mem.le m m'):FT n ds Γ m' a:=
 ⟨h.size,h.Ae,(by grind [get,AK.mono])⟩
def fEq (v:Value):AK:=⟨fun _ u=>u=v,fun _ h=>h⟩
abbrev bI (k:IntKind) (x:Int):AK:=fEq (.int k x)
abbrev aH (b:Bool):AK:=fEq (.bool b)
abbrev gC (s:ByteArray):AK:=fEq (.string s)
def evT (Γ:Ctx):Operand->Option AK
 | .tmp t=>lk Γ t
 | .const v=>some (fEq v)
 | .global g=>some (fEq (.pointer (some ⟨g,0,none⟩)))
 | .func f=>some (fEq (.func (.func f) #[] #[]))
def Ent (ψ φ:AK):Prop:=∀ m v,ψ.p m v->φ.p m v
theorem Ent.rfl {φ:AK}:Ent φ φ:=fun _ _ h=>h
def Has (Γ:Ctx) (x:Operand) (φ:AK):Prop:=∃ ψ,evT Γ x=some ψ/\Ent ψ φ
theorem has {Γ:Ctx} {x:Operand} {φ:AK} (h:evT Γ x=some φ):Has Γ x φ:=⟨φ,h, .rfl⟩
theorem fY {Γ:Ctx} {x:Operand} {ψ φ:AK} (h:evT Γ x=some ψ) (k:Ent ψ φ):Has Γ x φ:=⟨ψ,h,k⟩
def Evs (Γ:Ctx) (m:Mem) (a:Act) (o:Oper):Prop:=∀ x∈o.op.operands,∀ ψ,evT Γ x=some ψ->ψ.p m (a.eval x)
theorem FT.eval {n:Nat} {ds:List Deferred} {Γ:Ctx} {m:Mem} {a:Act} (h:FT n ds Γ m a) {x:Operand} {ψ:AK} (e:evT Γ x=some ψ):ψ.p m (a.eval x):=by
 cases x with
 | tmp t=>
  obtain⟨v,h1,h2⟩:=h.get t ψ e
  simp_all [Act.eval]
 | const u=>simp only [evT,a1v]at e;subst e;rfl
 | global g=>simp only [evT,a1v]at e;subst e;rfl
 | func f=>simp only [evT,a1v]at e;subst e;rfl
theorem FT.evs {n:Nat} {ds:List Deferred} {Γ:Ctx} {m:Mem} {a:Act} (h:FT n ds Γ m a) (o:Oper):Evs Γ m a o:=fun _ _ _ e=>h.eval e
theorem Evs.get {Γ:Ctx} {m:Mem} {a:Act} {o:Oper} (h:Evs Γ m a o) {x:Operand} {φ:AK} (k:Has Γ x φ) (hx:x∈o.op.operands):φ.p m (a.eval x):=
 let ⟨ψ,h1,h2⟩:=k;h2 m _ (h x hx ψ h1)
theorem FT.has {n:Nat} {ds:List Deferred} {Γ:Ctx} {m:Mem} {a:Act} (h:FT n ds Γ m a) {x:Operand} {φ:AK} (k:Has Γ x φ):φ.p m (a.eval x):=
 let ⟨_,h1,h2⟩:=k;h2 m _ (h.eval h1)
theorem sK {s t:Nat} {φ ψ:AK} {Γ:Ctx} (h:lk ((s,φ) :: Γ) t=some ψ):(s=t/\φ=ψ)\/(s≠t/\lk Γ t=some ψ):=by
 simp only [lk]at h
 cases hb:Nat.beq s t with
 | true=>simp_all
 | false=>rw [hb]at h;exact .inr ⟨fun e=>by subst e;simp at hb,h⟩
theorem FT.put {n:Nat} {ds:List Deferred} {Γ:Ctx} {m:Mem} {a:Act} (h:FT n ds Γ m a) {d:Nat} (hd:d<n) {v:Value} {φ:AK} (hv:φ.p m v):FT n ds ((d,φ) :: Γ) m (a.put (some d) v):=by
 refine⟨by simp [Act.put,h.size],by simp [Act.put,h.Ae],fun t ψ hu=>?_⟩
 rcases sK hu with⟨rfl,rfl⟩ | ⟨hne,hu⟩
 ·exact⟨v,by simp [Act.put,h.size,hd],hv⟩
 ·obtain⟨u,h1,h2⟩:=h.get t ψ hu
  grind [Act.put]
def gX (Γ:Ctx) (t:Nat) (φ:AK):Prop:=∃ ψ,lk Γ t=some ψ/\Ent ψ φ
theorem bO {Γ:Ctx} {t:Nat} {φ:AK} (h:lk Γ t=some φ):gX Γ t φ:=⟨φ,h, .rfl⟩
theorem fF {Γ:Ctx} {t:Nat} {ψ φ:AK} (h:lk Γ t=some ψ) (k:Ent ψ φ):gX Γ t φ:=⟨ψ,h,k⟩
def fM (Γ' Γ:Ctx):Prop:=∀ p∈Γ',gX Γ p.1 p.2
theorem fM.nil {Γ:Ctx}:fM [] Γ:=fun _ h=>by cases h
theorem fM.cons {Γ' Γ:Ctx} {t:Nat} {φ:AK} (h:gX Γ t φ) (k:fM Γ' Γ):fM ((t,φ) :: Γ') Γ:=by grind [fM]
theorem lk_mem {Γ:Ctx} {t:Nat} {φ:AK} (h:lk Γ t=some φ):(t,φ)∈Γ:=by
 induction Γ with
 | nil=>cases h
 | cons p r ih=>
  grind [sK]
theorem FT.sub {n:Nat} {ds:List Deferred} {Γ Γ':Ctx} {m:Mem} {a:Act} (h:FT n ds Γ m a) (hs:fM Γ' Γ):FT n ds Γ' m a:=
 ⟨h.size,h.Ae,fun t φ ht=>by
  obtain⟨ψ,h1,h2⟩:=hs _ (lk_mem ht);obtain⟨v,h3,h4⟩:=h.get t ψ h1;exact⟨v,h3,h2 m v h4⟩⟩
def T (β:bL) (n:Nat) (ds:List Deferred) (Γ:Ctx) (Δ:List Tk) (F:Act->World->Prop):Prop:=
 ∀ m L a w,FT n ds Γ m a->cD Δ m L->St β m L w->F a w
section
variable {β:bL} {n:Nat} {ds:List Deferred} {Γ:Ctx} {Δ:List Tk} {F G:Act->World->Prop}
theorem T.mono (h:T β n ds Γ Δ F) (hf:∀ a w,F a w->G a w):T β n ds Γ Δ G:=by grind [T]
theorem T_sub (Γ':Ctx) (hs:fM Γ' Γ) (h:T β n ds Γ' Δ F):T β n ds Γ Δ F:=by grind [FT.sub,T]
theorem mA (t:Nat) {ψ φ:AK} (hl:lk Γ t=some ψ) (he:Ent ψ φ) (h:T β n ds ((t,φ) :: Γ) Δ F):T β n ds Γ Δ F:=fun m L a w x y z=>h m L a w
 ⟨x.size,x.Ae,fun s χ hs=>by
  rcases sK hs with⟨rfl,rfl⟩ | ⟨_,hs⟩
  ·obtain⟨v,h1,h2⟩:=x.get _ _ hl;exact⟨v,h1,he m v h2⟩
  ·exact x.get s χ hs⟩ y z
theorem cD.perm {m:Mem} {Δ Δ':List Tk} (hp:Δ.Perm Δ'):∀ {L:Ak},cD Δ m L->∃ L',L.Perm L'/\cD Δ' m L':=by
 induction hp with
 | nil=>grind [List.Perm.refl]
 | cons x _ ih=>
  intro L ⟨H,R,e,h1,h2⟩
  obtain⟨R',hp,h3⟩:=ih h2;exact⟨H++R',by rw [e];exact hp.append_left H,H,R',rfl,h1,h3⟩
 | swap x y l=>
  intro L ⟨H,R,e,h1,H2,R2,e2,h2,h3⟩
  refine⟨H2++(H++R2),?_,H2,_,rfl,h2,H,R2,rfl,h1,h3⟩
  grind [List.Perm.append_right,List.perm_append_comm]
 | trans _ _ ih1 ih2=>
  intro L h;obtain⟨L1,p1,h1⟩:=ih1 h;obtain⟨L2,p2,h2⟩:=ih2 h1;exact⟨L2,p1.trans p2,h2⟩
theorem nB {Δ':List Tk} (hp:Δ.Perm Δ') (h:T β n ds Γ Δ' F):T β n ds Γ Δ F:=fun m L a w x y z=>by
 obtain⟨L',p,y'⟩:=y.perm hp
 exact h m L' a w x y' (z.perm p)
def wP (Δ:List Tk) (ks:List Nat):List Tk:=ks.filterMap (Δ[·]?)
theorem cD.heaps {m:Mem}:∀ {Δ:List Tk} {L:Ak},cD Δ m L->∃ Hs:List Ak,Hs.length=Δ.length/\L=Hs.flatten/\∀ (i:Nat) (τ:Tk) (H:Ak),Δ[i]? =some τ->Hs[i]? =some H->τ.p m H
 | [],_,h=>⟨[],rfl,by rw [h];rfl,fun i τ H h=>by simp at h⟩
 | τ :: Δ,_,⟨H,R,e,h1,h2⟩=>by
  obtain⟨Hs,hl,hf,hg⟩:=cD.heaps h2;refine⟨H :: Hs,by simp [hl],by rw [e,hf];rfl,fun i τ' H' h3 h4=>?_⟩
  grind
theorem picks {m:Mem} {Δ:List Tk} {Hs:List Ak} (hl:Hs.length=Δ.length) (hg:∀ (i:Nat) (τ:Tk) (H:Ak),Δ[i]? =some τ->Hs[i]? =some H->τ.p m H):∀ ks:List Nat,cD (wP Δ ks) m (ks.filterMap (Hs[·]?)).flatten
 | []=>rfl
 | k :: ks=>by
  have ih:=picks hl hg ks;unfold wP at ih ⊢
  rw [List.filterMap_cons,List.filterMap_cons];cases h1:Δ[k]? with
  | none=>
   grind
  | some τ=>
   have hlt:=(a0z.1 h1).1;obtain⟨H,hH⟩:∃ H,Hs[k]? =some H:=by simp_all
   rw [hH];exact⟨H,_,rfl,hg k τ H h1 hH,ih⟩
theorem aHh {α:Type} {Hs:List (List α)} {ks:List Nat} {x:α} (h:x∈(ks.filterMap (Hs[·]?)).flatten):x∈Hs.flatten:=by
 grind [List.mem_flatten]
theorem aFp:∀ {Hs:List Ak} {ks:List Nat},ks.Nodup->(Hs.flatten.map Prod.fst).Nodup->((ks.filterMap (Hs[·]?)).flatten.map Prod.fst).Nodup:=by
 intro Hs ks hk hn
 have hp:Hs.Pairwise fun A B=>∀ x∈A,∀ y∈B,x.1≠y.1:=by
  grind
 have hi:∀ H∈Hs,(H.map Prod.fst).Nodup:=by grind
 have hp2:∀ (i j:Nat) (A B:Ak),i≠j->Hs[i]? =some A->Hs[j]? =some B->∀ x∈A,∀ y∈B,x.1≠y.1:=fun i j A B hne hA hB x hx y hy=>by
  obtain⟨hi,rfl⟩:=a0z.1 hA;obtain⟨hj,rfl⟩:=a0z.1 hB
  grind [_root_.List.pairwise_iff_getElem]
 induction ks with
 | nil=>simp
 | cons k ks ih=>
  rw [a0Z]at hk;have ih:=ih hk.2;rw [List.filterMap_cons];cases h1:Hs[k]? with
  | none=>exact ih
  | some A=>
   simp only [List.flatten_cons,a0L,a0Y];refine⟨hi A (a0V h1),ih,fun a ha b hb=>?_⟩
   obtain⟨x,hx,rfl⟩:=a0T.1 ha;obtain⟨y,hy,rfl⟩:=a0T.1 hb;obtain⟨B,hB,hyB⟩:=List.mem_flatten.1 hy
   grind
theorem aE (ks:List Nat) (hk:ks.Nodup) (h:T β n ds Γ (wP Δ ks) F):T β n ds Γ Δ F:=fun m L a w x y z=>by
 obtain⟨Hs,hl,rfl,hg⟩:=y.heaps
 exact h m _ a w x (picks hl hg ks) (z.of_mem (fun x hx=>aHh hx) (aFp hk z.nodup))
def AtT (β:bL) (n:Nat) (ds:List Deferred) (Γ:Ctx) (Δ:List Tk) (a:Act) (w:World):Prop:=∃ m L,FT n ds Γ m a/\cD Δ m L/\St β m L w
theorem aGM (h:T β n ds Γ Δ F):∀ a w,AtT β n ds Γ Δ a w->F a w:=fun a w ⟨m,L,x,y,z⟩=>h m L a w x y z
end
section
variable {P:Program} {β:bL} {n:Nat} {ds:List Deferred} {Γ:Ctx} {Δ:List Tk} {r:Option Nat} {Q Q':Exit->Act->World->Prop} {N:Act->World->Prop}
theorem aG {x y:Code} (h:T β n ds Γ Δ (x.wpIn (fw r) 0 P (Exit.then (y.wpIn (fw r) 0 P Q) Q))):T β n ds Γ Δ ((Code.seq x y).wpIn (fw r) 0 P Q):=h.mono fun _ _=>wpIn_seq
theorem T_skip (h:T β n ds Γ Δ (Q .normal)):T β n ds Γ Δ (Code.skip.wpIn (fw r) 0 P Q):=h.mono fun _ _=>wpIn_skip
theorem T_exit {id:Nat} (h:T β n ds Γ Δ (Q (.exit id))):T β n ds Γ Δ ((Code.exit id).wpIn (fw r) 0 P Q):=h.mono fun _ _=>wpIn_exit
theorem T_retc (h:T β n ds Γ Δ (Q .ret)):T β n ds Γ Δ (Code.ret.wpIn (fw r) 0 P Q):=h.mono fun _ _=>wpIn_ret
theorem T_block {id:Nat} {c:Code} (h:T β n ds Γ Δ (c.wpIn (fw r) 0 P (Exit.inBlock id Q))):T β n ds Γ Δ ((Code.block id c).wpIn (fw r) 0 P Q):=h.mono fun _ _=>wpIn_block
theorem T_cond_t {c:Operand} {x y:Code} {t:Bool} (hc:Has Γ c (aH t)) (ht:t=true) (h:T β n ds Γ Δ (x.wpIn (fw r) 0 P Q)):
 T β n ds Γ Δ ((Code.cond c x y).wpIn (fw r) 0 P Q):=fun m L a w hF hL hS=>wpIn_cond_true (by rw [<- ht];exact hF.has hc) (h m L a w hF hL hS)
theorem T_cond_f {c:Operand} {x y:Code} {t:Bool} (hc:Has Γ c (aH t)) (ht:t=false) (h:T β n ds Γ Δ (y.wpIn (fw r) 0 P Q)):
 T β n ds Γ Δ ((Code.cond c x y).wpIn (fw r) 0 P Q):=fun m L a w hF hL hS=>wpIn_cond_false (by rw [<- ht];exact hF.has hc) (h m L a w hF hL hS)
theorem aFv {id:Nat} {l:List Oper} (h:T β n ds Γ Δ (wpListIn (fw r) 0 P l.toArray Q l)):T β n ds Γ Δ ((Code.region id l.toArray false).wpIn (fw r) 0 P Q):=h.mono fun _ _=>wpIn_region_lit
theorem T_nil {ops:Array Oper} (h:T β n ds Γ Δ (Q .normal)):T β n ds Γ Δ (wpListIn (fw r) 0 P ops Q []):=h
theorem aGi (h:T β n ds Γ Δ N):T β n ds Γ Δ (Exit.then N Q .normal):=h
theorem aKB {id:Nat} (h:T β n ds Γ Δ (Q (.exit id))):T β n ds Γ Δ (Exit.then N Q (.exit id)):=h
theorem aFA (h:T β n ds Γ Δ (Q .ret)):T β n ds Γ Δ (Exit.then N Q .ret):=h
theorem aLM {c:List PanicEntry} (h:T β n ds Γ Δ (Q (.panic c))):T β n ds Γ Δ (Exit.then N Q (.panic c)):=h
theorem T_in_n {id:Nat} (h:T β n ds Γ Δ (Q .normal)):T β n ds Γ Δ (Exit.inBlock id Q .normal):=h
theorem T_in_ret {id:Nat} (h:T β n ds Γ Δ (Q .ret)):T β n ds Γ Δ (Exit.inBlock id Q .ret):=h
theorem aKx {id:Nat} {c:List PanicEntry} (h:T β n ds Γ Δ (Q (.panic c))):T β n ds Γ Δ (Exit.inBlock id Q (.panic c)):=h
theorem T_in_hit {id:Nat} (h:T β n ds Γ Δ (Q .normal)):T β n ds Γ Δ (Exit.inBlock id Q (.exit id)):=by
 refine h.mono fun a w q=>?_;simp only [Exit.inBlock,if_true];exact q
theorem aO {ι:Type} {x y:Code} (ok:ι->Prop) (Γf:ι->Ctx) (Δf:ι->List Tk) (h:T β n ds Γ Δ (x.wpIn (fw r) 0 P (Exit.then (fun a w=>∃ i,ok i/\AtT β n ds (Γf i) (Δf i) a w) Q)))
 (k:∀ i,ok i->T β n ds (Γf i) (Δf i) (y.wpIn (fw r) 0 P Q)):T β n ds Γ Δ ((Code.seq x y).wpIn (fw r) 0 P Q):=
 aG (h.mono fun a w hx=>Code.wpIn_mono (fun e a w q=>by
  cases e <;> first
   | exact q
   | grind [aGM,Exit.then]) hx)
theorem T_meet {ι:Type} {ok:ι->Prop} {Γf:ι->Ctx} {Δf:ι->List Tk} (i:ι) (h:ok i) (hs:fM (Γf i) Γ) (hd:Δ=Δf i):T β n ds Γ Δ (fun a w=>∃ i,ok i/\AtT β n ds (Γf i) (Δf i) a w):=
 fun m L a w x y z=>⟨i,h,m,L,x.sub hs,hd ▸ y,z⟩
theorem T_loop {ι:Type} {c:Code} (ok:ι->Prop) (μ:ι->Nat) (Γf:ι->Ctx) (Δf:ι->List Tk) (i₀:ι) (h₀:ok i₀) (hs:fM (Γf i₀) Γ) (hd:Δ=Δf i₀)
 (round:∀ i,ok i->T β n ds (Γf i) (Δf i) (c.wpIn (fw r) 0 P (Exit.then (fun a w=>∃ j,(ok j/\μ j<μ i)/\AtT β n ds (Γf j) (Δf j) a w) Q))):
 T β n ds Γ Δ ((Code.loop c).wpIn (fw r) 0 P Q):=by
 intro m L a w hF hL hS
 let J:Act->World->Nat->Prop:=fun a w k=>∃ i,μ i=k/\ok i/\AtT β n ds (Γf i) (Δf i) a w
 let f:Act->World->Nat:=fun a w=>open Classical in if h:∃ k,J a w k then Classical.choose (zA h) else 0
 refine wpIn_loop (fun a w=>∃ k,J a w k) f ⟨_,i₀,rfl,h₀,m,L,hF.sub hs,hd ▸ hL,hS⟩ ?_
 intro a w hex
 have hf:f a w=Classical.choose (zA hex):=by grind
 obtain⟨⟨i,hi,hok,hat⟩,hmin⟩:=Classical.choose_spec (zA hex)
 rw [<- hf]at hi hmin
 refine Code.wpIn_mono ?_ (aGM (round i hok) a w hat)
 intro e a' w' q
 cases e with
 | normal=>
  obtain⟨j,⟨hj,hlt⟩,hat'⟩:=q;have hex':∃ k,J a' w' k:=⟨_,j,rfl,hj,hat'⟩;refine⟨hex',?_⟩;have hf':f a' w'=Classical.choose (zA hex'):=by grind
  have:=(Classical.choose_spec (zA hex')).2 (μ j) ⟨j,rfl,hj,hat'⟩;omega
 | _=>exact q
def cN (ops:Array Oper) (Γ:Ctx) (o:Oper):Prop:=match o.guard with
 | none=>True
 | some (j,want)=>∃ d c,(ops[j]?).bind (·.dst)=some d/\lk Γ d=some (aH c)/\c=want
def Never (ψ:AK) (want:Bool):Prop:=∀ m v,ψ.p m v->SX.asB v≠some want
theorem nb {c want:Bool} (h:c≠want):Never (aH c) want:=fun _ _ e=>by cases e;intro h2;cases h2;exact h rfl
theorem nu {want:Bool}:Never (fEq undef) want:=fun _ _ e=>by cases e;intro h;cases h
def wC (ops:Array Oper) (Γ:Ctx) (o:Oper):Prop:=∃ j want d ψ,o.guard=some (j,want)/\(ops[j]?).bind (·.dst)=some d/\lk Γ d=some ψ/\Never ψ want
theorem FT.yielded {m:Mem} {a:Act} (h:FT n ds Γ m a) {ops:Array Oper} {j d:Nat} {c:Bool} (hd:(ops[j]?).bind (·.dst)=some d) (hl:lk Γ d=some (aH c)):Go.yielded ops a.tmps j=some c:=by
 obtain⟨v,h1,h2⟩:=h.get d _ hl
 have h2:v= .bool c:=h2
 grind [Go.yielded]
theorem cN.wanted {m:Mem} {a:Act} (h:FT n ds Γ m a) {ops:Array Oper} {o:Oper} (hw:cN ops Γ o):Region.wanted o (Go.yielded ops a.tmps)=true:=by
 unfold cN at hw
 unfold Region.wanted
 grind [FT.yielded]
theorem wC.wanted {m:Mem} {a:Act} (h:FT n ds Γ m a) {ops:Array Oper} {o:Oper} (hw:wC ops Γ o):Region.wanted o (Go.yielded ops a.tmps)=false:=by
 obtain⟨j,want,d,ψ,hg,h1,h2,h3⟩:=hw
 obtain⟨v,h4,h5⟩:=h.get d _ h2
 have h6:=h3 m v h5
 have h7:Go.yielded ops a.tmps j=SX.asB v:=by
  simp only [Go.yielded,h1,Option.bind_some,h4];cases v <;> rfl
 grind [Region.wanted]
structure OpT (P:Program) (Γ:Ctx) (Δr:List Tk) (o:Oper) (φ:AK):Prop where
 nd:gN o.op=false
 run:∀ β m L a w,Evs Γ m a o->St β m L w->cD Δr m L->∃ v,(execOp a.eval o).run P w= .ok (.value v) w/\φ.p m v
variable {ops:Array Oper} {o:Oper} {rest:List Oper}
theorem cD.pick {m:Mem} {L:Ak} {w:World} (y:cD Δ m L) (z:St β m L w) (ks:List Nat) (hk:ks.Nodup):∃ L',cD (wP Δ ks) m L'/\St β m L' w:=by
 obtain⟨Hs,hl,rfl,hg⟩:=y.heaps
 exact⟨_,picks hl hg ks,z.of_mem (fun x hx=>aHh hx) (aFp hk z.nodup)⟩
theorem T_op {d:Nat} {φ:AK} (ks:List Nat) (hw:cN ops Γ o) (hk:ks.Nodup) (hd:o.dst=some d) (hn:Nat.ble (d+1) n=true) (h:OpT P Γ (wP Δ ks) o φ)
 (k:T β n ds ((d,φ) :: Γ) Δ (wpListIn (fw r) 0 P ops Q rest)):T β n ds Γ Δ (wpListIn (fw r) 0 P ops Q (o :: rest)):=fun m L a w x y z=>by
 obtain⟨L',y',z'⟩:=y.pick z ks hk
 obtain⟨v,h2,h3⟩:=h.run β m L' a w (x.evs o) z' y'
 have h1:o.semAt (fw r).round a.eval=execOp a.eval o:=Oper.semAt_eq _ _ _ fun c hc=>by have:=h.nd;rw [hc]at this;cases this
 simp only [wpListIn,hw.wanted x,if_true]
 refine⟨fun _ _=>a1F,?_⟩
 rw [h1,h2,Oper.uponIn_value,hd]
 exact k m L _ w (x.put (a1j hn) h3) y z
theorem T_y {d:Nat} {φ:AK} (hw:cN ops Γ o) (hd:o.dst=some d) (hn:Nat.ble (d+1) n=true) (h:OpT P Γ [] o φ)
 (k:T β n ds ((d,φ) :: Γ) Δ (wpListIn (fw r) 0 P ops Q rest)):T β n ds Γ Δ (wpListIn (fw r) 0 P ops Q (o :: rest)):=T_op [] hw .nil hd hn h k
theorem cR (hw:wC ops Γ o) {d:Nat} (hd:o.dst=some d) (hn:Nat.ble (d+1) n=true) (k:T β n ds ((d,fEq undef) :: Γ) Δ (wpListIn (fw r) 0 P ops Q rest)):
 T β n ds Γ Δ (wpListIn (fw r) 0 P ops Q (o :: rest)):=fun m L a w x y z=>by
 simp only [wpListIn,hw.wanted x]
 exact⟨fun _ _=>trivial,by rw [hd];exact k m L _ w (x.put (a1j hn) rfl) y z⟩
end
open Go.SX
def eJ (φ:AK):Prop:=∀ m v,φ.p m v->eH v
theorem aF {v:Value} (h:eH v):eJ (fEq v):=fun _ _ e=>by cases e;exact h
def aX:List AK->Mem->List Value->Prop
 | [],_,cs=>cs=[]
 | φ :: φs,m,cs=>∃ c r,cs=c :: r/\φ.p m c/\aX φs m r
theorem aX.mono {m m':Mem} (h:Mem.le m m'):∀ {φs:List AK} {cs:List Value},aX φs m cs->aX φs m' cs
 | [],_,k=>k
 | φ :: _,_,⟨c,r,e,h1,h2⟩=>⟨c,r,e,φ.mono h h1,aX.mono h h2⟩
theorem aX.length {m:Mem}:∀ {φs:List AK} {cs:List Value},aX φs m cs->cs.length=φs.length
 | [],_,k=>by rw [k];rfl
 | _ :: _,_,⟨c,r,e,_,h2⟩=>by rw [e];simp [aX.length h2]
theorem aX.get {m:Mem}:∀ {φs:List AK} {cs:List Value},aX φs m cs->∀ {i:Nat} {φ:AK},φs[i]? =some φ->∃ c,cs[i]? =some c/\φ.p m c
 | φ :: _,_,⟨c,r,e,h1,h2⟩,0,ψ,h=>by grind
 | _ :: _,_,⟨c,r,e,h1,h2⟩,i+1,ψ,h=>by
  obtain⟨u,h3,h4⟩:=aX.get h2 (i:=i) (by simpa using h)
  grind
theorem aX.append {m:Mem}:∀ {φs ψs:List AK} {cs ds:List Value},aX φs m cs->aX ψs m ds->aX (φs++ψs) m (cs++ds)
 | [],_,_,_,h,k=>by rw [h];exact k
 | _ :: _,_,_,_,⟨c,r,e,h1,h2⟩,k=>⟨c,r++_,by rw [e];rfl,h1,aX.append h2 k⟩
theorem aX.drop {m:Mem}:∀ {φs:List AK} {cs:List Value} (k:Nat),aX φs m cs->aX (φs.drop k) m (cs.drop k)
 | _,_,0,h=>h
 | [],_,k+1,h=>by rw [h];simp;rfl
 | _ :: _,_,k+1,⟨c,r,e,h1,h2⟩=>by rw [e];exact aX.drop k h2
theorem aX.take {m:Mem}:∀ {φs:List AK} {cs:List Value} (k:Nat),aX φs m cs->aX (φs.take k) m (cs.take k)
 | _,_,0,h=>by simp;rfl
 | [],_,k+1,h=>by rw [h];simp;rfl
 | _ :: _,_,k+1,⟨c,r,e,h1,h2⟩=>by rw [e];exact⟨c,_,rfl,h1,aX.take k h2⟩
theorem aX.set {m:Mem}:∀ {φs:List AK} {cs:List Value} {k:Nat} {φ:AK} {v:Value},aX φs m cs->φ.p m v->aX (φs.set k φ) m (cs.set k v)
 | [],_,k,_,_,h,_=>by rw [h];simp;rfl
 | _ :: _,_,0,_,_,⟨c,r,e,h1,h2⟩,hv=>by grind [aX]
 | _ :: _,_,k+1,_,_,⟨c,r,e,h1,h2⟩,hv=>by rw [e];exact⟨c,_,rfl,h1,aX.set h2 hv⟩
theorem aX.cells {m:Mem}:∀ {φs:List AK} {cs:List Value},aX φs m cs->(∀ φ∈φs,eJ φ)->∀ c∈cs,eH c
 | [],_,h,_,c,hc=>by rw [h]at hc;cases hc
 | φ :: _,_,⟨u,r,e,h1,h2⟩,hl,c,hc=>by
  rw [e]at hc;cases hc with
  | head=>exact hl φ (.head _) m _ h1
  | tail _ hc=>exact aX.cells h2 (by grind) c hc
def aK:List AK->List AK->Prop
 | [],φs=>φs=[]
 | ψ :: ψs,φs=>∃ φ r,φs=φ :: r/\Ent ψ φ/\aK ψs r
theorem aK.all {m:Mem}:∀ {ψs φs:List AK} {cs:List Value},aK ψs φs->aX ψs m cs->aX φs m cs
 | [],_,_,h,k=>by rw [h];exact k
 | _ :: _,_,_,⟨φ,r,e,h1,h2⟩,⟨c,s,e2,h3,h4⟩=>by rw [e];exact⟨c,s,e2,h1 m c h3,aK.all h2 h4⟩
theorem aK.rfl:∀ {φs:List AK},aK φs φs
 | []=>by simp [aK]
 | φ :: φs=>⟨φ,φs,by simp, .rfl,aK.rfl⟩
theorem aK.nil:aK [] []:=by simp [aK]
theorem aK.cons {ψ φ:AK} {ψs φs:List AK} (h:Ent ψ φ) (k:aK ψs φs):aK (ψ :: ψs) (φ :: φs):=⟨φ,φs,by simp,h,k⟩
structure Ty (α:Type) where
 sz:Nat
 An:α->List AK
 len:∀ x,(An x).length=sz
 cell:∀ x,∀ φ∈An x,eJ φ
def Ty.at {α:Type} (t:Ty α) (m:Mem) (p:Addr) (x:α):Prop:=∃ cs,aX (t.An x) m cs/\∀ (j:Nat) c,cs[j]? =some c->m.cell (p.add j)=some c
theorem Ty.at_mono {α:Type} {t:Ty α} {m m':Mem} (h:Mem.le m m') {p:Addr} {x:α} (k:t.at m p x):t.at m' p x:=
 let ⟨cs,h1,h2⟩:=k;⟨cs,h1.mono h,(by grind [Mem.cell_mono])⟩
def fSl {α:Type} (t:Ty α) (xs:List α):AK:=⟨fun m v=>∃ q,Sl v xs.length t.sz q/\xs.length<=1000000000/\∀ (i:Nat) x,xs[i]? =some x->t.at m (q i) x,
 (by grind [Ty.at_mono])⟩
def aL {α:Type} (t:Ty α) (x:α):AK:=⟨fun m v=>∃ p,v= .pointer (some p)/\t.at m p x,(by grind [Ty.at_mono])⟩
def eC (φs:List AK):AK:=⟨fun m v=>∃ cs:List Value,v= .agg cs.toArray/\aX φs m cs,(by grind [aX.mono])⟩
def dB (φs:List AK):AK:=⟨fun m v=>∃ cs:List Value,v= .tuple cs.toArray/\aX φs m cs,(by grind [aX.mono])⟩
abbrev fSt {α:Type} (t:Ty α) (x:α):AK:=eC (t.An x)
theorem aS {α:Type} {t:Ty α} {xs:List α}:eJ (fSl t xs):=fun _ _ ⟨_,h,_⟩=>h.isCell
theorem aCT {α:Type} {t:Ty α} {x:α}:eJ (aL t x):=fun _ _ ⟨_,h,_⟩=>by rw [h];trivial
theorem cC {α:Type} {t:Ty α}:Ent (fEq (.slice none 0 0)) (fSl t []):=fun _ _ h=>by
 cases h;exact⟨fun _=>default,(by grind [Sl]),by simp,fun i x h=>by simp at h⟩
theorem tT {ψs φs:List AK} (h:aK ψs φs):Ent (eC ψs) (eC φs):=fun m v hv=>by
 obtain⟨cs,h1,h2⟩:=hv
 exact⟨cs,h1,h.all h2⟩
def bS (k:IntKind):Ty Int:=⟨1,fun x=>[bI k x],fun _=>rfl,fun _ φ h=>by simp at h;subst h;exact aF trivial⟩
def aR:Ty Bool:=⟨1,fun x=>[aH x],fun _=>rfl,fun _ φ h=>by simp at h;subst h;exact aF trivial⟩
def aD:Ty ByteArray:=⟨1,fun x=>[gC x],fun _=>rfl,fun _ φ h=>by simp at h;subst h;exact aF trivial⟩
def tSl {α:Type} (t:Ty α):Ty (List α):=⟨1,fun x=>[fSl t x],fun _=>rfl,(by grind [aS])⟩
def fW {α:Type} (t:Ty α):Ty α:=⟨1,fun x=>[aL t x],fun _=>rfl,(by grind [aCT])⟩
def aA (b:Nat) (T:TypeId) (φs:List AK):Tk:=⟨fun m H=>∃ cs,aX φs m cs/\H=[(b, .cells cs.toArray T (0,0))],(by grind [aX.mono])⟩
def aC {α:Type} (v:Value) (e:TypeId) (t:Ty α) (xs:List α):Tk:=⟨fun m H=>∃ cs,gI v t.sz e xs.length cs H/\xs.length<=1000000000/\aX (xs.flatMap t.An) m cs,
 (by grind [aX.mono])⟩
def mR (v:Value) (es i k:Nat):AK:=⟨fun _ u=>∃ b len cap,v= .slice (some ⟨b,0,none⟩) len cap/\u= .pointer (some ⟨b,i*es+k,none⟩),fun _ h=>h⟩
theorem aBI {α:Type} {t:Ty α} {m:Mem}:∀ {xs:List α} {cs:List Value},aX (xs.flatMap t.An) m cs->∀ {i:Nat} {x:α},xs[i]? =some x->aX (t.An x) m ((cs.drop (i*t.sz)).take t.sz)
 | y :: ys,cs,h,0,x,hx=>by
  cases hx;rw [a0u]at h;have:=h.take t.sz
  grind [Ty.len]
 | y :: ys,cs,h,i+1,x,hx=>by
  rw [a0u]at h;have h2:=h.drop t.sz;rw [List.drop_append_of_le_length (by grind [Ty.len]),a0r (by grind [Ty.len]),a0X]at h2;have:=aBI h2 (i:=i) (x:=x) (by simpa using hx)
  grind [List.drop_drop]
theorem lC {α:Type} {t:Ty α}:∀ {xs:List α},(xs.flatMap t.An).length=xs.length*t.sz
 | []=>by simp
 | y :: ys=>by rw [a0u,a0F,t.len,lC (xs:=ys),a0G,a1g];omega
theorem aJH {α:Type} {t:Ty α} {xs:List α}:∀ φ∈xs.flatMap t.An,eJ φ:=by grind [Ty.cell]
def idx {α:Type} (xs:List α) (i:Int):Option α:=if 0<=i then xs[i.toNat]? else none
def chk (i:Int):Option Int:=if -9223372036854775808<=i/\i<=9223372036854775807 then some i else none
theorem aHx {i z:Int} (h:chk i=some z):z=i/\IntKind.i64.wrap i=i:=by
 unfold chk at h
 grind [wrap64_id]
theorem kL {α:Type} {xs:List α} {i:Int} {x:α} (h:idx xs i=some x):∃ j:Nat,i=(j:Int)/\xs[j]? =some x/\j<xs.length:=by
 unfold idx at h
 grind
section
variable {P:Program} {Γ:Ctx} {o:Oper}
theorem eI {φ:AK} (nd:gN o.op=false) (h:∀ β m a w,Evs Γ m a o->St β m [] w->∃ v,(execOp a.eval o).run P w= .ok (.value v) w/\φ.p m v):OpT P Γ [] o φ:=
 ⟨nd,fun β m L a w he hS hL=>by have:L=[]:=hL;subst this;exact h β m a w he hS⟩
theorem o_val {x:Operand} {φ:AK} (ho:o.op= .move x\/o.op= .assign x) (hx:Has Γ x φ):OpT P Γ [] o φ:=
 eI (by rcases ho with ho | ho <;> rw [ho] <;> rfl) fun β m a w he _=>
  ⟨a.eval x,by rcases ho with ho | ho <;> simp [execOp,ho,Sem.run,pure],he.get hx (by grind [Op.operands])⟩
theorem o_move {x:Operand} {φ:AK} (ho:o.op= .move x) (hx:Has Γ x φ):OpT P Γ [] o φ:=o_val (.inl ho) hx
theorem aBK {x:Operand} {φ:AK} (ho:o.op= .assign x) (hx:Has Γ x φ):OpT P Γ [] o φ:=o_val (.inr ho) hx
theorem o_pick_t {c x y:Operand} {b:Bool} {φ:AK} (ho:o.op= .pick c x y) (hc:Has Γ c (aH b)) (hb:b=true) (hx:Has Γ x φ):OpT P Γ [] o φ:=
 eI (by rw [ho];rfl) fun β m a w he _=>by
  have h1:a.eval c= .bool b:=he.get hc (by rw [ho];simp [Op.operands])
  have h2:=he.get hx (by rw [ho];simp [Op.operands])
  subst hb;exact⟨_,by simp [execOp,ho,h1,asBool,a1x,Sem.run,pure],h2⟩
theorem o_pick_f {c x y:Operand} {b:Bool} {φ:AK} (ho:o.op= .pick c x y) (hc:Has Γ c (aH b)) (hb:b=false) (hx:Has Γ y φ):OpT P Γ [] o φ:=
 eI (by rw [ho];rfl) fun β m a w he _=>by
  have h1:a.eval c= .bool b:=he.get hc (by rw [ho];simp [Op.operands])
  have h2:=he.get hx (by rw [ho];simp [Op.operands])
  subst hb;exact⟨_,by simp [execOp,ho,h1,asBool,a1x,Sem.run,pure],h2⟩
theorem o_load {α:Type} {t:Ty α} {y:α} {T:TypeId} {x:Operand} {φ:AK} (ho:o.op= .load T x) (hx:Has Γ x (aL t y)) (hT:Scal P T) (hl:t.An y=[φ]):OpT P Γ [] o φ:=
 eI (by rw [ho];rfl) fun β m a w he hS=>by
  obtain⟨p,h1,cs,h2,h3⟩:=he.get hx (by rw [ho];simp [Op.operands])
  rw [hl]at h2;obtain⟨c,r,rfl,h4,_⟩:=h2;have h5:m.cell p=some c:=h3 0 c rfl;exact⟨c,by simp [execOp,ho,h1,a1x,Sem.run,pure,aDE hT (hS.cell h5)],h4⟩
theorem o_loadS {α:Type} {t:Ty α} {y:α} {T:TypeId} {x:Operand} (ho:o.op= .load T x) (hx:Has Γ x (aL t y)) (hT:kO P T t.sz):OpT P Γ [] o (fSt t y):=
 eI (by rw [ho];rfl) fun β m a w he hS=>by
  obtain⟨p,h1,cs,h2,h3⟩:=he.get hx (by rw [ho];simp [Op.operands])
  have hlen:cs.length=t.sz:=by rw [h2.length,t.len]
  exact⟨.agg cs.toArray,by simp [execOp,ho,h1,a1x,Sem.run,pure,aHa cs (by rw [hlen];exact hT) (fun j v hj=>hS.cell (h3 j v hj))],cs,rfl,h2⟩
theorem aCl {β:bL} {m:Mem} {L:Ak} {w:World} {b:Nat} {T':TypeId} {φs:List AK} (hL:cD [aA b T' φs] m L) (hS:St β m L w):∃ cs,aX φs m cs/\∀ (j:Nat) c,cs[j]? =some c->w.cell? ⟨b,j,none⟩=some c:=by
 obtain⟨H,R,rfl,⟨cs,h1,rfl⟩,h2⟩:=hL
 exact⟨cs,h1,fun j c hc=>hS.own_cell (k:=0) (b:=b) (c:=cs.toArray) (T:=T') (fz:=(0,0)) rfl rfl rfl (by simpa using hc)⟩
theorem eU {b k:Nat} {T' T:TypeId} {φs:List AK} {x:Operand} {ψ φ:AK} (ho:o.op= .load T x) (hx:Has Γ x (fEq (.pointer (some ⟨b,k,none⟩)))) (hT:Scal P T) (hl:φs[k]? =some ψ) (he:Ent ψ φ):OpT P Γ [aA b T' φs] o φ:=
 ⟨by rw [ho];rfl,fun β m L a w hev hS hL=>by
  have h1:a.eval x=_:=hev.get hx (by rw [ho];simp [Op.operands])
  obtain⟨cs,h2,h3⟩:=aCl hL hS;obtain⟨c,h4,h5⟩:=h2.get hl;exact⟨c,by simp [execOp,ho,h1,a1x,Sem.run,pure,aDE hT (h3 k c h4)],he m c h5⟩⟩
theorem aAN (b k j:Nat):Addr.add ⟨b,k,none⟩ j=⟨b,k+j,none⟩:=by grind [Addr.add]
theorem o_loadBS {b k sz:Nat} {T' T:TypeId} {φs ψs:List AK} {x:Operand} (ho:o.op= .load T x) (hx:Has Γ x (fEq (.pointer (some ⟨b,k,none⟩)))) (hT:kO P T sz) (hl:(φs.drop k).take sz=ψs) (hz:ψs.length=sz):OpT P Γ [aA b T' φs] o (eC ψs):=
 ⟨by rw [ho];rfl,fun β m L a w hev hS hL=>by
  have h1:a.eval x=_:=hev.get hx (by rw [ho];simp [Op.operands])
  obtain⟨cs,h2,h3⟩:=aCl hL hS;have h4:=(h2.drop k).take sz;rw [hl]at h4;have h5:=h4.length;refine⟨.agg ((cs.drop k).take sz).toArray,?_,_,rfl,h4⟩;have:=aHa (P:=P) (w:=w) (p:=⟨b,k,none⟩) ((cs.drop k).take sz) (T:=T) (by rw [h5,hz];exact hT) (fun j v hj=>by
   grind [aAN])
  simp_all [execOp]⟩
theorem aC7 {α:Type} {t:Ty α} {β:bL} {m:Mem} {L:Ak} {w:World} {v:Value} {e:TypeId} {xs:List α} (hL:cD [aC v e t xs] m L) (hS:St β m L w):
 ∃ cs,aX (xs.flatMap t.An) m cs/\xs.length<=1000000000/\((v= .slice none 0 0/\xs=[])\/∃ b cap,v= .slice (some ⟨b,0,none⟩) xs.length cap/\∀ (j:Nat) c,cs[j]? =some c->w.cell? ⟨b,j,none⟩=some c):=by
 obtain⟨H,R,rfl,⟨cs,⟨h0,h1⟩,hb,h2⟩,h3⟩:=hL
 have:R=[]:=h3
 subst this
 refine⟨cs,h2,hb,?_⟩
 rcases h1 with⟨rfl,h4,rfl⟩ | ⟨b,c,cap,rfl,rfl,h5,h6,h7⟩
 ·grind
 ·refine .inr ⟨b,cap,rfl,fun j u hu=>hS.own_cell (k:=0) (b:=b) (c:=c) (T:=e) (fz:=(0,0)) rfl rfl rfl ?_⟩
  grind
theorem aIU {T es len j:Nat} {w:World} {b cap:Nat} {kd:IntKind} (hT:nP P T es) (hlt:j<len):
 (Instr.indexAt T (.slice (some ⟨b,0,none⟩) len cap) (.int kd (j:Int))).run P w= .ok (.pointer (some ⟨b,j*es,none⟩)) w:=by
 unfold nP wB at hT
 cases hu:P.underlying T with
 | none=>rw [hu]at hT;cases hT
 | some d=>
  rw [hu]at hT;cases d <;> try (simp at hT;done)
  rename_i e;simp only [a1r]at hT;obtain⟨inf,hinf,rfl⟩:=hT;have h1:(0:Int)<=(j:Int)/\(j:Int)<(len:Int):=by omega
  simp [Instr.indexAt,asIntOf,a1x,run_underlying hu,Sem.run,pure,h1,run_sizeOf hinf,aAN,hlt]
theorem jO {α:Type} {t:Ty α} {T e:TypeId} {x ix:Operand} {v:Value} {xs:List α} {kd:IntKind} {i:Int} {y:α} (ho:o.op= .indexAddr T x ix) (hx:Has Γ x (fEq v)) (hi:Has Γ ix (bI kd i)) (hT:nP P T t.sz) (hy:idx xs i=some y):
 OpT P Γ [aC v e t xs] o (mR v t.sz i.toNat 0):=
 ⟨by rw [ho];rfl,fun β m L a w hev hS hL=>by
  have h1:a.eval x=v:=hev.get hx (by rw [ho];simp [Op.operands])
  have h2:a.eval ix=_:=hev.get hi (by rw [ho];simp [Op.operands])
  obtain⟨j,rfl,hj,hlt⟩:=kL hy;obtain⟨cs,_,_,h3⟩:=aC7 hL hS;rcases h3 with⟨_,rfl⟩ | ⟨b,cap,rfl,_⟩
  ·simp at hlt
  ·exact⟨.pointer (some ⟨b,j*t.sz,none⟩),by simp [execOp,ho,h1,h2,aIU hT hlt,a1x,Sem.run,pure],b,_,cap,rfl,by simp⟩⟩
theorem aKh {α:Type} {t:Ty α} {m:Mem} {xs:List α} {cs:List Value} (h:aX (xs.flatMap t.An) m cs) {i k:Nat} {x:α} {φ:AK} (hx:xs[i]? =some x) (hk:(t.An x)[k]? =some φ):∃ c,cs[i*t.sz+k]? =some c/\φ.p m c:=by
 have h1:=aBI h hx
 obtain⟨c,h2,h3⟩:=h1.get hk
 grind
theorem iA {α:Type} {t:Ty α} {T e:TypeId} {x:Operand} {v:Value} {xs:List α} {es i k:Nat} {y:α} {φ:AK} (ho:o.op= .load T x) (hes:es=t.sz) (hx:Has Γ x (mR v es i k)) (hT:Scal P T) (hy:xs[i]? =some y) (hk:(t.An y)[k]? =some φ):
 OpT P Γ [aC v e t xs] o φ:=
 ⟨by rw [ho];rfl,fun β m L a w hev hS hL=>by
  subst hes;obtain⟨b,len,cap,rfl,h1⟩:=hev.get hx (by rw [ho];simp [Op.operands])
  obtain⟨cs,h2,_,h3⟩:=aC7 hL hS;obtain⟨c,h4,h5⟩:=aKh h2 hy hk;rcases h3 with⟨h,_⟩ | ⟨b',cap',h6,h7⟩
  ·cases h
  ·cases h6;exact⟨c,by simp [execOp,ho,h1,a1x,Sem.run,pure,aDE hT (h7 _ c h4)],h5⟩⟩
theorem aFS {x:Operand} {φ:AK} (ho:o.op= .nilCheck x) (hx:Has Γ x φ) (hp:∀ m v,φ.p m v->∃ p,v= .pointer (some p)):OpT P Γ [] o φ:=
 eI (by rw [ho];rfl) fun β m a w he _=>by
  have h1:=he.get hx (by rw [ho];simp [Op.operands])
  obtain⟨p,h2⟩:=hp m _ h1
  simp_all [execOp]
theorem aHl {S f k:Nat} {x:Operand} {p:Addr} {w:World} (hf:sX P S f k) (ho:o.op= .fieldAddr S x f) {a:Act} (hx:a.eval x= .pointer (some p)):(execOp a.eval o).run P w= .ok (.value (.pointer (some (p.add k)))) w:=by
 unfold sX aBx at hf
 cases hu:P.underlying S with
 | none=>rw [hu]at hf;cases hf
 | some d=>
  rw [hu]at hf;cases d <;> try (simp at hf;done)
  rename_i fs;simp only at hf
  cases hg:fs[f]? with
  | none=>rw [hg]at hf;cases hf
  | some fd=>
   rw [hg]at hf;simp only at hf
   cases hi:P.info? fd.type with
   | none=>rw [hi]at hf;cases hf
   | some i=>
    rw [hi]at hf;simp only at hf
    by_cases hz:i.size=0
    ·simp [hz]at hf
    ·simp only [hz,if_false,a1v]at hf;subst hf;simp [execOp,ho,hx,Instr.fieldAt,Instr.sureAddr,fieldPlace,a1x,run_underlying hu,hg,run_sizeOf hi,hz,Sem.run,pure]
theorem aCu (p:Addr) (i j:Nat):(p.add i).add j=p.add (i+j):=by
 grind [Addr.add]
theorem wS {α γ:Type} {t:Ty α} {t':Ty γ} {y:α} {z:γ} {S f k:Nat} {x:Operand} (ho:o.op= .fieldAddr S x f) (hx:Has Γ x (aL t y)) (hf:sX P S f k) (hs:((t.An y).drop k).take t'.sz=t'.An z):OpT P Γ [] o (aL t' z):=
 eI (by rw [ho];rfl) fun β m a w he _=>by
  obtain⟨p,h1,cs,h2,h3⟩:=he.get hx (by rw [ho];simp [Op.operands])
  have h4:=(h2.drop k).take t'.sz;rw [hs]at h4;refine⟨_,aHl hf ho h1,_,rfl,_,h4,fun j c hc=>?_⟩
  grind [aCu]
theorem o_fieldB {b j S f k:Nat} {x:Operand} (i:Nat) (ho:o.op= .fieldAddr S x f) (hx:Has Γ x (fEq (.pointer (some ⟨b,j,none⟩)))) (hf:sX P S f k) (hi:j+k=i):OpT P Γ [] o (fEq (.pointer (some ⟨b,i,none⟩))):=
 eI (by rw [ho];rfl) fun β m a w he _=>by
  have h1:a.eval x=_:=he.get hx (by rw [ho];simp [Op.operands])
  exact⟨_,aHl hf ho h1,by rw [aAN,hi];rfl⟩
theorem cT {α:Type} {t:Ty α} {T:TypeId} {x ix:Operand} {xs:List α} {kd:IntKind} {i:Int} {y:α} (ho:o.op= .indexAddr T x ix) (hx:Has Γ x (fSl t xs)) (hi:Has Γ ix (bI kd i)) (hT:nP P T t.sz) (hy:idx xs i=some y):OpT P Γ [] o (aL t y):=
 eI (by rw [ho];rfl) fun β m a w he _=>by
  obtain⟨q,⟨b,cap,h1,_,hq⟩,_,h3⟩:=he.get hx (by rw [ho];simp [Op.operands])
  have h2:a.eval ix=_:=he.get hi (by rw [ho];simp [Op.operands])
  obtain⟨j,rfl,hj,hlt⟩:=kL hy;obtain⟨p,rfl,hp⟩:=hq j hlt;refine⟨.pointer (some (q j)),?_,q j,rfl,h3 j y hj⟩;unfold nP wB at hT;cases hu:P.underlying T with
  | none=>rw [hu]at hT;cases hT
  | some d=>
   rw [hu]at hT;cases d <;> try (simp at hT;done)
   rename_i e;simp only [a1r]at hT;obtain⟨inf,hinf,he⟩:=hT;have h5:(0:Int)<=(j:Int)/\(j:Int)<(xs.length:Int):=by omega
   rw [<- hp,<- he];simp [execOp,ho,h1,h2,Instr.indexAt,asIntOf,a1x,run_underlying hu,Sem.run,pure,h5,run_sizeOf hinf,hlt]
theorem o_len {α:Type} {t:Ty α} {T e:TypeId} {x:Operand} {xs:List α} (ho:o.op= .call { callee:= .builtin .len,args:=#[x],argTypes:=#[T] }) (hx:Has Γ x (fSl t xs)) (hT:gM P T (.slice e)):OpT P Γ [] o (bI .i64 xs.length):=
 eI (by rw [ho];rfl) fun β m a w he _=>by
  obtain⟨q,⟨b,cap,h1,_,hq⟩,_,h3⟩:=he.get hx (by rw [ho];simp [Op.operands,Call.operands])
  exact⟨_,by simp [execOp,ho,resolve,invoke,builtin,Builtin.len_,h1,a1x,run_underlying hT,Sem.run,pure,goInt],rfl⟩
theorem o_lenR {α:Type} {t:Ty α} {T e e':TypeId} {x:Operand} {v:Value} {xs:List α} (ho:o.op= .call { callee:= .builtin .len,args:=#[x],argTypes:=#[T] }) (hx:Has Γ x (fEq v)) (hT:gM P T (.slice e)):OpT P Γ [aC v e' t xs] o (bI .i64 xs.length):=
 ⟨by rw [ho];rfl,fun β m L a w hev hS hL=>by
  have h1:a.eval x=v:=hev.get hx (by rw [ho];simp [Op.operands,Call.operands])
  obtain⟨cs,_,_,h3⟩:=aC7 hL hS;rcases h3 with⟨rfl,rfl⟩ | ⟨b,cap,rfl,_⟩
  ·exact⟨_,by simp [execOp,ho,resolve,invoke,builtin,Builtin.len_,h1,a1x,run_underlying hT,Sem.run,pure,goInt],rfl⟩
  ·exact⟨_,by simp [execOp,ho,resolve,invoke,builtin,Builtin.len_,h1,a1x,run_underlying hT,Sem.run,pure,goInt],rfl⟩⟩
theorem uJ {T:TypeId} {x:Operand} {s:ByteArray} (ho:o.op= .call { callee:= .builtin .len,args:=#[x],argTypes:=#[T] }) (hx:Has Γ x (gC s)) (hT:gM P T .string):OpT P Γ [] o (bI .i64 s.size):=
 eI (by rw [ho];rfl) fun β m a w he _=>by
  have h1:a.eval x=_:=he.get hx (by rw [ho];simp [Op.operands,Call.operands])
  exact⟨_,by simp [execOp,ho,resolve,invoke,builtin,Builtin.len_,h1,a1x,run_underlying hT,Sem.run,pure,goInt],rfl⟩
theorem iZ {op:BinOp} {T U:TypeId} {x y:Operand} {u v z:Value} (ho:o.op= .binOp op T x y U) (hx:Has Γ x (fEq u)) (hy:Has Γ y (fEq v)) (hg:∀ w,(eqGuard op T x y u v).run P w= .ok () w)
 (h:∀ w,(binOp op T u v).run P w= .ok z w):OpT P Γ [] o (fEq z):=
 eI (by rw [ho];rfl) fun β m a w he _=>by
  have h1:a.eval x=u:=he.get hx (by rw [ho];simp [Op.operands])
  have h2:a.eval y=v:=he.get hy (by rw [ho];simp [Op.operands])
  refine⟨z,?_,rfl⟩
  simp_all [execOp]
theorem nT {op:BinOp} {T:TypeId} {x y:Operand} {k:IntKind} {i j:Int} (w:World):(eqGuard op T x y (.int k i) (.int k j)).run P w= .ok () w:=by simp_all [eqGuard]
theorem aIk {op:BinOp} {T:TypeId} {x y:Operand} {i j:Bool} (w:World):(eqGuard op T x y (.bool i) (.bool j)).run P w= .ok () w:=by simp_all [eqGuard]
theorem aAX {op:BinOp} {T:TypeId} {x y:Operand} {i j:ByteArray} (w:World):(eqGuard op T x y (.string i) (.string j)).run P w= .ok () w:=by simp_all [eqGuard]
theorem o_add {T U:TypeId} {x y:Operand} {i j z:Int} (ho:o.op= .binOp .add T x y U) (hx:Has Γ x (bI .i64 i)) (hy:Has Γ y (bI .i64 j)) (h:chk (i+j)=some z):OpT P Γ [] o (bI .i64 z):=by
 obtain⟨rfl,hz⟩:=aHx h
 exact iZ ho hx hy nT fun w=>by simp [binOp,Op.intArith,Sem.run,pure,hz]
theorem o_sub {T U:TypeId} {x y:Operand} {i j z:Int} (ho:o.op= .binOp .sub T x y U) (hx:Has Γ x (bI .i64 i)) (hy:Has Γ y (bI .i64 j)) (h:chk (i - j)=some z):OpT P Γ [] o (bI .i64 z):=by
 obtain⟨rfl,hz⟩:=aHx h
 exact iZ ho hx hy nT fun w=>by simp [binOp,Op.intArith,Sem.run,pure,hz]
theorem o_lss {T U:TypeId} {x y:Operand} {k:IntKind} {i j:Int} (ho:o.op= .binOp .lss T x y U) (hx:Has Γ x (bI k i)) (hy:Has Γ y (bI k j)):OpT P Γ [] o (aH (decide (i<j))):=
 iZ ho hx hy nT fun w=>by simp [binOp,Op.intCmp,Sem.run,pure]
theorem o_leq {T U:TypeId} {x y:Operand} {k:IntKind} {i j:Int} (ho:o.op= .binOp .leq T x y U) (hx:Has Γ x (bI k i)) (hy:Has Γ y (bI k j)):OpT P Γ [] o (aH (decide (i<=j))):=
 iZ ho hx hy nT fun w=>by simp [binOp,Op.intCmp,Sem.run,pure]
theorem o_gtr {T U:TypeId} {x y:Operand} {k:IntKind} {i j:Int} (ho:o.op= .binOp .gtr T x y U) (hx:Has Γ x (bI k i)) (hy:Has Γ y (bI k j)):OpT P Γ [] o (aH (decide (j<i))):=
 iZ ho hx hy nT fun w=>by simp [binOp,Op.intCmp,Sem.run,pure]
theorem o_geq {T U:TypeId} {x y:Operand} {k:IntKind} {i j:Int} (ho:o.op= .binOp .geq T x y U) (hx:Has Γ x (bI k i)) (hy:Has Γ y (bI k j)):OpT P Γ [] o (aH (decide (j<=i))):=
 iZ ho hx hy nT fun w=>by simp [binOp,Op.intCmp,Sem.run,pure]
theorem o_eql {T U:TypeId} {x y:Operand} {k:IntKind} {i j:Int} (ho:o.op= .binOp .eql T x y U) (hx:Has Γ x (bI k i)) (hy:Has Γ y (bI k j)):OpT P Γ [] o (aH (decide (i=j))):=
 iZ ho hx hy nT fun w=>by
  have:(i==j)=decide (i=j):=by grind
  simp [binOp,Op.intCmp,Sem.run,pure,this]
theorem o_neq {T U:TypeId} {x y:Operand} {k:IntKind} {i j:Int} (ho:o.op= .binOp .neq T x y U) (hx:Has Γ x (bI k i)) (hy:Has Γ y (bI k j)):OpT P Γ [] o (aH (decide (i≠j))):=
 iZ ho hx hy nT fun w=>by
  have:(i != j)=decide (i≠j):=by grind
  simp [binOp,Op.intCmp,Sem.run,pure,this]
theorem o_not {T:TypeId} {x:Operand} {b:Bool} (ho:o.op= .unOp .not T x) (hx:Has Γ x (aH b)):OpT P Γ [] o (aH (!b)):=
 eI (by rw [ho];rfl) fun β m a w he _=>by
  have h1:a.eval x=_:=he.get hx (by rw [ho];simp [Op.operands])
  exact⟨_,by simp [execOp,ho,h1,Op.unary,a1x,Sem.run,pure],rfl⟩
theorem o_min {ts:Array TypeId} {x y:Operand} {k:IntKind} {i j:Int} (ho:o.op= .call { callee:= .builtin .min,args:=#[x,y],argTypes:=ts }) (hx:Has Γ x (bI k i)) (hy:Has Γ y (bI k j)):OpT P Γ [] o (bI k (min i j)):=
 eI (by rw [ho];rfl) fun β m a w he _=>by
  have h1:a.eval x=_:=he.get hx (by rw [ho];simp [Op.operands,Call.operands])
  have h2:a.eval y=_:=he.get hy (by rw [ho];simp [Op.operands,Call.operands])
  have:(if j<i then j else i)=min i j:=by omega
  exact⟨.int k (min i j),by simp [execOp,ho,resolve,invoke,builtin,Builtin.min_,Builtin.min2,h1,h2,a1x,Sem.run,pure,this],rfl⟩
theorem o_max {ts:Array TypeId} {x y:Operand} {k:IntKind} {i j:Int} (ho:o.op= .call { callee:= .builtin .max,args:=#[x,y],argTypes:=ts }) (hx:Has Γ x (bI k i)) (hy:Has Γ y (bI k j)):OpT P Γ [] o (bI k (max i j)):=
 eI (by rw [ho];rfl) fun β m a w he _=>by
  have h1:a.eval x=_:=he.get hx (by rw [ho];simp [Op.operands,Call.operands])
  have h2:a.eval y=_:=he.get hy (by rw [ho];simp [Op.operands,Call.operands])
  have:(if i<j then j else i)=max i j:=by omega
  exact⟨.int k (max i j),by simp [execOp,ho,resolve,invoke,builtin,Builtin.max_,Builtin.max2,h1,h2,a1x,Sem.run,pure,this],rfl⟩
def gS (Γ:Ctx):List Operand->List Value->Prop
 | [],vs=>vs=[]
 | x :: xs,vs=>∃ v r,vs=v :: r/\Has Γ x (fEq v)/\gS Γ xs r
theorem gS.nil {Γ:Ctx}:gS Γ [] []:=by simp [gS]
theorem gS.cons {Γ:Ctx} {x:Operand} {v:Value} {xs:List Operand} {vs:List Value} (h:Has Γ x (fEq v)) (k:gS Γ xs vs):gS Γ (x :: xs) (v :: vs):=⟨v,vs,by simp,h,k⟩
theorem gS.eval {m:Mem} {a:Act} (he:Evs Γ m a o):∀ {xs:List Operand} {vs:List Value},gS Γ xs vs->(∀ x∈xs,x∈o.op.operands)->xs.map a.eval=vs
 | [],_,h,_=>by rw [h];rfl
 | x :: xs,_,⟨v,r,e,h1,h2⟩,hm=>by
  rw [e,a0N,gS.eval he h2 fun y hy=>hm y (.tail _ hy)];have:a.eval x=v:=he.get h1 (hm x (.head _));rw [this]
theorem aJf {x:Operand} {φs:List AK} {i:Nat} {φ:AK} (ho:o.op= .extract x i) (hx:Has Γ x (dB φs)) (hi:φs[i]? =some φ):OpT P Γ [] o φ:=
 eI (by rw [ho];rfl) fun β m a w he _=>by
  obtain⟨cs,h1,h2⟩:=he.get hx (by rw [ho];simp [Op.operands])
  obtain⟨c,h3,h4⟩:=h2.get hi;exact⟨c,by simp [execOp,ho,h1,Instr.extract,h3,a1x,Sem.run,pure],h4⟩
def aAk (pl:List (Nat × Nat)):List AK->List (Nat × List AK)->Option (List AK)
 | φs,[]=>some φs
 | φs,(i,ψs) :: r=>match pl[i]? with
  | none=>none
  | some (off,size)=>if ψs.length=size/\off+size<=φs.length then aAk pl (φs.take off++ψs++φs.drop (off+size)) r else none
def rT (φ:AK) (ψs:List AK):Prop:=∀ m v,φ.p m v->aX ψs m v.cells.toList
theorem cL {φ:AK} (h:eJ φ):rT φ [φ]:=fun m v hv=>by rw [(h m v hv).cells];exact⟨v,[],rfl,hv,rfl⟩
theorem bM {φs:List AK}:rT (eC φs) φs:=fun m v ⟨cs,h1,h2⟩=>by grind [Value.cells]
def bW (Γ:Ctx):List (Nat × Operand)->List (Nat × List AK)->Prop
 | [],ps=>ps=[]
 | (i,x) :: xs,ps=>∃ φ ψs r,ps=(i,ψs) :: r/\Has Γ x φ/\rT φ ψs/\bW Γ xs r
theorem bW.nil {Γ:Ctx}:bW Γ [] []:=by simp [bW]
theorem bW.cons {Γ:Ctx} {i:Nat} {x:Operand} {φ:AK} {ψs:List AK} {xs:List (Nat × Operand)} {ps:List (Nat × List AK)} (h:Has Γ x φ) (hp:rT φ ψs) (k:bW Γ xs ps):bW Γ ((i,x) :: xs) ((i,ψs) :: ps):=⟨φ,ψs,ps,by simp,h,hp,k⟩
theorem tU {m:Mem} {a:Act} {pl:List (Nat × Nat)}:∀ {xs:List (Nat × Operand)} {ps:List (Nat × List AK)} {φs ψs:List AK} {c:Array Value},bW Γ xs ps->(∀ p∈xs,∀ φ,Has Γ p.2 φ->φ.p m (a.eval p.2))->aX φs m c.toList->aAk pl φs ps=some ψs ->
 ∃ c',Instr.fill (pl.toArray[·]?) c (xs.map fun y=>(y.1,a.eval y.2))=some c'/\aX ψs m c'.toList
 | [],ps,φs,ψs,c,hp,_,hc,hf=>by
  have:ps=[]:=hp
  grind [aAk,Instr.fill]
 | (i,x) :: xs,ps,φs,ψs,c,⟨φ,χs,r,e,h1,h2,h3⟩,he,hc,hf=>by
  subst e;simp only [aAk]at hf;cases hpl:pl[i]? with
  | none=>rw [hpl]at hf;cases hf
  | some os=>
   obtain⟨off,size⟩:=os;rw [hpl]at hf;simp only at hf
   split at hf
   ·rename_i hsz;have h4:=h2 m _ (he (i,x) (.head _) φ h1);have hl4:=h4.length;have hlc:=hc.length;simp only [a0e]at hl4 hlc;have hc':aX (φs.take off++χs++φs.drop (off+size)) m (c.toList.take off++(a.eval x).cells.toList++c.toList.drop (off+size)):=((hc.take off).append h4).append (hc.drop (off+size));obtain⟨c',h5,h6⟩:=tU (c:=(c.toList.take off++(a.eval x).cells.toList++c.toList.drop (off+size)).toArray) h3 (fun p hp=>he p (.tail _ hp)) (by simpa using hc') hf
    refine⟨c',?_,h6⟩;simp only [a0N,Instr.fill];rw [show(pl.toArray)[i]? =some (off,size)from by simpa using hpl];simp only
    have hA:(a.eval x).cells.size=size:=by omega
    rw [a1D (by rw [hA];simp;omega)];rw [<- Array.foldl_toList,Array.toList_zipIdx];have hgo:∀ (l:List Value) (k:Nat) (c:Array Value),off+k+l.length<=c.size->(l.zipIdx k).foldl (fun cs (x:Value × Nat)=>cs.setIfInBounds (off+x.2) x.1) c=(c.toList.take (off+k)++l++c.toList.drop (off+k+l.length)).toArray:=by
     intro l;induction l with
     | nil=>intro k c _;simp
     | cons v l ih=>
      intro k c hk;have hk':off+k<c.size:=by simp at hk;omega
      rw [List.zipIdx_cons,List.foldl_cons,ih (k+1) _ (by simp at hk ⊢;omega)]
      grind [aDg]
    grind
   ·cases hf
theorem gL {T:TypeId} {parts:List (Nat × Operand)} {pl:List (Nat × Nat)} {z:Value} {ps:List (Nat × List AK)} {φs ψs:List AK} (ho:o.op= .build T parts.toArray) (hT:iP P T pl z) (hz:z.cells.toList.map fEq=φs) (hp:bW Γ parts ps) (hf:aAk pl φs ps=some ψs):OpT P Γ [] o (eC ψs):=
 eI (by rw [ho];rfl) fun β m a w he _=>by
  have hz0:∀ (l:List Value),aX (l.map fEq) m l:=fun l=>by
   induction l with
   | nil=>rfl
   | cons v l ih=>exact⟨v,l,rfl,rfl,ih⟩
  obtain⟨c',h5,h6⟩:=tU (c:=z.cells) hp (fun p hp φ hφ=>he.get hφ (by grind [Op.operands])) (hz ▸ hz0 _) hf
  refine⟨.agg c',?_,c'.toList,by simp,h6⟩
  obtain⟨h1,h2⟩:=hT;have hz:=lT (P:=P) h2 w;unfold iD at h1;cases hu:P.underlying T with
  | none=>rw [hu]at h1;cases h1
  | some d=>
   rw [hu]at h1;cases d <;> try (simp at h1;done)
   rename_i fs;simp only at h1
   have h3:(fs.mapM fun f=>do pure (f.offset,<- sizeOf f.type):Sem (Array (Nat × Nat))).run P w= .ok pl.toArray w:=by
    have:=run_places (P:=P) w fs.toList pl h1;rw [Array.mapM_eq_mapM_toList]
    simp_all
   have h4:parts.toArray.map (fun (i,x)=>(i,a.eval x))=(parts.map fun y=>(y.1,a.eval y.2)).toArray:=by simp
   simp only [execOp,ho,Instr.build,a1x,hz,a1w,run_underlying hu,h3,h4,h5];rfl
end
open Go.SX
section
variable {P:Program} {β:bL} {n:Nat} {ds:List Deferred} {Γ:Ctx} {Δ:List Tk} {r:Option Nat} {Q Q':Exit->Act->World->Prop} {F:Act->World->Prop} {ops:Array Oper} {o:Oper} {rest:List Oper}
structure OpN (P:Program) (Γ:Ctx) (o:Oper) (f:Nat->Value) (τ:Nat->Tk):Prop where
 nd:gN o.op=false
 run:∀ β m a w,Evs Γ m a o->St β m [] w->∃ x,(execOp a.eval o).run P w= .ok (.value (f w.heap.size)) (w.alloc x)/\(τ w.heap.size).p m [(w.heap.size,x)]
theorem T_new {d:Nat} {f:Nat->Value} {τ:Nat->Tk} (hw:cN ops Γ o) (hd:o.dst=some d) (hn:Nat.ble (d+1) n=true) (h:OpN P Γ o f τ)
 (k:∀ b,T β n ds ((d,fEq (f b)) :: Γ) (τ b :: Δ) (wpListIn (fw r) 0 P ops Q rest)):T β n ds Γ Δ (wpListIn (fw r) 0 P ops Q (o :: rest)):=fun m L a w x y z=>by
 obtain⟨ob,h2,h3⟩:=h.run β m a w (x.evs o) (z.drop (List.nil_sublist _))
 have h1:o.semAt (fw r).round a.eval=execOp a.eval o:=Oper.semAt_eq _ _ _ fun c hc=>by have:=h.nd;rw [hc]at this;cases this
 simp only [wpListIn,hw.wanted x,if_true]
 refine⟨fun _ _=>a1F,?_⟩
 rw [h1,h2,Oper.uponIn_value,hd]
 exact k w.heap.size m ((w.heap.size,ob) :: L) _ _ (x.put (a1j hn) rfl) ⟨_,_,rfl,h3,y⟩ (z.alloc ob)
theorem bU {T:TypeId} {x:Operand} {φ:AK} {φs:List AK} (ho:o.op= .box T x) (hx:Has Γ x φ) (hp:rT φ φs):OpN P Γ o ptr (fun b=>aA b T φs):=
 ⟨by rw [ho];rfl,fun β m a w he _=>by
  have h1:=hp m _ (he.get hx (by rw [ho];simp [Op.operands]))
  exact⟨.cells (a.eval x).cells T,by simp [execOp,ho,Instr.box,a1x,newVar,newRow,newObj,Sem.run,pure,ptr],_,h1,by simp⟩⟩
theorem jG {m:Mem}:∀ l:List Value,aX (l.map fEq) m l
 | []=>rfl
 | v :: l=>⟨v,l,rfl,rfl,jG l⟩
theorem cB {T:TypeId} {z:Value} {φs:List AK} (ho:o.op= .alloc T) (hz:SX.Zero P T z) (hp:z.cells.toList.map fEq=φs):OpN P Γ o ptr (fun b=>aA b T φs):=
 ⟨by rw [ho];rfl,fun β m a w he _=>⟨.cells z.cells T,by simp [execOp,ho,Instr.alloc,a1x,lT hz,newVar,newRow,newObj,Sem.run,pure,ptr],z.cells.toList,hp ▸ jG _,by simp⟩⟩
def dP:AK:=⟨fun _ _=>True,fun _ h=>h⟩
def oZ (es:Nat):List AK->List (Nat × List AK)->Option (List AK)
 | φs,[]=>some φs
 | φs,(i,ψs) :: r=>if ψs.length=es/\i*es+es<=φs.length then oZ es (φs.take (i*es)++ψs++φs.drop (i*es+es)) r else none
theorem aDz {m:Mem} {a:Act} {es:Nat}:∀ {xs:List (Nat × Operand)} {ps:List (Nat × List AK)} {φs ψs:List AK} {c:Array Value},bW Γ xs ps->(∀ p∈xs,∀ φ,Has Γ p.2 φ->φ.p m (a.eval p.2))->aX φs m c.toList->oZ es φs ps=some ψs ->
 ∃ c',Instr.fill (fun i=>some (i*es,es)) c (xs.map fun y=>(y.1,a.eval y.2))=some c'/\aX ψs m c'.toList
 | [],ps,φs,ψs,c,hp,_,hc,hf=>by
  have:ps=[]:=hp
  grind [oZ,Instr.fill]
 | (i,x) :: xs,ps,φs,ψs,c,⟨φ,χs,r,e,h1,h2,h3⟩,he,hc,hf=>by
  subst e;simp only [oZ]at hf;split at hf
  ·rename_i hsz;have h4:=h2 m _ (he (i,x) (.head _) φ h1);have hl4:=h4.length;have hlc:=hc.length;simp only [a0e]at hl4 hlc;have hA:(a.eval x).cells.size=es:=by omega
   have hc':aX (φs.take (i*es)++χs++φs.drop (i*es+es)) m (c.toList.take (i*es)++(a.eval x).cells.toList++c.toList.drop (i*es+es)):=((hc.take _).append h4).append (hc.drop _);obtain⟨c',h5,h6⟩:=aDz (es:=es) (c:=(c.toList.take (i*es)++(a.eval x).cells.toList++c.toList.drop (i*es+es)).toArray) h3 (fun p hp=>he p (.tail _ hp)) (by simpa using hc') hf
   refine⟨c',?_,h6⟩;simp only [a0N,Instr.fill];rw [a1D (by rw [hA];simp;omega)];rw [<- Array.foldl_toList,Array.toList_zipIdx];have hgo:∀ (l:List Value) (k:Nat) (c:Array Value),i*es+k+l.length<=c.size->(l.zipIdx k).foldl (fun cs (x:Value × Nat)=>cs.setIfInBounds (i*es+x.2) x.1) c=(c.toList.take (i*es+k)++l++c.toList.drop (i*es+k+l.length)).toArray:=by
    intro l;induction l with
    | nil=>intro k c _;simp
    | cons v l ih=>
     intro k c hk;have hk':i*es+k<c.size:=by simp at hk;omega
     rw [List.zipIdx_cons,List.foldl_cons,ih (k+1) _ (by simp at hk ⊢;omega)]
     grind [aDg]
   grind
  ·cases hf
theorem aHF {m:Mem}:∀ l:List Value,aX (List.replicate l.length dP) m l
 | []=>rfl
 | v :: l=>⟨v,l,rfl,trivial,aHF l⟩
theorem aH9 {α:Type} {t:Ty α} {xs:List α} {T e by' len:Nat} {parts:List (Nat × Operand)} {ps:List (Nat × List AK)} (ho:o.op= .buildSlice T len parts.toArray) (hT:ElT P T e t.sz by') (hp:bW Γ parts ps)
 (hf:oZ t.sz (List.replicate (len*t.sz) dP) ps=some (xs.flatMap t.An)) (hn:xs.length=len) (hs:Nat.ble (len*t.sz) 16777216=true) (hB:Nat.ble len 1000000000=true):
 OpN P Γ o (fun b=> .slice (some ⟨b,0,none⟩) len len) (fun b=>aC (.slice (some ⟨b,0,none⟩) len len) e t xs):=
 ⟨by rw [ho];rfl,fun β m a w he _=>by
  obtain⟨ht,i,z,hi,h1,h2,hz,hzs⟩:=hT.spell;have hs:=a1j hs;have hB:=a1j hB;have hmap:(parts.toArray.map fun (i,y)=>(i,a.eval y))=(parts.map fun y=>(y.1,a.eval y.2)).toArray:=by simp
  have hfin:∀ c:Array Value,aX (xs.flatMap t.An) m c.toList->(aC (.slice (some ⟨w.heap.size,0,none⟩) len len) e t xs).p m [(w.heap.size, .cells c e)]:=fun c h6=>by
   have hl:=h6.length;rw [lC,hn]at hl;refine⟨c.toList,(by grind [gI]),by omega,h6⟩
  by_cases h0:len*t.sz=0
  ·obtain⟨c',h5,h6⟩:=aDz (es:=t.sz) (m:=m) (a:=a) (c:=#[]) hp (fun p hp φ hφ=>he.get hφ (by grind [Op.operands])) (by rfl) (h0 ▸ hf)
   refine⟨.cells c' e,?_,hfin c' h6⟩;rw [<- h1]at h0 h5;have h7:¬ len*i.size > 2 ^ 24:=by omega
   have hr:(Instr.buildSlice T len (parts.map fun y=>(y.1,a.eval y.2)).toArray).run P w= .ok (.slice (some ⟨w.heap.size,0,none⟩) len len) (w.alloc (.cells c' e)):=by
    simp only [Instr.buildSlice,a1x,run_underlying ht,run_sizeOf hi,a1w,a1D h7,h0,if_true];have h8:Array.range 0=#[]:=rfl;simp [a1x,Sem.run,pure,h5,newRow,newObj,h8]
   simp_all [execOp]
  ·obtain⟨c',h5,h6⟩:=aDz (es:=t.sz) (m:=m) (a:=a) (c:=(Array.range (len*t.sz)).map (z.cells[· % z.cells.size]!)) hp (fun p hp φ hφ=>he.get hφ (by grind [Op.operands]))
    (by have:=aHF (m:=m) ((Array.range (len*t.sz)).map (z.cells[· % z.cells.size]!)).toList;simpa using this) hf
   refine⟨.cells c' e,?_,hfin c' h6⟩;have hr:=run_buildSlice (P:=P) w T e len (parts.map fun y=>(y.1,a.eval y.2)).toArray c' i z ht hi hz (by rw [h1];omega) (by rw [h1];exact h0) (by rw [h1];exact h5)
   simp_all [execOp]⟩
def mk {α:Type} (z:α) (k:Int):Option (List α):=if 0<=k/\k<=1000000000 then some (List.replicate k.toNat z) else none
theorem aDY {m:Mem} {zs:List Value} {φs:List AK} (h:aX φs m zs):∀ k:Nat,aX (List.replicate k φs).flatten m (madeCells zs.toArray (k*zs.length)).toList
 | 0=>by simp [madeCells];rfl
 | k+1=>by
  have e:(madeCells zs.toArray ((k+1)*zs.length)).toList=(madeCells zs.toArray (k*zs.length)).toList++zs:=by
   apply List.ext_getElem
   ·simp [madeCells,a1g]
   ·intro i h1 h2;by_cases hi:i<k*zs.length
    ·grind [madeCells]
    ·have hlt:i<(k+1)*zs.length:=by simpa [madeCells] using h1
     rw [a1g,Nat.one_mul]at hlt;rw [List.getElem_append_right (by simp [madeCells];omega)];have hmod:i % zs.length=i - k*zs.length:=by
      have h3:i=(i - k*zs.length)+zs.length*k:=by grind
      conv=>lhs;rw [h3]
      rw [Nat.add_mul_mod_self_left,Nat.mod_eq_of_lt (by omega)]
     grind [madeCells]
  rw [e,List.replicate_succ',List.flatten_concat];exact(aDY h k).append h
theorem aC4 {α:Type} {t:Ty α} {z:α}:∀ k:Nat,(List.replicate k z).flatMap t.An=(List.replicate k (t.An z)).flatten
 | 0=>rfl
 | k+1=>by rw [List.replicate_succ,a0u,aC4 k,List.replicate_succ,List.flatten_cons]
theorem kH {α:Type} {t:Ty α} {z:α} {zs:List α} {T e by':Nat} {x:Operand} {kd:IntKind} {k:Int} {zv:Value} (ho:o.op= .makeSlice T x x) (hx:Has Γ x (bI kd k)) (hT:ElT P T e t.sz by') (hb:Nat.ble by' 1000=true) (hz:SX.Zero P e zv) (hzz:zv.cells.toList.map fEq=t.An z) (h:mk z k=some zs):
 OpN P Γ o (fun b=> .slice (some ⟨b,0,none⟩) zs.length zs.length) (fun b=>aC (.slice (some ⟨b,0,none⟩) zs.length zs.length) e t zs):=
 ⟨by rw [ho];rfl,fun β m a w he _=>by
  obtain⟨ht,i,z',hi,h1,h2,hz',hzs⟩:=hT.spell;have hb:=a1j hb;have:z'=zv:=by
   unfold SX.Zero cX at hz
   grind
  subst this;unfold mk at h;split at h
  ·rename_i hk;cases h;obtain⟨j,rfl⟩:∃ j:Nat,k=(j:Int):=⟨k.toNat,by omega⟩
   have hj:j<=1000000000:=by omega
   have hx:a.eval x=_:=he.get hx (by rw [ho];simp [Op.operands])
   have hr:=run_make (P:=P) w T e i z' ht hi hz' kd kd j j (by omega) (by omega) (by
    rw [h2];have:by'*j<=1000*1000000000:=Nat.mul_le_mul hb hj
    omega) (by omega)
   simp only [a0n]at hr ⊢;rw [h1]at hr;refine⟨.cells (madeCells z'.cells (j*t.sz)) e,?_,?_⟩
   ·simp_all [execOp]
   ·have hmade:=aDY (m:=m) (jG z'.cells.toList) j;rw [hzz,<- aC4]at hmade;have hzl:z'.cells.toList.length=t.sz:=by simpa using hzs
    rw [hzl]at hmade;simp only [a0f]at hmade;have hl:=hmade.length;rw [lC]at hl;refine⟨_,(by grind [gI]),by simpa using hj,hmade⟩
  ·cases h⟩
theorem vU {m:Mem} {b:Nat} {T:TypeId} {φs:List AK} {Δ:List Tk} {L:Ak} (h:cD (aA b T φs :: Δ) m L):∃ cs R,L=(b, .cells cs.toArray T (0,0)) :: R/\aX φs m cs/\cD Δ m R:=by
 obtain⟨H,R,rfl,⟨cs,h1,rfl⟩,h2⟩:=h
 grind
theorem bK {ty ty':TypeId} {x y:Operand} {b k:Nat} {φs φs':List AK} {φ:AK} (hw:cN ops Γ o) (ho:o.op= .store ty x y) (hd:o.dst=none) (hx:Has Γ x (fEq (.pointer (some ⟨b,k,none⟩)))) (hy:Has Γ y φ) (hl:eJ φ)
 (hT:hO P ty 1) (hk:Nat.ble (k+1) φs.length=true) (hs:φs.set k φ=φs') (kk:T β n ds Γ (aA b ty' φs' :: Δ) (wpListIn (fw r) 0 P ops Q rest)):T β n ds Γ (aA b ty' φs :: Δ) (wpListIn (fw r) 0 P ops Q (o :: rest)):=fun m L a w hF hL hS=>by
 obtain⟨cs,R,rfl,h1,h2⟩:=vU hL
 have hlt:k<cs.length:=by rw [h1.length];exact a1j hk
 have hv:=hF.has hy
 have hxe:a.eval x=_:=hF.has hx
 have hnd:gN o.op=false:=by rw [ho];rfl
 have h3:o.semAt (fw r).round a.eval=execOp a.eval o:=Oper.semAt_eq _ _ _ fun c hc=>by rw [hc]at hnd;cases hnd
 simp only [wpListIn,hw.wanted hF,if_true]
 refine⟨fun _ _=>a1F,?_⟩
 unfold hO lS at hT
 simp only [a1r]at hT
 obtain⟨i,hi,h4⟩:=hT
 have hk0:((b,Obj.cells cs.toArray ty' (0,0)) :: R)[0]? =some (b, .cells cs.toArray ty' (0,0)):=rfl
 have hrun:=aFo (P:=P) (T:=ty) (p:=⟨b,k,none⟩) (v:=a.eval y) hi h4 (hl m _ hv) (hS.own_cell hk0 rfl rfl (v:=cs[k]) (by simp [hlt])) (hS.unfrozen (p:=⟨b,k,none⟩) hk0)
 have e:(execOp a.eval o).run P w= .ok .skip (w.setCell ⟨b,k,none⟩ (a.eval y)):=by
  simp [execOp,ho,hxe,Instr.storeAt,Instr.sureAddr,a1x,hrun,Sem.run,pure]
 rw [h3,e,Oper.uponIn_skip,hd]
 have hS':=hS.setCell (p:=⟨b,k,none⟩) hk0 rfl (a.eval y)
 refine kk m ((b, .cells (cs.set k (a.eval y)).toArray ty' (0,0)) :: R) _ _ hF ⟨[_],R,rfl,⟨_,hs ▸ h1.set hv,rfl⟩,h2⟩ (by simpa using hS')
theorem cO {ty ty':TypeId} {x y:Operand} {b k sz:Nat} {φs φs' ψs:List AK} (hw:cN ops Γ o) (ho:o.op= .store ty x y) (hd:o.dst=none) (hx:Has Γ x (fEq (.pointer (some ⟨b,k,none⟩)))) (hy:Has Γ y (eC ψs)) (hl:∀ φ∈ψs,eJ φ)
 (hT:hO P ty sz) (hz:ψs.length=sz) (hk:Nat.ble (k+sz) φs.length=true) (hs:φs.take k++ψs++φs.drop (k+sz)=φs') (kk:T β n ds Γ (aA b ty' φs' :: Δ) (wpListIn (fw r) 0 P ops Q rest)):T β n ds Γ (aA b ty' φs :: Δ) (wpListIn (fw r) 0 P ops Q (o :: rest)):=fun m L a w hF hL hS=>by
 obtain⟨cs,R,rfl,h1,h2⟩:=vU hL
 have hle:k+sz<=cs.length:=by rw [h1.length];exact a1j hk
 obtain⟨vs,hv,hvs⟩:=hF.has hy
 have hxe:a.eval x=_:=hF.has hx
 have hnd:gN o.op=false:=by rw [ho];rfl
 have h3:o.semAt (fw r).round a.eval=execOp a.eval o:=Oper.semAt_eq _ _ _ fun c hc=>by rw [hc]at hnd;cases hnd
 simp only [wpListIn,hw.wanted hF,if_true]
 refine⟨fun _ _=>a1F,?_⟩
 unfold hO lS at hT
 simp only [a1r]at hT
 obtain⟨i,hi,h4⟩:=hT
 have hk0:((b,Obj.cells cs.toArray ty' (0,0)) :: R)[0]? =some (b, .cells cs.toArray ty' (0,0)):=rfl
 have hlen:vs.length=sz:=by rw [hvs.length,hz]
 obtain⟨w',hr,hSt⟩:=aAY (P:=P) (T:=ty') vs k cs.toArray _ w hS hk0 (hvs.cells hl) (by simp;omega)
 have hr':(storeCells ⟨b,k,none⟩ vs).run P w= .ok () w':=by
  rw [<- hr];exact congrArg (fun s:Sem Unit=>s.run P w) (shift vs 0 k)
 have e:(execOp a.eval o).run P w= .ok .skip w':=by
  simp [execOp,ho,hxe,hv,Instr.storeAt,Instr.sureAddr,storeVar,run_sizeOf hi,h4,Value.cells,hlen,hr',a1x,Sem.run,pure]
 rw [h3,e,Oper.uponIn_skip,hd]
 refine kk m ((b, .cells (cs.take k++vs++cs.drop (k+sz)).toArray ty' (0,0)) :: R) _ _ hF ⟨[_],R,rfl,⟨_,hs ▸ ((h1.take k).append hvs).append (h1.drop (k+sz)),rfl⟩,h2⟩ (by simpa [hlen] using hSt)
where
 shift {b:Nat}:∀ (vs:List Value) (i k:Nat),storeCells ⟨b,k,none⟩ vs i=storeCells ⟨b,0,none⟩ vs (k+i)
  | [],_,_=>rfl
  | v :: vs,i,k=>by simp only [storeCells,aAN,a1n,shift vs (i+1) k,Nat.add_assoc]
theorem vR {α:Type} {t:Ty α} {m:Mem} {v:Value} {e:TypeId} {xs:List α} {Δ:List Tk} {L:Ak} (h:cD (aC v e t xs :: Δ) m L):∃ cs H R,L=H++R/\gI v t.sz e xs.length cs H/\xs.length<=1000000000/\aX (xs.flatMap t.An) m cs/\cD Δ m R:=by
 obtain⟨H,R,rfl,⟨cs,h1,h2,h3⟩,h4⟩:=h
 grind
theorem take_add {γ:Type} {A B:List γ} {s k:Nat} (h:A.length=s):(A++B).take (s+k)=A++B.take k:=by
 grind
theorem aHQ {γ:Type} {A B:List γ} {s k:Nat} (h:A.length=s):(A++B).drop (s+k)=B.drop k:=by
 simp_all [List.drop_append]
theorem aCd {α:Type} {t:Ty α} {y:α}:∀ {xs:List α} {i:Nat},i<xs.length->(xs.set i y).flatMap t.An=(xs.flatMap t.An).take (i*t.sz)++t.An y++(xs.flatMap t.An).drop (i*t.sz+t.sz)
 | x :: xs,0,_=>by
  simp only [List.set_cons_zero,a0u,Nat.zero_mul,a1n,List.take_zero,a0X]
  grind [Ty.len]
 | x :: xs,i+1,h=>by
  simp only [List.set_cons_succ,a0u];rw [aCd (xs:=xs) (by simpa using h)];have e1:(i+1)*t.sz=t.sz+i*t.sz:=by rw [a1g];omega
  rw [e1,take_add (t.len x),Nat.add_assoc,aHQ (t.len x)];simp
theorem uK {α:Type} {t:Ty α} {m:Mem} {R:Ak} {w:World} {v:Value} {e:TypeId} {xs:List α} {cs vs:List Value} {H:Ak} {b len cap off:Nat} (hS:St β m (H++R) w) (hR:gI v t.sz e xs.length cs H) (hv:v= .slice (some ⟨b,0,none⟩) len cap)
 (hoff:off+vs.length<=cs.length) (hc:∀ u∈vs,eH u):
 ∃ w' H',(storeCells ⟨b,off,none⟩ vs 0).run P w= .ok () w'/\St β m (H'++R) w'/\gI v t.sz e xs.length (cs.take off++vs++cs.drop (off+vs.length)) H':=by
 obtain⟨h0,h1⟩:=hR
 rcases h1 with⟨rfl,_,_⟩ | ⟨b',c,cap',rfl,rfl,h5,h6,h7⟩
 ·cases hv
 ·cases hv;have hk0:([(b,Obj.cells c e (0,0))]++R)[0]? =some (b, .cells c e (0,0)):=rfl;have hcs:cs.length<=c.size:=by grind
  obtain⟨w',hr,hSt⟩:=aAY (P:=P) (T:=e) vs off c _ w hS hk0 hc (by omega)
  refine⟨w',[(b, .cells (c.toList.take off++vs++c.toList.drop (off+vs.length)).toArray e (0,0))],?_,by simpa using hSt,?_⟩
  ·rw [<- hr];exact congrArg (fun s:Sem Unit=>s.run P w) (cO.shift vs 0 off)
  ·have hl:(cs.take off++vs++cs.drop (off+vs.length)).length=cs.length:=by simp;omega
   refine⟨by rw [hl,h0], .inr ⟨b,_,cap,rfl,rfl,by simp;omega,h6,?_⟩⟩
   rw [hl];simp only [List.toList_toArray];rw [List.take_append,a1e (l:=c.toList.take off++vs) (by simp;omega)];have e1:c.toList.take off=cs.take off:=by grind
   rw [e1];congr 1
   have e2:(cs.take off++vs).length=off+vs.length:=by simp;omega
   grind [List.drop_take]
theorem aFr {α:Type} {t:Ty α} {m:Mem} {xs:List α} {cs:List Value} {i k:Nat} {z z':α} {φ:AK} {v:Value} (h2:aX (xs.flatMap t.An) m cs) (hz:xs[i]? =some z) (hlt:i<xs.length) (hmul:i*t.sz+t.sz<=xs.length*t.sz) (hcl:cs.length=xs.length*t.sz) (hk:k+1<=t.sz) (hye:φ.p m v)
 (hs:(t.An z).set k φ=t.An z'):aX ((xs.set i z').flatMap t.An) m (cs.take (i*t.sz+k)++[v]++cs.drop (i*t.sz+k+[v].length)):=by
 rw [aCd hlt,<- hs]
 have hz2:=aBI h2 hz
 have h7:=((h2.take (i*t.sz)).append (hz2.set (k:=k) hye)).append (h2.drop (i*t.sz+t.sz))
 have e3:cs.take (i*t.sz)++((cs.drop (i*t.sz)).take t.sz).set k (v)++cs.drop (i*t.sz+t.sz)=cs.take (i*t.sz+k)++[v]++cs.drop (i*t.sz+k+[v].length):=by
  apply a0t
  intro j;simp only [List.getElem?_append,a0F,List.length_take,a0K,List.length_drop,a0D,List.getElem?_drop,a0B,a0G,a0J,List.getElem?_cons,List.getElem?_nil]
  grind
 rw [<- e3];exact h7
theorem wO {α:Type} {t:Ty α} {ty e:TypeId} {x y:Operand} {v:Value} {xs:List α} {es i k:Nat} {z z':α} {φ:AK} (hw:cN ops Γ o) (ho:o.op= .store ty x y) (hd:o.dst=none) (hes:es=t.sz) (hx:Has Γ x (mR v es i k)) (hy:Has Γ y φ) (hl:eJ φ)
 (hT:hO P ty 1) (hz:xs[i]? =some z) (hk:Nat.ble (k+1) t.sz=true) (hs:(t.An z).set k φ=t.An z') (kk:T β n ds Γ (aC v e t (xs.set i z') :: Δ) (wpListIn (fw r) 0 P ops Q rest)):T β n ds Γ (aC v e t xs :: Δ) (wpListIn (fw r) 0 P ops Q (o :: rest)):=fun m L a w hF hL hS=>by
 subst hes
 obtain⟨cs,H,R,rfl,h1,hB,h2,h4⟩:=vR hL
 obtain⟨b,len,cap,hv,hxe⟩:=hF.has hx
 have hye:=hF.has hy
 have hk:=a1j hk
 have hlt:=(a0z.1 hz).1
 have hcl:cs.length=xs.length*t.sz:=by rw [h2.length,lC]
 have hmul:(i+1)*t.sz<=xs.length*t.sz:=a1m _ hlt
 rw [a1g,Nat.one_mul]at hmul
 obtain⟨w',H',hr,hS',hR'⟩:=uK (P:=P) (vs:=[a.eval y]) (off:=i*t.sz+k) hS h1 hv (by simp;omega) (fun u hu=>by simp at hu;subst hu;exact hl m _ hye)
 have hnd:gN o.op=false:=by rw [ho];rfl
 have h3:o.semAt (fw r).round a.eval=execOp a.eval o:=by grind [Oper.semAt_eq]
 simp only [wpListIn,hw.wanted hF,if_true]
 refine⟨fun _ _=>a1F,?_⟩
 unfold hO lS at hT
 simp only [a1r]at hT
 obtain⟨inf,hi,h6⟩:=hT
 have e:(execOp a.eval o).run P w= .ok .skip w':=by
  simp [execOp,ho,hxe,Instr.storeAt,Instr.sureAddr,storeVar,run_sizeOf hi,h6,(hl m _ hye).cells,hr,a1x,Sem.run,pure]
 rw [h3,e,Oper.uponIn_skip,hd]
 refine kk m _ _ _ hF ⟨H',R,rfl,⟨_,by rw [a0K];exact hR',by grind,?_⟩,h4⟩ hS'
 grind [aFr]
theorem aGY {α:Type} {t:Ty α} {ty e:TypeId} {x y:Operand} {v:Value} {xs:List α} {es i:Nat} {z:α} (hw:cN ops Γ o) (ho:o.op= .store ty x y) (hd:o.dst=none) (hes:es=t.sz) (hx:Has Γ x (mR v es i 0)) (hy:Has Γ y (fSt t z))
 (hT:hO P ty t.sz) (hlt:i<xs.length) (kk:T β n ds Γ (aC v e t (xs.set i z) :: Δ) (wpListIn (fw r) 0 P ops Q rest)):T β n ds Γ (aC v e t xs :: Δ) (wpListIn (fw r) 0 P ops Q (o :: rest)):=fun m L a w hF hL hS=>by
 subst hes
 obtain⟨cs,H,R,rfl,h1,hB,h2,h4⟩:=vR hL
 obtain⟨b,len,cap,hv,hxe⟩:=hF.has hx
 obtain⟨vs,hye,hvs⟩:=hF.has hy
 have hvl:vs.length=t.sz:=by rw [hvs.length,t.len]
 have hcl:cs.length=xs.length*t.sz:=by rw [h2.length,lC]
 have hmul:(i+1)*t.sz<=xs.length*t.sz:=a1m _ hlt
 rw [a1g,Nat.one_mul]at hmul
 obtain⟨w',H',hr,hS',hR'⟩:=uK (P:=P) (vs:=vs) (off:=i*t.sz+0) hS h1 hv (by omega) (hvs.cells (t.cell z))
 have hnd:gN o.op=false:=by rw [ho];rfl
 have h3:o.semAt (fw r).round a.eval=execOp a.eval o:=by grind [Oper.semAt_eq]
 simp only [wpListIn,hw.wanted hF,if_true]
 refine⟨fun _ _=>a1F,?_⟩
 unfold hO lS at hT
 simp only [a1r]at hT
 obtain⟨inf,hi,h6⟩:=hT
 rw [Nat.add_zero]at hxe hr hR'
 have e:(execOp a.eval o).run P w= .ok .skip w':=by
  simp [execOp,ho,hxe,hye,Instr.storeAt,Instr.sureAddr,storeVar,run_sizeOf hi,h6,Value.cells,hvl,hr,a1x,Sem.run,pure]
 rw [h3,e,Oper.uponIn_skip,hd]
 refine kk m _ _ _ hF ⟨H',R,rfl,⟨_,by rw [a0K];exact hR',by grind,?_⟩,h4⟩ hS'
 rw [aCd hlt,hvl]
 exact((h2.take _).append hvs).append (h2.drop _)
end
open Go.SX
section
variable {P:Program} {β:bL} {n:Nat} {ds:List Deferred} {Γ:Ctx} {Δ:List Tk} {r:Option Nat} {Q Q':Exit->Act->World->Prop} {F:Act->World->Prop} {ops:Array Oper} {o:Oper} {rest:List Oper}
theorem aIS {w:World} {t t' ty e:TypeId} {i:TypeInfo} (ht:P.underlying t=some (.slice e)) (ht':P.underlying t'=some (.slice e)) (hi:P.info? e=some i) {base a:Option Addr} {len cap cap':Nat} (hc:len<=cap) (hb:base=none->len=0):
 (Builtin.append_ #[t,t'] ty #[.slice base len cap, .slice a 0 cap']).run P w= .ok (.slice base len cap) w:=by
 have h1:len+0<=cap:=by omega
 have h0:(Builtin.firstCells i.size 0 (.slice a 0 cap')).run P w= .ok #[] w:=by
  cases a with
  | none=>simp [Builtin.firstCells,Sem.run,pure]
  | some a=>
   have:=SX.run_loadCellsFrom (P:=P) (w:=w) (p:=a) [] 0 #[] (fun j v h=>by simp at h)
   simpa [Builtin.firstCells,loadCells] using this
 cases base <;> simp [Builtin.append_,a1x,run_underlying ht,run_underlying ht',run_sizeOf hi,Builtin.lenOf,Sem.run,pure,hc,h0,storeCells]
theorem aK9 {m:Mem} {A R B:Ak} {w:World} {t ty e es by' len k capx:Nat} {v:Value} {cs xs:List Value} {src:Option Addr} (hS:St β m (A++(R++B)) w) (hR:gI v es e len cs R) (hT:ElT P t e es by') (hxs:xs.length=k*es) (hcell:∀ x∈xs,eH x)
 (hsrc:0<k->∃ a,src=some a/\∀ (j:Nat) u,xs[j]? =some u->w.cell? (a.add j)=some u) (hlen:(len+k)*by'<=140737488355328) (h63:len+k<=9223372036854775807):
 ∃ v' R' w',(Builtin.append_ #[t,t] ty #[v, .slice src k capx]).run P w= .ok v' w'/\gI v' es e (len+k) (cs++xs) R'/\St β m (A++(R'++B)) w':=by
 obtain⟨ht,i,z,hi,h1,h2,hz,hzs⟩:=hT.spell
 by_cases h0:k=0
 ·subst h0;have hx0:xs=[]:=by grind
  subst hx0;rw [a0p];refine⟨v,R,w,?_,hR,hS⟩;obtain⟨hcs,hR⟩:=hR
  grind [aIS]
 ·obtain⟨a,rfl,hnews⟩:=hsrc (by omega)
  have hl1:xs.length=k*i.size:=by rw [h1];exact hxs
  obtain⟨hcs,hR⟩:=hR;have hfin:∀ (cap':Nat) (olds:List Value) (b':Nat),olds=cs->len+k<=cap'->gI (.slice (some ⟨b',0,none⟩) (len+k) cap') es e (len+k) (cs++xs)
   [(b', .cells (olds.toArray++xs.toArray++Builtin.zeroCells z.cells (cap' - (len+k))) e (0,0))]:=fun cap' olds b' ho hcap=>by
   subst ho;refine⟨by grind, .inr ⟨_,_,_,rfl,rfl,?_,hcap,?_⟩⟩
   ·simp [Builtin.zeroCells,hcs,hxs,hzs];have:cap'=(len+k)+(cap' - (len+k)):=by omega
    grind
   grind
  have hcapge:∀ s:Nat,len+k<=grownCap w (len+k) s e:=by grind [grownCap,Question.cut]
  rcases hR with⟨rfl,rfl,rfl⟩ | ⟨b,c,cap,rfl,rfl,hc,hcap,htk⟩
  ·have hcs0:cs=[]:=by grind
   subst hcs0;have hrun:=run_append_nil (P:=P) w t ty e i z ht hi hz a k capx xs hl1 hnews (by omega) (by omega) (by rw [h2];rw [a1n]at hlen;omega)
   rw [a1n]at hfin hcapge;have hfit:=hfin (grownCap w k 0 e) [] w.drew.heap.size rfl (hcapge 0);rw [show([]:List Value).toArray++xs.toArray=xs.toArray from by simp]at hfit
   refine⟨_,[(w.drew.heap.size, .cells (xs.toArray++Builtin.zeroCells z.cells (grownCap w k 0 e - k)) e (0,0))],_,hrun,by simp_all,?_⟩
   have h:=(hS.drawn.alloc (.cells (xs.toArray++Builtin.zeroCells z.cells (grownCap w k 0 e - k)) e));exact grown' h
  ·have hb:(b,Obj.cells c e (0,0))∈(A++([(b,Obj.cells c e (0,0))]++B)):=by simp
   by_cases hroom:len+k<=cap
   ·have hsz:len*es+xs.length<=c.size:=by
     rw [hc,hxs];have:(len+k)*es<=cap*es:=a1m _ hroom
     grind
    obtain⟨k0,hk0⟩:=a0S.1 hb;have hrun:=run_append_room_cells (P:=P) w t ty e i ht hi b 0 len cap a k capx xs hl1 hnews (fun u hu=>(hcell u hu).one) hroom (by grind [aDj]) (fun j hj=>hS.unfrozen hk0)
    have hSt:=St.setCells xs (0+len*i.size) c _ _ hS hk0 (by rw [h1];omega)
    have hk1:k0=A.length:=by
     have hnd:=hS.nodup;have hmid:((A++([(b,Obj.cells c e (0,0))]++B)))[A.length]? =some (b, .cells c e (0,0)):=by simp
     have e1:(((A++([(b,Obj.cells c e (0,0))]++B))).map Prod.fst)[k0]? =some b:=by grind
     have e2:(((A++([(b,Obj.cells c e (0,0))]++B))).map Prod.fst)[A.length]? =some b:=by grind
     grind [List.getElem?_inj]
    subst hk1;refine⟨_,[(b, .cells (c.toList.take (0+len*i.size)++xs++c.toList.drop (0+len*i.size+xs.length)).toArray e (0,0))],_,hrun,⟨by grind, .inr ⟨b,_,cap,rfl,rfl,?_,hroom,?_⟩⟩,?_⟩
    ·grind
    ·grind
    ·simpa using hSt
   ·have hrun:=run_append_grow (P:=P) w t ty e i z ht hi hz ⟨b,0,none⟩ len cap cs (by rw [hcs,h1]) (fun j u hu=>by rw [aBr];exact aDj hS hb (aF3 htk hu)) a k capx xs hl1 hnews (by omega) (by omega)
     (by simp_all [growslice_fits])
    refine⟨_,[(w.drew.heap.size, .cells (cs.toArray++xs.toArray++Builtin.zeroCells z.cells (grownCap w (len+k) cap e - (len+k))) e (0,0))],_,hrun,(by simp_all),?_⟩
    have h:=(hS.drawn.alloc (.cells (cs.toArray++xs.toArray++Builtin.zeroCells z.cells (grownCap w (len+k) cap e - (len+k))) e));exact grown' h
where
 grown' {m:Mem} {y:Nat × Obj} {A M B:Ak} {w:World} (h:St β m (y :: (A++(M++B))) w):St β m (A++([y]++B)) w:=by
  refine(h.drop (L':=y :: (A++B)) (by grind)).perm ?_
  grind [List.Perm.symm,_root_.List.perm_middle]
def cQ {α:Type} (xs:List α):Option (List α):=if xs.length<=1000000000 then some xs else none
theorem sC {α:Type} {xs zs:List α} (h:cQ xs=some zs):zs=xs/\xs.length<=1000000000:=by
 unfold cQ at h
 grind
theorem aDD {α:Type} {t:Ty α} {ty e by' d:Nat} {s x:Operand} {v u:Value} {xs ys zs:List α} {m:Mem} {L A R B:Ak} {cs ns:List Value} {a:Act} {w:World} {K:Act->World->Prop}
 (ho:o.op= .call { callee:= .builtin .append,args:=#[s,x],argTypes:=#[ty,ty] }) (hd:o.dst=some d) (hT:ElT P ty e t.sz by') (hby:Nat.ble by' 1000=true) (hz:cQ (xs++ys)=some zs) (hs:a.eval s=v) (hx:a.eval x=u) (hS:St β m L w) (hL:L=A++(R++B))
 (hR:gI v t.sz e xs.length cs R) (hcs:aX (xs.flatMap t.An) m cs) (hns:aX (ys.flatMap t.An) m ns) (hu:∃ src cap,u= .slice src ys.length cap/\(0<ys.length->∃ a,src=some a/\∀ (j:Nat) c,ns[j]? =some c->w.cell? (a.add j)=some c))
 (k:∀ v' R' cs' w',gI v' t.sz e zs.length cs' R'->aX (zs.flatMap t.An) m cs'->St β m (A++(R'++B)) w'->K (a.put (some d) v') w'):o.wpIn (fw r) 0 P a w K Q:=by
 subst hL
 obtain⟨rfl,hB⟩:=sC hz
 obtain⟨src,cap,rfl,hsrc⟩:=hu
 have hnd:gN o.op=false:=by rw [ho];rfl
 have h3:o.semAt (fw r).round a.eval=execOp a.eval o:=by grind [Oper.semAt_eq]
 rw [a0F]at hB
 have hmul:(xs.length+ys.length)*by'<=1000000000*1000:=Nat.mul_le_mul hB (a1j hby)
 obtain⟨v',R',w',h4,h5,h6⟩:=aK9 (P:=P) (ty:=o.type) (capx:=cap) (xs:=ns) hS hR hT (by rw [hns.length,lC]) (hns.cells aJH) hsrc (by omega) (by omega)
 refine⟨fun _ _=>a1F,?_⟩
 have e:(execOp a.eval o).run P w= .ok (.value v') w':=by
  simp [execOp,ho,resolve,invoke,builtin,hs,hx,a1x,h4,Sem.run,pure]
 grind [Oper.uponIn_value,aX.append]
theorem iX {α:Type} {t:Ty α} {ty e by' d:Nat} {s x:Operand} {v:Value} {xs ys zs:List α} (hw:cN ops Γ o) (ho:o.op= .call { callee:= .builtin .append,args:=#[s,x],argTypes:=#[ty,ty] }) (hd:o.dst=some d) (hn:Nat.ble (d+1) n=true)
 (hs:Has Γ s (fEq v)) (hx:Has Γ x (fSl t ys)) (hT:ElT P ty e t.sz by') (hby:Nat.ble by' 1000=true) (hz:cQ (xs++ys)=some zs) (k:∀ v',T β n ds ((d,fEq v') :: Γ) (aC v' e t zs :: Δ) (wpListIn (fw r) 0 P ops Q rest)):
 T β n ds Γ (aC v e t xs :: Δ) (wpListIn (fw r) 0 P ops Q (o :: rest)):=fun m L a w hF hL hS=>by
 obtain⟨cs,H,R,rfl,h1,hB,h2,h4⟩:=vR hL
 obtain⟨q,⟨src,cap,hue,_,hq⟩,hyB,hel⟩:=hF.has hx
 simp only [wpListIn,hw.wanted hF,if_true]
 have hcells:∀ (l:List α) (f:Nat->Addr),(∀ (i:Nat) y,l[i]? =some y->t.at m (f i) y)->∃ ns,aX (l.flatMap t.An) m ns/\∀ (i j:Nat) c,i<l.length->j<t.sz->ns[i*t.sz+j]? =some c->w.cell? ((f i).add j)=some c:=by
  intro l;induction l with
  | nil=>intro f _;exact⟨[],rfl,fun i j c h=>by simp at h⟩
  | cons y l ih=>
   intro f hf;obtain⟨ns,h5,h6⟩:=ih (fun i=>f (i+1)) (by grind)
   obtain⟨cy,h7,h8⟩:=hf 0 y rfl;have hcy:cy.length=t.sz:=by rw [h7.length,t.len]
   refine⟨cy++ns,by grind [aX.append],fun i j c hi hj hc=>?_⟩
   cases i with
   | zero=>
    grind [St.cell]
   | succ i=>
    grind
 obtain⟨ns,hns,hnc⟩:=hcells ys q hel
 refine aDD (A:=[]) (R:=H) (B:=R) ho hd hT hby hz (hF.has hs) hue hS rfl h1 h2 hns ⟨src,cap,rfl,fun hpos=>?_⟩ fun v' R' cs' w' h5 h6 h7=>?_
 ·obtain⟨p,rfl,hp⟩:=hq 0 hpos;refine⟨p,rfl,fun j c hc=>?_⟩
  have hlt:=(a0z.1 hc).1;rw [hns.length,lC]at hlt;have hsz:0<t.sz:=by
   grind
  have hi:j / t.sz<ys.length:=(Nat.div_lt_iff_lt_mul hsz).2 hlt;have hdm:j / t.sz*t.sz+j % t.sz=j:=by grind [Nat.div_add_mod]
  have h9:=hnc (j / t.sz) (j % t.sz) c hi (Nat.mod_lt _ hsz) (by rw [hdm];exact hc)
  grind [aCu]
 ·exact k v' m _ _ _ (hF.put (a1j hn) rfl) ⟨R',R,rfl,⟨cs',h5,(sC hz).1 ▸ (sC hz).2,h6⟩,h4⟩ h7
theorem gH {α:Type} {t:Ty α} {ty e e' by' d:Nat} {s x:Operand} {v u:Value} {xs ys zs:List α} (hw:cN ops Γ o) (ho:o.op= .call { callee:= .builtin .append,args:=#[s,x],argTypes:=#[ty,ty] }) (hd:o.dst=some d) (hn:Nat.ble (d+1) n=true)
 (hs:Has Γ s (fEq v)) (hx:Has Γ x (fEq u)) (hT:ElT P ty e t.sz by') (hby:Nat.ble by' 1000=true) (hz:cQ (xs++ys)=some zs) (k:∀ v',T β n ds ((d,fEq v') :: Γ) (aC v' e t zs :: Δ) (wpListIn (fw r) 0 P ops Q rest)):
 T β n ds Γ (aC u e' t ys :: aC v e t xs :: Δ) (wpListIn (fw r) 0 P ops Q (o :: rest)):=fun m L a w hF hL hS=>by
 obtain⟨ns,Hu,R0,rfl,g1,gB,g2,hL⟩:=vR hL
 obtain⟨cs,H,R,rfl,h1,hB,h2,h4⟩:=vR hL
 simp only [wpListIn,hw.wanted hF,if_true]
 refine aDD (A:=Hu) (R:=H) (B:=R) ho hd hT hby hz (hF.has hs) (hF.has hx) hS rfl h1 h2 g2 ?_ fun v' R' cs' w' h5 h6 h7=>?_
 ·rcases g1.2 with⟨rfl,g3,_⟩ | ⟨b,c,cap,rfl,rfl,g3,g4,g5⟩
  ·grind
  ·exact⟨_,cap,rfl,fun _=>⟨_,rfl,(by grind [aBr,aDj])⟩⟩
 ·exact k v' m _ _ _ (hF.put (a1j hn) rfl) ⟨R',R,rfl,⟨cs',h5,(sC hz).1 ▸ (sC hz).2,h6⟩,h4⟩ (by grind [St.drop])
theorem fH {α:Type} (t:Ty α) (e:TypeId) (h:T β n ds Γ (aC (.slice none 0 0) e t [] :: Δ) F):T β n ds Γ Δ F:=fun m L a w hF hL hS=>
 h m L a w hF ⟨[],L,rfl,⟨[],by grind [gI],by simp,rfl⟩,hL⟩ hS
def xO (φ:AK) (v:Value):Tk:=⟨fun m H=>H=[]/\φ.p m v,(by grind [AK.mono])⟩
def Frz (τ:Tk) (φ:AK) (v:Value):Prop:=∀ m H,τ.p m H->∀ m',Mem.le m m'->(∀ x∈H,m' x.1=some x.2)->φ.p m' v
def frozen (v:Value) (φ:AK):List Nat->Ctx->Ctx
 | [],Γ=>Γ
 | s :: ss,Γ=>(s,φ) :: frozen v φ ss Γ
theorem uO:∀ {H R:Ak} {m:Mem} {w:World},St β m (H++R) w->∃ m',Mem.le m m'/\St β m' R w/\∀ x∈H,m' x.1=some x.2
 | [],R,m,w,h=>by grind [Mem.le]
 | (b,o) :: H,R,m,w,h=>by
  obtain⟨h1,h2⟩:=St.persist h;obtain⟨m',h3,h4,h5⟩:=uO h1;exact⟨m',Mem.le_trans h2 h3,h4,fun x hx=>by
   cases hx with
   | head=>exact h3 _ _ Mem.ins_self
   | tail _ hx=>exact h5 x hx⟩
theorem aHV {v:Value} {φ:AK} {t:Nat} {ψ:AK}:∀ {ss:List Nat} {Γ:Ctx},lk (frozen v φ ss Γ) t=some ψ->(t∈ss/\ψ=φ)\/lk Γ t=some ψ
 | [],_,h=> .inr h
 | s :: ss,Γ,h=>by
  rcases sK h with⟨rfl,rfl⟩ | ⟨_,h⟩
  ·grind
  ·rcases aHV h with⟨h1,h2⟩ | h
   ·grind
   ·exact .inr h
theorem bT {τ:Tk} {φ:AK} {v:Value} (ss:List Nat) (hf:Frz τ φ v) (hs:∀ s∈ss,lk Γ s=some (fEq v)) (k:T β n ds (frozen v φ ss Γ) (xO φ v :: Δ) F):T β n ds Γ (τ :: Δ) F:=fun m L a w x y z=>by
 obtain⟨H,R,rfl,h1,h2⟩:=y
 obtain⟨m',h3,h4,h5⟩:=uO z
 have h6:=hf m H h1 m' h3 h5
 have x':=x.mono h3
 refine k m' R a w ⟨x.size,x.Ae,fun t ψ ht=>?_⟩ ⟨[],R,rfl,⟨rfl,h6⟩,h2.mono h3⟩ h4
 rcases aHV ht with⟨h7,rfl⟩ | ht
 ·obtain⟨u,h8,h9⟩:=x'.get t _ (hs t h7);cases h9;exact⟨v,h8,h6⟩
 ·exact x'.get t ψ ht
theorem bQ {τ:Tk} (k:T β n ds Γ Δ F):T β n ds Γ (τ :: Δ) F:=fun m L a w x ⟨H,R,e,_,h2⟩ z=>k m R a w x h2 (by grind [St.drop])
theorem dO {φ:AK} {v:Value} {b:Nat} {ty:TypeId} {φs φs':List AK} {i:Nat} (hi:φs[i]? =some (fEq v)) (hs:φs.set i φ=φs') (k:T β n ds Γ (xO φ v :: aA b ty φs' :: Δ) F):T β n ds Γ (xO φ v :: aA b ty φs :: Δ) F:=fun m L a w x y z=>by
 obtain⟨H,R,rfl,⟨rfl,h1⟩,H2,R2,rfl,⟨cs,h3,rfl⟩,h4⟩:=y
 refine k m _ a w x ⟨[],_,rfl,⟨rfl,h1⟩,[_],R2,rfl,⟨cs,?_,rfl⟩,h4⟩ z
 obtain⟨c,h5,h6⟩:=h3.get hi
 cases h6
 have:=h3.set (k:=i) h1
 rw [hs]at this
 have e:cs.set i v=cs:=by
  apply a0t;intro j;rw [a0B]
  split
  ·subst_vars;split
   ·exact h5.symm
   ·have:=(a0z.1 h5).1;omega
  ·rfl
 rwa [e]at this
theorem cM {α:Type} {t:Ty α} {v:Value} {e:TypeId} {xs:List α}:Frz (aC v e t xs) (fSl t xs) v:=fun m H ⟨cs,⟨h0,h1⟩,hB,h2⟩ m' hle hm=>by
 rcases h1 with⟨rfl,h3,rfl⟩ | ⟨b,c,cap,rfl,rfl,h5,h6,h7⟩
 ·exact⟨fun _=>default,(by grind [Sl]),hB,fun i x hx=>by grind⟩
 ·refine⟨fun i=>⟨b,i*t.sz,none⟩,⟨_,cap,rfl,h6,(by grind [Addr.add])⟩,hB,fun i x hx=>⟨_,(aBI h2 hx).mono hle,fun j u hu=>?_⟩⟩
  rw [a0D]at hu;split at hu
  ·rw [List.getElem?_drop]at hu;have h8:=hm _ (.head _);simp only at h8
   have h9:=aF3 h7 hu;unfold Mem.cell uP
   grind [Addr.add]
  ·cases hu
theorem fA {α:Type} {t:Ty α} {b:Nat} {ty:TypeId} {x:α} {φs:List AK} (h:aK φs (t.An x)):Frz (aA b ty φs) (aL t x) (ptr b):=fun m H ⟨cs,h1,h2⟩ m' hle hm=>by
 subst h2
 refine⟨_,rfl,cs,(h.all h1).mono hle,fun j c hc=>?_⟩
 have h8:=hm _ (.head _)
 simp only at h8
 unfold Mem.cell uP
 grind [Addr.add]
def FnX (P:Program) (f:FuncId) (args:List Value) (m:Mem) (L:Ak) (post:Mem->Ak->Ending->Prop):Prop:=
 ∀ w,St ⟨w,m,L.map Prod.fst⟩ m L w->Calls P f args.toArray w fun e w'=>∃ m' L',St ⟨w,m,L.map Prod.fst⟩ m' L' w'/\post m' L' e
theorem back {m m':Mem} {L₀ L₁ R:Ak} {w w':World} (h:St β m (L₀++R) w) (h':St ⟨w,m,L₀.map Prod.fst⟩ m' L₁ w'):St β m' (L₁++R) w':=by
 have hnd:=h.nodup
 rw [a0L]at hnd
 have hsz:=h'.size
 simp only at hsz
 have hR:∀ x∈R,x.1<w.heap.size:=fun x hx=>h.lt_own (a0Q _ hx)
 have hR0:∀ x∈R,x.1 ∉ L₀.map Prod.fst:=fun x hx hin=>(a0Y.1 hnd).2.2 _ hin _ (a0U hx) rfl
 refine⟨h'.mem,fun x hx=>?_,fun x hx=>?_,?_,Mem.le_trans h.mle h'.mle,fun b hb=>?_,fun x hx hlt=>?_,a1l h.size hsz,fun b hb hf=>?_,
  h'.os.trans h.os,h'.output.trans h.output,h'.tape.trans h.tape⟩
 ·rcases a0O.1 hx with hx | hx
  ·exact h'.own x hx
  ·rw [h'.frame x.1 (hR x hx) (hR0 x hx)];exact h.own x (a0Q _ hx)
 ·rcases a0O.1 hx with hx | hx
  ·exact h'.apart x hx
  ·have h0:=h.apart x (a0Q _ hx);cases hm:m' x.1 with
   | none=>rfl
   | some y=>
    have h1:=h'.Av x.1 (by simp only [h0,hm];simp)
    have h2:=hR x hx;rcases h1 with h1 | h1
    ·simp only at *;omega
    ·exact absurd h1 (hR0 x hx)
 ·rw [a0L];refine a0Y.2 ⟨h'.nodup,(a0Y.1 hnd).2.1,fun a ha b hb e=>?_⟩
  obtain⟨x,hx,rfl⟩:=a0T.1 ha;obtain⟨y,hy,rfl⟩:=a0T.1 hb;have hlt:x.1<w.heap.size:=e ▸ hR y hy;exact hR0 y hy (e ▸ h'.keys x hx hlt)
 ·by_cases he:m' b=m b
  ·exact h.Av b (fun e=>hb (he.trans e))
  ·rcases h'.Av b he with h1 | h1
   ·exact .inl (a1l h.size h1)
   ·obtain⟨y,hy,hye⟩:=a0T.1 h1;rcases Nat.lt_or_ge b β.w.heap.size with hlt | hge
    ·exact .inr (hye ▸ h.keys y (a0P _ hy) (by rw [hye];exact hlt))
    ·exact .inl hge
 ·rcases a0O.1 hx with hx | hx
  ·have hin:=h'.keys x hx (Nat.lt_of_lt_of_le hlt h.size);obtain⟨y,hy,he⟩:=a0T.1 hin;rw [<- he];exact h.keys y (a0P _ hy) (by rw [he];exact hlt)
  ·exact h.keys x (a0Q _ hx) hlt
 ·have hbw:b<w.heap.size:=Nat.lt_of_lt_of_le hb h.size;have hnin:b ∉ L₀.map Prod.fst:=fun hin=>by
   obtain⟨y,hy,he⟩:=a0T.1 hin;exact hf (he ▸ h.keys y (a0P _ hy) (by rw [he];exact hb))
  exact(h'.frame b hbw hnin).trans (h.frame b hb hf)
def FnS (P:Program) (f:FuncId) (args:List AK) (Δ:List Tk) (Φ:AK) (Δ':Value->List Tk):Prop:=
 ∀ m L vs,aX args m vs->cD Δ m L->FnX P f vs m L fun m' L' e=>∃ v,e= .returned v/\Φ.p m' v/\cD (Δ' v) m' L'
def FnP (P:Program) (f:FuncId) (args:List AK) (Δ:List Tk) (c:List PanicEntry):Prop:=
 ∀ m L vs,aX args m vs->cD Δ m L->FnX P f vs m L fun _ _ e=>e= .panicked c
def aP (Γ:Ctx):List Operand->List AK->Prop
 | [],φs=>φs=[]
 | x :: xs,φs=>∃ φ r,φs=φ :: r/\Has Γ x φ/\aP Γ xs r
theorem aP.nil {Γ:Ctx}:aP Γ [] []:=by simp [aP]
theorem aP.cons {Γ:Ctx} {x:Operand} {φ:AK} {xs:List Operand} {φs:List AK} (h:Has Γ x φ) (k:aP Γ xs φs):aP Γ (x :: xs) (φ :: φs):=⟨φ,φs,by simp,h,k⟩
theorem aP.all {m:Mem} {a:Act} (hF:FT n ds Γ m a):∀ {xs:List Operand} {φs:List AK},aP Γ xs φs->aX φs m (xs.map a.eval)
 | [],_,h=>by rw [h];rfl
 | x :: xs,_,⟨φ,r,e,h1,h2⟩=>by rw [e];exact⟨_,_,rfl,hF.has h1,aP.all hF h2⟩
def putG (d:Option Nat) (φ:AK) (Γ:Ctx):Ctx:=match d with
 | some t=>(t,φ) :: Γ
 | none=>Γ
def dstOk (d:Option Nat) (n:Nat):Bool:=match d with
 | some t=>Nat.ble (t+1) n
 | none=>true
theorem oT {g:Operand} {args:List Operand} {ts:Array TypeId} {f:FuncId} {first captured:Array Value} {vs:List Value} {post:Mem->Ak->Ending->Prop} {m:Mem} {L R:Ak} {a:Act} {w:World} {K:Act->World->Prop}
 (ho:o.op= .call { callee:= .value g,args:=args.toArray,argTypes:=ts }) (hg:a.eval g= .func (.func f) first captured) (hall:first.toList++args.map a.eval++captured.toList=vs) (hf:Au P f) (hc:FnX P f vs m L post) (hS:St β m (L++R) w)
 (kret:∀ m' L' v w',Mem.le m m'->post m' L' (.returned v)->St β m' (L'++R) w'->K (a.put o.dst v) w')
 (kpan:∀ m' L' c w',Mem.le m m'->post m' L' (.panicked c)->St β m' (L'++R) w'->Q (.panic c) a w') (kout:∀ m' L',post m' L' .outgrown->False):o.wpIn (fw r) 0 P a w K Q:=by
 have hnd:gN o.op=false:=by rw [ho];rfl
 have h3:o.semAt (fw r).round a.eval=execOp a.eval o:=by grind [Oper.semAt_eq]
 refine⟨fun _ _=>a1F,?_⟩
 have hrun:(execOp a.eval o).run P w= .ok (.enter f vs.toArray) w:=by
  have h2:first++((args.map a.eval).toArray++captured)=vs.toArray:=by rw [<- hall];simp
  have h4:args.toArray.map a.eval=(args.map a.eval).toArray:=by simp
  simp [execOp,ho,resolve,hg,Deferred.ofValue,invoke,a1x,Sem.run,pure,run_callFunc hf]
  grind
 rw [h3,hrun,Oper.uponIn_enter]
 refine⟨(fun h=>by cases h),aDW ((hc w hS.start).mono fun e w' ⟨m',L',hS',hp⟩=>?_)⟩
 have hb:=back hS hS'
 cases e with
 | returned v=>exact kret m' L' v w' hS'.mle hp hb
 | panicked c=>exact kpan m' L' c w' hS'.mle hp hb
 | outgrown=>grind
theorem aCN {m:Mem} {a:Act} (hF:FT n ds Γ m a) {args:List Operand} {φs ψs:List AK} {first captured:Array Value} (hargs:aP Γ args φs) (hall:first.toList.map fEq++φs++captured.toList.map fEq=ψs):aX ψs m (first.toList++args.map a.eval++captured.toList):=
 (by grind [aX.append,jG,aP.all])
theorem oX {g:Operand} {args:List Operand} {ts:Array TypeId} {f:FuncId} {first captured:Array Value} {φs ψs:List AK} {Δi Δr Δo:List Tk} {Φ:AK} {d:Option Nat} (hw:cN ops Γ o) (ho:o.op= .call { callee:= .value g,args:=args.toArray,argTypes:=ts }) (hd:o.dst=d)
 (hn:dstOk d n=true) (hg:Has Γ g (fEq (.func (.func f) first captured))) (hargs:aP Γ args φs) (hall:first.toList.map fEq++φs++captured.toList.map fEq=ψs) (hf:Au P f) (hc:FnS P f ψs Δi Φ (fun _=>Δo)) (hΔ:Δ=Δi++Δr)
 (k:T β n ds (putG d Φ Γ) (Δo++Δr) (wpListIn (fw r) 0 P ops Q rest)):T β n ds Γ Δ (wpListIn (fw r) 0 P ops Q (o :: rest)):=fun m L a w hF hL hS=>by
 subst hΔ
 obtain⟨A,B,rfl,h1,h2⟩:=hL.split
 simp only [wpListIn,hw.wanted hF,if_true]
 refine oT ho (hF.has hg) rfl hf (hc m A _ (aCN hF hargs hall) h1) hS (fun m' L' v w' hle ⟨u,he,h3,h4⟩ hS'=>?_) (by grind) (by grind)
 cases he
 refine k m' _ _ _ ?_ (h4.append (h2.mono hle)) hS'
 subst hd
 cases hdd:o.dst with
 | none=>exact hF.mono hle
 | some t=>rw [hdd]at hn;exact(hF.mono hle).put (a1j hn) h3
theorem T_callO {g:Operand} {args:List Operand} {ts:Array TypeId} {f:FuncId} {first captured:Array Value} {φs ψs:List AK} {Δi Δr:List Tk} {Δo:Value->List Tk} {Φ:AK} {d:Nat} (hw:cN ops Γ o) (ho:o.op= .call { callee:= .value g,args:=args.toArray,argTypes:=ts }) (hd:o.dst=some d)
 (hn:Nat.ble (d+1) n=true) (hg:Has Γ g (fEq (.func (.func f) first captured))) (hargs:aP Γ args φs) (hall:first.toList.map fEq++φs++captured.toList.map fEq=ψs) (hf:Au P f) (hc:FnS P f ψs Δi Φ Δo) (hΔ:Δ=Δi++Δr)
 (k:∀ v,T β n ds ((d,fEq v) :: Γ) (Δo v++Δr) (wpListIn (fw r) 0 P ops Q rest)):T β n ds Γ Δ (wpListIn (fw r) 0 P ops Q (o :: rest)):=fun m L a w hF hL hS=>by
 subst hΔ
 obtain⟨A,B,rfl,h1,h2⟩:=hL.split
 simp only [wpListIn,hw.wanted hF,if_true]
 refine oT ho (hF.has hg) rfl hf (hc m A _ (aCN hF hargs hall) h1) hS (fun m' L' v w' hle ⟨u,he,h3,h4⟩ hS'=>?_) (by grind) (by grind)
 cases he
 rw [hd]
 exact k v m' _ _ _ ((hF.mono hle).put (a1j hn) rfl) (h4.append (h2.mono hle)) hS'
theorem T_callP {g:Operand} {args:List Operand} {ts:Array TypeId} {f:FuncId} {first captured:Array Value} {φs ψs:List AK} {Δi Δr:List Tk} {c:List PanicEntry} (hw:cN ops Γ o) (ho:o.op= .call { callee:= .value g,args:=args.toArray,argTypes:=ts })
 (hg:Has Γ g (fEq (.func (.func f) first captured))) (hargs:aP Γ args φs) (hall:first.toList.map fEq++φs++captured.toList.map fEq=ψs) (hf:Au P f) (hc:FnP P f ψs Δi c) (hΔ:Δ=Δi++Δr)
 (k:T β n ds Γ Δr (Q (.panic c))):T β n ds Γ Δ (wpListIn (fw r) 0 P ops Q (o :: rest)):=fun m L a w hF hL hS=>by
 subst hΔ
 obtain⟨A,B,rfl,h1,h2⟩:=hL.split
 simp only [wpListIn,hw.wanted hF,if_true]
 refine oT ho (hF.has hg) rfl hf (hc m A _ (aCN hF hargs hall) h1) hS (by grind) (fun m' L' c' w' hle he hS'=>?_) (fun m' L' he=>by cases he)
 cases he
 exact k m' B a w' (hF.mono hle) (h2.mono hle) (by grind [St.drop])
def mD:List AK->Nat->Ctx
 | [],_=>[]
 | φ :: φs,i=>(i,φ) :: mD φs (i+1)
theorem aAG:∀ (φs:List AK) (i t:Nat) (φ:AK),lk (mD φs i) t=some φ->i<=t/\φs[t - i]? =some φ
 | [],_,_,_,h=>by cases h
 | ψ :: φs,i,t,φ,h=>by
  rcases sK h with⟨rfl,rfl⟩ | ⟨hne,h⟩
  ·simp
  ·obtain⟨h1,h2⟩:=aAG φs (i+1) t φ h
   grind
def fX (β:bL) (Φ:AK) (Δ':Value->List Tk) (e:Ending) (w':World):Prop:=∃ m' L',St β m' L' w'/\∃ v,e= .returned v/\Φ.p m' v/\cD (Δ' v) m' L'
def PostP (β:bL) (c:List PanicEntry) (e:Ending) (w':World):Prop:=∃ m' L',St β m' L' w'/\e= .panicked c
theorem FnX_of {f:FuncId} {fn:Func} {c:Code} {N:Nat} {args:List AK} {post:Mem->Ak->Ending->Prop} (hf:P.funcs[f]? =some fn) (hb:fn.body=some c) (hN:fn.ntmps=N) (hle:Nat.ble args.length N=true)
 (k:∀ w m fp,T ⟨w,m,fp⟩ N [] (mD args 0) Δ (c.wpIn (fw none) 0 P (bodyPost P fn fun e w'=>∃ m' L',St ⟨w,m,fp⟩ m' L' w'/\post m' L' e))):
 ∀ m L vs,aX args m vs->cD Δ m L->FnX P f vs m L post:=fun m L vs hv hL w hS=>by
 refine calls_of_wp hf hb ?_
 refine(wpIn_wide (n:=0)).1 (k w m _ m L _ w ⟨?_,rfl,fun t φ h=>?_⟩ hL hS)
 ·have:=a1j hle
  grind [aX.length]
 ·obtain⟨_,h2⟩:=aAG args 0 t φ h
  grind [aX.get]
theorem bB {f:FuncId} {fn:Func} {c:Code} {N:Nat} {args:List AK} {Φ:AK} {Δ':Value->List Tk} (hf:P.funcs[f]? =some fn) (hb:fn.body=some c) (hN:fn.ntmps=N) (hle:Nat.ble args.length N=true)
 (k:∀ β,T β N [] (mD args 0) Δ (c.wpIn (fw none) 0 P (bodyPost P fn (fX β Φ Δ')))):FnS P f args Δ Φ Δ':=FnX_of hf hb hN hle fun w m fp=>k ⟨w,m,fp⟩
theorem FnP_of {f:FuncId} {fn:Func} {c:Code} {N:Nat} {args:List AK} {ch:List PanicEntry} (hf:P.funcs[f]? =some fn) (hb:fn.body=some c) (hN:fn.ntmps=N) (hle:Nat.ble args.length N=true)
 (k:∀ β,T β N [] (mD args 0) Δ (c.wpIn (fw none) 0 P (bodyPost P fn (PostP β ch)))):FnP P f args Δ ch:=FnX_of hf hb hN hle fun w m fp=>k ⟨w,m,fp⟩
theorem dH {fn:Func} {Δ':Value->List Tk} {e:Exit} (he:e= .ret\/e= .normal) (hr:fn.results=#[]) (hd:Δ=Δ' (.tuple #[])):T β n [] Γ Δ (bodyPost P fn (fX β (dB []) Δ') e):=fun m L a w hF hL hS=>by
 subst hd
 have:a.defers=[]/\∃ v,(results fn a.tmps).run P w= .ok v w/\fX β (dB []) Δ' (.returned v) w:=
  ⟨hF.Ae, .tuple #[],by simp_all [results],m,L,hS,_,rfl,⟨[],rfl,rfl⟩,hL⟩
 rcases he with rfl | rfl <;> exact this
theorem fV {fn:Func} {Φ:AK} {Δ':List Tk} {t:Nat} (hr:fn.results=#[.tmp t]) (hv:gX Γ t Φ) (hd:Δ=Δ'):T β n [] Γ Δ (bodyPost P fn (fX β Φ (fun _=>Δ')) .ret):=fun m L a w hF hL hS=>by
 subst hd
 obtain⟨ψ,h1,h2⟩:=hv
 obtain⟨v,h3,h4⟩:=hF.get t ψ h1
 exact⟨hF.Ae,v,by simp [results,hr,a0a,h3,Sem.run,pure],m,L,hS,v,rfl,h2 m v h4,hL⟩
theorem T_outO {fn:Func} {Φ:AK} {Δ':Value->List Tk} {t:Nat} {v:Value} (hr:fn.results=#[.tmp t]) (hv:gX Γ t (fEq v)) (hΦ:Ent (fEq v) Φ) (hd:Δ=Δ' v):T β n [] Γ Δ (bodyPost P fn (fX β Φ Δ') .ret):=fun m L a w hF hL hS=>by
 subst hd
 obtain⟨ψ,h1,h2⟩:=hv
 obtain⟨u,h3,h4⟩:=hF.get t ψ h1
 have h5:u=v:=h2 m u h4
 subst h5
 exact⟨hF.Ae,u,by simp [results,hr,a0a,h3,Sem.run,pure],m,L,hS,u,rfl,hΦ m u rfl,hL⟩
theorem gU {fn:Func} {φ ψ:AK} {Δ':List Tk} {t u:Nat} (hr:fn.results=#[.tmp t, .tmp u]) (hv:gX Γ t φ) (hz:gX Γ u ψ) (hd:Δ=Δ'):T β n [] Γ Δ (bodyPost P fn (fX β (dB [φ,ψ]) (fun _=>Δ')) .ret):=fun m L a w hF hL hS=>by
 subst hd
 obtain⟨_,h1,h2⟩:=hv
 obtain⟨v,h3,h4⟩:=hF.get t _ h1
 obtain⟨_,g1,g2⟩:=hz
 obtain⟨z,g3,g4⟩:=hF.get u _ g1
 exact⟨hF.Ae, .tuple #[v,z],by simp [results,hr,a0a,h3,g3,a1x,Sem.run,pure],m,L,hS,_,rfl,⟨[v,z],rfl,v,[z],rfl,h2 m v h4,z,[],rfl,g2 m z g4,rfl⟩,hL⟩
theorem wJ {fn:Func} {φ ψ χ:AK} {Δ':List Tk} {t u s:Nat} (hr:fn.results=#[.tmp t, .tmp u, .tmp s]) (hv:gX Γ t φ) (hz:gX Γ u ψ) (hy:gX Γ s χ) (hd:Δ=Δ'):T β n [] Γ Δ (bodyPost P fn (fX β (dB [φ,ψ,χ]) (fun _=>Δ')) .ret):=fun m L a w hF hL hS=>by
 subst hd
 obtain⟨_,h1,h2⟩:=hv
 obtain⟨v,h3,h4⟩:=hF.get t _ h1
 obtain⟨_,g1,g2⟩:=hz
 obtain⟨z,g3,g4⟩:=hF.get u _ g1
 obtain⟨_,i1,i2⟩:=hy
 obtain⟨y,i3,i4⟩:=hF.get s _ i1
 exact⟨hF.Ae, .tuple #[v,z,y],by simp [results,hr,a0a,h3,g3,i3,a1x,Sem.run,pure],m,L,hS,_,rfl,⟨[v,z,y],rfl,v,[z,y],rfl,h2 m v h4,z,[y],rfl,g2 m z g4,y,[],rfl,i2 m y i4,rfl⟩,hL⟩
theorem T_outP {fn:Func} {c:List PanicEntry}:T β n [] Γ Δ (bodyPost P fn (PostP β c) (.panic c)):=fun m L a w hF hL hS=>⟨hF.Ae,m,L,hS,rfl⟩
theorem T_panic {x:Operand} {T':TypeId} {v:Value} (hw:cN ops Γ o) (ho:o.op= .panic x) (hx:Has Γ x (fEq (.iface T' v))) (k:T β n ds Γ Δ (Q (.panic [{ v:= .iface T' v,recovered:=false }]))):
 T β n ds Γ Δ (wpListIn (fw r) 0 P ops Q (o :: rest)):=fun m L a w hF hL hS=>by
 have hnd:gN o.op=false:=by rw [ho];rfl
 have h3:o.semAt (fw r).round a.eval=execOp a.eval o:=by grind [Oper.semAt_eq]
 simp only [wpListIn,hw.wanted hF,if_true]
 refine⟨fun _ _=>a1F,?_⟩
 have hxe:a.eval x=_:=hF.has hx
 have:(execOp a.eval o).run P w= .halt (.panic (.iface T' v)) w:=by
  simp [execOp,ho,hxe,Instr.panic,goPanic,a1x,Sem.run]
 rw [h3,this,Oper.uponIn_panic]
 exact k m L a w hF hL hS
end
open Go.SX
theorem bind_some {α γ:Type} {o:Option α} {f:α->Option γ} {r:γ} (h:o.bind f=some r):∃ x,o=some x/\f x=some r:=Option.bind_eq_some_iff.1 h
theorem ne_tf {c:Bool} (h:c=false):c≠true:=by grind
theorem ne_ft {c:Bool} (h:c=true):c≠false:=by grind
theorem bN:∀ φ∈([]:List AK),eJ φ:=fun _ h=>nomatch h
theorem aI {φ:AK} {l:List AK} (h:eJ φ) (k:∀ ψ∈l,eJ ψ):∀ ψ∈φ :: l,eJ ψ:=by grind
theorem qS {l l':List AK} (h:∀ ψ∈l,eJ ψ) (k:∀ ψ∈l',eJ ψ):∀ ψ∈l++l',eJ ψ:=by grind
theorem AK.ext' {φ ψ:AK} (h:∀ m v,φ.p m v ↔ ψ.p m v):φ=ψ:=by
 obtain⟨p,hp⟩:=φ
 obtain⟨q,hq⟩:=ψ
 have:p=q:=by grind
 subst this
 rfl
def fRaw (x:Value):AK:=⟨fun _ v=>v=x/\eH v,fun _ h=>h⟩
theorem leaf_raw {x:Value}:eJ (fRaw x):=fun _ _ h=>h.2
def tRaw:Ty Value:=⟨1,fun x=>[fRaw x],fun _=>rfl,(by grind [leaf_raw])⟩
theorem fB {φ ψ:AK} (h:φ=ψ):Ent φ ψ:=h ▸ Ent.rfl
section
variable {P:Program} {β:bL} {n:Nat} {ds:List Deferred} {Γ:Ctx} {Δ:List Tk} {r:Option Nat} {Q Q':Exit->Act->World->Prop} {F:Act->World->Prop} {ops:Array Oper} {o:Oper} {rest:List Oper}
theorem T_o1 {d:Nat} {φ:AK} {τ:Tk} (i:Nat) (hw:cN ops Γ o) (hτ:Δ[i]? =some τ) (hd:o.dst=some d) (hn:Nat.ble (d+1) n=true) (h:OpT P Γ [τ] o φ)
 (k:T β n ds ((d,φ) :: Γ) Δ (wpListIn (fw r) 0 P ops Q rest)):T β n ds Γ Δ (wpListIn (fw r) 0 P ops Q (o :: rest)):=
 T_op [i] hw (List.pairwise_singleton _ _) hd hn (by grind [wP]) k
theorem dN {α:Type} {xs:List α} {i:Int} {x:α} (h:idx xs i=some x):xs[i.toNat]? =some x:=by
 unfold idx at h;split at h
 ·exact h
 ·cases h
theorem not_t {c:Bool} (h:c=true):(!c)=false:=by rw [h];rfl
theorem not_f {c:Bool} (h:c=false):(!c)=true:=by rw [h];rfl
end
open Go.SX
abbrev Cf:=Nat->Option AK
def updC (γ:Cf) (d:Option Nat) (φ:AK):Cf:=match d with
 | some t=>fun s=>bif Nat.beq t s then some φ else γ s
 | none=>γ
def kE (D:Nat->Tk) (ps:List Nat) (Δo:List Tk):Nat->Tk:=fun q=>((ps.zip Δo).lookup q).getD (D q)
structure Oc where
 n:Nat
 v:Value
instance:Inhabited Oc:=⟨⟨0,undef⟩⟩
abbrev Env':=Nat->Oc
def Env'.set (e:Env') (i:Nat) (b:Oc):Env':=fun j=>bif Nat.beq i j then b else e j
theorem aDo {e:Env'} {i:Nat} {b:Oc}:e.set i b i=b:=by simp [Env'.set]
theorem yR {e:Env'} {i j:Nat} {b:Oc} (h:i≠j):e.set i b j=e j:=by
 grind [_root_.Nat.eq_of_beq_eq_true,Env'.set]
theorem set_comm {e:Env'} {i j:Nat} {b c:Oc} (h:i≠j):(e.set i b).set j c=(e.set j c).set i b:=by
 funext k
 by_cases hi:i=k
 ·subst hi;rw [yR (fun e=>h e.symm),aDo,aDo]
 grind [aDo,yR]
inductive OD where
 | skip
 | op (ps:List Nat) (wr:Bool) (φ:Oc->AK) (Δo:Oc->List Tk)
def OD.ps:OD->List Nat
 | .skip=>[]
 | .op ps _ _ _=>ps
def OD.wr:OD->Bool
 | .skip=>false
 | .op _ wr _ _=>wr
structure FC (n:Nat) (ds:List Deferred) (γ:Cf) (m:Mem) (a:Act):Prop where
 size:a.tmps.size=n
 Ae:a.defers=ds
 get:∀ t φ,γ t=some φ->∃ v,a.tmps[t]? =some v/\φ.p m v
def Stp (P:Program) (r:Option Nat) (γ:Cf) (o:Oper) (Δi:List Tk) (φ:Oc->AK) (Δo:Oc->List Tk):Prop:=
 ∀ (β:bL) (n:Nat) (ds:List Deferred) (m:Mem) (L R:Ak) (a:Act) (w:World) (K:Act->World->Prop) (Q:Exit->Act->World->Prop),FC n ds (fun t=>if t∈o.op.operands.toList.filterMap (fun | .tmp t=>some t | _=>none)then γ t else none) m a ->
  cD Δi m L->St β m (L++R) w->(∀ b m' L' v w',Mem.le m m'->(φ b).p m' v->cD (Δo b) m' L'->St β m' (L'++R) w'->K (a.put o.dst v) w')->o.wpIn (fw r) 0 P a w K Q
def aBW (ops:Array Oper) (γ:Cf) (o:Oper):Prop:=match o.guard with
 | none=>True
 | some (j,want)=>∃ d c,(ops[j]?).bind (·.dst)=some d/\γ d=some (aH c)/\c=want
def aGI (ops:Array Oper) (γ:Cf) (o:Oper):Prop:=∃ j want d ψ,o.guard=some (j,want)/\(ops[j]?).bind (·.dst)=some d/\γ d=some ψ/\Never ψ want
section
variable (P:Program) (r:Option Nat) (ops:Array Oper)
def Pre (γ:Cf) (D:Nat->Tk) (x:Oper × OD):Prop:=match x.2 with
 | .skip=>aGI ops γ x.1
 | .op ps _ φ Δo=>aBW ops γ x.1/\Stp P r γ x.1 (ps.map D) φ (fun b=>if x.2.wr then Δo b else ps.map D)/\∀ b,(Δo b).length=ps.length
def fJ (γ:Cf) (x:Oper × OD) (b:Oc):Cf:=match x.2 with
 | .skip=>updC γ x.1.dst (fEq undef)
 | .op _ _ φ _=>updC γ x.1.dst (φ b)
def eZ (D:Nat->Tk) (x:Oper × OD) (b:Oc):Nat->Tk:=match x.2 with
 | .skip=>D
 | .op ps wr _ Δo=>if wr then kE D ps (Δo b) else D
abbrev NO:=Nat × Oper × (Env'->OD)
def NC (G:Env'->Cf->(Nat->Tk)->Prop):List NO->Env'->Cf->(Nat->Tk)->Prop
 | [],e,γ,D=>G e γ D
 | x :: l,e,γ,D=>Pre P r ops γ D (x.2.1,x.2.2 e)/\∀ b,NC G l (e.set x.1 b) (fJ γ (x.2.1,x.2.2 e) b) (eZ D (x.2.1,x.2.2 e) b)
end
structure Ind (ops:Array Oper) (x y:Oper × OD):Prop where
 xy:∀ d,x.1.dst=some d->d ∉ y.1.looksAt ops
 yx:∀ d,y.1.dst=some d->d ∉ x.1.looksAt ops
 ne:∀ d,x.1.dst=some d->y.1.dst≠some d
 touch:(x.2.wr || y.2.wr)=true->∀ p∈x.2.ps,p ∉ y.2.ps
section
variable {P:Program} {r:Option Nat} {ops:Array Oper}
theorem updC_ne {γ:Cf} {d:Option Nat} {φ:AK} {t:Nat} (h:d≠some t):updC γ d φ t=γ t:=by
 cases d with
 | none=>rfl
 | some s=>
  have:Nat.beq s t=false:=by
   grind [_root_.Nat.eq_of_beq_eq_true]
  grind [updC]
theorem xG {γ:Cf} {x:Oper × OD} {b:Oc} {t:Nat} (h:x.1.dst≠some t):fJ γ x b t=γ t:=by
 obtain⟨o,od⟩:=x
 cases od <;> exact updC_ne h
theorem aF4 {γ γ':Cf} {x:Oper × OD} {b:Oc} {t:Nat} (h:x.1.dst=some t):fJ γ x b t=fJ γ' x b t:=by
 obtain⟨o,od⟩:=x
 simp only at h
 cases od <;> simp [fJ,updC,h]
theorem aFw {D:Nat->Tk} {ps:List Nat} {Δo:List Tk} {q:Nat} (h:q ∉ ps):kE D ps Δo q=D q:=by
 have:(ps.zip Δo).lookup q=none:=by
  rw [List.lookup_eq_none_iff];intro p hp;have:=(List.of_mem_zip hp).1
  grind
 simp [kE,this]
theorem aBs {D:Nat->Tk} {x:Oper × OD} {b:Oc} {q:Nat} (h:x.2.wr=true->q ∉ x.2.ps):eZ D x b q=D q:=by
 obtain⟨o,od⟩:=x
 cases od with
 | skip=>rfl
 | op ps wr φ Δo=>
  cases wr with
  | false=>rfl
  | true=>exact aFw (h rfl)
theorem aEq {o:Oper} {g:Nat} {want:Bool} {d:Nat} (hg:o.guard=some (g,want)) (hd:(ops[g]?).bind (·.dst)=some d):d∈o.looksAt ops:=by
 grind [Oper.looksAt]
theorem looks_op {o:Oper} {t:Nat} (h:t∈o.op.operands.toList.filterMap (fun | .tmp t=>some t | _=>none)):t∈o.looksAt ops:=a0P _ h
theorem Pre.congr {γ γ':Cf} {D D':Nat->Tk} {x:Oper × OD} (hγ:∀ t∈x.1.looksAt ops,γ' t=γ t) (hD:∀ p∈x.2.ps,D' p=D p) (h:Pre P r ops γ D x):Pre P r ops γ' D' x:=by
 obtain⟨o,od⟩:=x
 cases od with
 | skip=>
  obtain⟨j,want,d,c,h1,h2,h3,h4⟩:=h;exact⟨j,want,d,c,h1,h2,by grind [aEq],h4⟩
 | op ps wr φ Δo=>
  obtain⟨h1,h2,h3⟩:=h;have hmap:ps.map D'=ps.map D:=a0M fun p hp=>hD p hp
  refine⟨?_,?_,h3⟩
  ·unfold aBW at h1 ⊢
   grind [aEq]
  ·rw [hmap];intro β n ds m L R a w K Q hF hL hS hk;refine h2 β n ds m L R a w K Q ⟨hF.size,hF.Ae,fun t φ ht=>hF.get t φ ?_⟩ hL hS hk
   grind [looks_op]
theorem aLw {γ:Cf} {x y:Oper × OD} (h:∀ d,x.1.dst=some d->y.1.dst≠some d) (b c:Oc):fJ (fJ γ x b) y c=fJ (fJ γ y c) x b:=by
 funext t
 by_cases hx:x.1.dst=some t
 ·grind [xG,aF4]
 ·by_cases hy:y.1.dst=some t
  ·grind [xG,aF4]
  grind [xG]
theorem aEy {D D':Nat->Tk} {x:Oper × OD} {b:Oc} {q:Nat} (hl:∀ ps wr φ Δo,x.2= .op ps wr φ Δo->(Δo b).length=ps.length) (h:x.2.wr=true) (hq:q∈x.2.ps):eZ D x b q=eZ D' x b q:=by
 obtain⟨o,od⟩:=x
 cases od with
 | skip=>cases h
 | op ps wr φ Δo=>
  simp only [OD.wr]at h;subst h;simp only [eZ,if_true,kE];have hlen:=hl ps true φ Δo rfl;simp only [OD.ps]at hq;have:∃ v,(ps.zip (Δo b)).lookup q=some v:=by
   generalize Δo b=l at hlen
   clear hl;induction ps generalizing l with
   | nil=>cases hq
   | cons p ps ih=>
    cases l with
    | nil=>simp at hlen
    | cons v l=>
     simp only [List.zip_cons_cons,List.lookup_cons];by_cases hpq:q==p
     ·simp_all
     grind
  grind
theorem aJU {D:Nat->Tk} {x y:Oper × OD} (h:(x.2.wr || y.2.wr)=true->∀ p∈x.2.ps,p ∉ y.2.ps) {b c:Oc} (hlx:∀ ps wr φ Δo,x.2= .op ps wr φ Δo->(Δo b).length=ps.length) (hly:∀ ps wr φ Δo,y.2= .op ps wr φ Δo->(Δo c).length=ps.length):
 eZ (eZ D x b) y c=eZ (eZ D y c) x b:=by
 funext q
 by_cases hx:x.2.wr=true/\q∈x.2.ps
 ·grind [aBs,aEy]
 grind [OD.ps,eZ,aBs,aEy]
theorem Pre.len {γ:Cf} {D:Nat->Tk} {x:Oper × OD} (h:Pre P r ops γ D x) (b:Oc):∀ ps wr φ Δo,x.2= .op ps wr φ Δo->(Δo b).length=ps.length:=fun ps wr φ Δo e=>by
 obtain⟨o,od⟩:=x
 simp only at e
 subst e
 exact h.2.2 b
structure IndN (ops:Array Oper) (x y:NO):Prop where
 num:x.1≠y.1
 xd:∀ (e:Env') b,x.2.2 (e.set y.1 b)=x.2.2 e
 yd:∀ (e:Env') b,y.2.2 (e.set x.1 b)=y.2.2 e
 ind:∀ e,Ind ops (x.2.1,x.2.2 e) (y.2.1,y.2.2 e)
theorem NC.swap {G:Env'->Cf->(Nat->Tk)->Prop} {x y:NO} {l:List NO} {e:Env'} {γ:Cf} {D:Nat->Tk} (hn:IndN ops x y) (h:NC P r ops G (x :: y :: l) e γ D):NC P r ops G (y :: x :: l) e γ D:=by
 obtain⟨h1,h2⟩:=h
 have hi:=hn.ind e
 have hy:Pre P r ops γ D (y.2.1,y.2.2 e):=by
  have h3:=(h2 default).1;rw [hn.yd]at h3;exact h3.congr (fun t ht=>(xG fun e=>hi.xy t e ht).symm) fun p hp=>(aBs fun hw hpx=>hi.touch (by simp [hw]) p hpx hp).symm
 refine⟨hy,fun c=>⟨?_,fun b=>?_⟩⟩
 ·rw [hn.xd];exact h1.congr (fun t ht=>xG fun e=>hi.yx t e ht) fun p hp=>aBs fun hw hpy=>hi.touch (by simp [hw]) p hp hpy
 ·have h3:=(h2 b).2 c;rw [hn.yd]at h3;rw [hn.xd,<- aLw hi.ne b c,<- aJU hi.touch (h1.len b) (hy.len c),set_comm (fun e=>hn.num e.symm)];exact h3
theorem NC.front {G:Env'->Cf->(Nat->Tk)->Prop} {y:NO} {l2:List NO}:∀ {l1:List NO} {e:Env'} {γ:Cf} {D:Nat->Tk},(∀ x∈l1,IndN ops x y)->NC P r ops G (l1++y :: l2) e γ D->NC P r ops G (y :: (l1++l2)) e γ D
 | [],_,_,_,_,h=>h
 | x :: l1,e,γ,D,hi,h=>by
  have h':NC P r ops G (x :: y :: (l1++l2)) e γ D:=⟨h.1,fun b=>NC.front (by grind) (h.2 b)⟩
  grind [NC.swap]
structure aCm (ops:Array Oper) (h:Nat) (ods:List (Env'->OD)):Prop where
 back:∀ (i:Nat) (o:Oper),ops[i]? =some o->∀ e∈o.after,Region.binds .any e=true->e.on<i
 tail:∀ (i j:Nat) (oi oj:Oper),ops[i]? =some oi->ops[j]? =some oj->h<=i->j<i->jM ops ops.size i j=true
 ind:∀ (i j:Nat) (oi oj:Oper) (x y:Env'->OD),ops[i]? =some oi->ops[j]? =some oj->i<h->j<i->ods[i]? =some x->ods[j]? =some y->IndN ops (j,oj,y) (i,oi,x)\/jM ops ops.size i j=true
theorem aFO {head tail:List Oper} {Q:Exit->Act->World->Prop} {ods:List (Env'->OD)} (hops:ops=(head++tail).toArray) (hsh:aCm ops head.length ods):∀ (AA k:Nat) (listed:Array Bool) (a:Act) (w:World),(∀ i:Nat,i<head.length+k->listed.getD i false=true) ->
 (∀ i:Nat,head.length+k<=i->listed.getD i false=false)->listed.size=ops.size->k<=tail.length->tail.length - k<=AA->wpListIn (fw r) 0 P ops Q (tail.drop k) a w->wpAnyIn (fw r) 0 P .any ops Q AA listed a w:=by
 have hsz:ops.size=head.length+tail.length:=by rw [hops];simp
 have hnotready:∀ (k:Nat) (listed:Array Bool),(∀ i:Nat,i<head.length+k->listed.getD i false=true)->listed.size=ops.size->tail.length<=k->Region.ready .any ops listed=[]:=fun k listed h1 hls hk=>by
  cases hr:Region.ready .any ops listed with
  | nil=>rfl
  | cons i l=>
   have:i∈Region.ready .any ops listed:=by rw [hr];exact .head _
   obtain⟨h2,o,ho,_⟩:=mem_ready.1 this;have hlt:=(a0c.1 ho).1;rw [yQ (by omega),h1 i (by omega)]at h2;cases h2
 intro AA
 induction AA with
 | zero=>
  intro k listed a w h1 h2 hls hk hf hw;have hd:tail.drop k=[]:=List.drop_eq_nil_of_le (by omega)
  rw [hd]at hw;exact⟨hnotready k listed h1 hls (by omega),hw⟩
 | succ AA ih=>
  intro k listed a w h1 h2 hls hk hf hw;by_cases hend:tail.length<=k
  ·have hd:tail.drop k=[]:=List.drop_eq_nil_of_le hend;rw [hd]at hw;have hnr:=hnotready k listed h1 hls hend;exact⟨fun _=>hw,fun i hi=>by rw [hnr]at hi;cases hi⟩
  ·have hklt:k<tail.length:=by omega
   have hok:ops[head.length+k]? =some tail[k]:=by
    rw [hops];simp [List.getElem?_append_right,hklt]
   have hunk:listed.getD (head.length+k) false=false:=h2 _ (a1k _);have hready:head.length+k∈Region.ready .any ops listed:=mem_ready.2 ⟨by rw [yQ (by omega)];exact hunk,_,hok,fun e he hb=>h1 _ (hsh.back _ _ hok e he hb)⟩
   have hcl:lU ops listed:=fun i o ho hl e he hb=>by
    have:e.on<i:=hsh.back i o ho e he hb;have hi:i<head.length+k:=Nat.lt_of_not_le fun hge=>by rw [h2 i hge]at hl;cases hl
    exact h1 _ (by omega)
   refine⟨(fun hnil=>by rw [hnil]at hready;cases hready),fun i hi=>?_⟩
   obtain⟨h3,o,ho,hdep⟩:=mem_ready.1 hi;have hlt:=(a0c.1 ho).1;rw [yQ (by omega)]at h3;have hge:head.length+k<=i:=Nat.le_of_not_lt fun hl=>by rw [h1 i hl]at h3;cases h3
   have hik:i=head.length+k:=by
    by_cases he:i=head.length+k
    ·exact he
    ·have hr:=hsh.tail i (head.length+k) o _ ho hok (by omega) (by omega)
     have:=aBa hcl _ _ _ o ho hdep hr;rw [hunk]at this;cases this
   subst hik;rw [hok]at ho;cases ho;have hdrop:tail.drop k=tail[k] :: tail.drop (k+1):=List.drop_eq_getElem_cons hklt;rw [hdrop]at hw;have hnext:∀ a w,wpListIn (fw r) 0 P ops Q (tail.drop (k+1)) a w->wpAnyIn (fw r) 0 P .any ops Q AA (listed.setIfInBounds (head.length+k) true) a w:=fun a w hw=>
    ih (k+1) _ a w (fun i hi=>by
        rw [yX (by omega)];split
        ·rfl
        ·exact h1 i (by omega)) (fun i hi=>by rw [yX (by omega),a1D (by omega)];exact h2 i (by omega)) (by simpa using hls) (by omega) (by omega) hw
   unfold wpOpIn;simp only [hok];simp only [wpListIn]at hw;split at hw
   ·rename_i hwt;rw [a1E hwt];exact Oper.wpIn_mono hnext hw
   ·rename_i hwt;rw [a1D hwt];exact⟨hw.1,hnext _ _ hw.2⟩
theorem FC.put {n:Nat} {ds:List Deferred} {γ:Cf} {m:Mem} {a:Act} (h:FC n ds γ m a) {d:Option Nat} (hd:∀ t,d=some t->t<n) {v:Value} {φ:AK} (hv:φ.p m v):FC n ds (updC γ d φ) m (a.put d v):=by
 cases d with
 | none=>exact h
 | some d=>
  refine⟨by simp [Act.put,h.size],by simp [Act.put,h.Ae],fun t ψ hu=>?_⟩
  simp only [updC]at hu;cases hb:Nat.beq d t with
  | true=>
   rw [hb]at hu;have:=a1i hb;subst this;cases hu;exact⟨v,by simp [Act.put,h.size,hd d rfl],hv⟩
  | false=>
   rw [hb]at hu;have hne:d≠t:=fun e=>by subst e;simp at hb
   obtain⟨u,h1,h2⟩:=h.get t ψ hu
   grind [Act.put]
theorem FC.mono {n:Nat} {ds:List Deferred} {γ:Cf} {m m':Mem} {a:Act} (h:FC n ds γ m a) (hle:Mem.le m m'):FC n ds γ m' a:=
 ⟨h.size,h.Ae,fun t φ ht=>let ⟨v,h1,h2⟩:=h.get t φ ht;⟨v,h1,φ.mono hle h2⟩⟩
theorem wantedF {n:Nat} {ds:List Deferred} {γ:Cf} {m:Mem} {a:Act} (h:FC n ds γ m a) {o:Oper} (hw:aBW ops γ o):Region.wanted o (Go.yielded ops a.tmps)=true:=by
 unfold aBW at hw
 unfold Region.wanted
 cases hg:o.guard with
 | none=>rfl
 | some p=>
  obtain⟨j,want⟩:=p;rw [hg]at hw;obtain⟨d,c,h1,h2,rfl⟩:=hw;obtain⟨v,h3,h4⟩:=h.get d _ h2;have h4:v= .bool c:=h4
  grind [yielded]
theorem aI3 {n:Nat} {ds:List Deferred} {γ:Cf} {m:Mem} {a:Act} (h:FC n ds γ m a) {o:Oper} (hw:aGI ops γ o):Region.wanted o (Go.yielded ops a.tmps)=false:=by
 obtain⟨j,want,d,ψ,hg,h1,h2,h3⟩:=hw
 obtain⟨v,h4,h5⟩:=h.get d _ h2
 have h6:=h3 m v h5
 have h7:Go.yielded ops a.tmps j=SX.asB v:=by
  simp only [Go.yielded,h1,Option.bind_some,h4];cases v <;> rfl
 grind [Region.wanted]
theorem net_take {D:Nat->Tk} {q:Nat} {ps:List Nat} (hn:ps.Nodup) (hq:∀ p∈ps,p<q):∃ rest:List Nat,(List.range q).Perm (ps++rest)/\∀ p∈rest,p ∉ ps:=by
 refine⟨(List.range q).filter (fun p=>!ps.contains p),?_,(by grind)⟩
 have h1:=List.filter_append_perm (fun p=>ps.contains p) (List.range q)
 refine h1.symm.trans (List.Perm.append_right _ ?_)
 refine(List.perm_ext_iff_of_nodup (List.nodup_range.filter _) hn).2 fun p=>?_
 grind
theorem net_put {D:Nat->Tk} {ps rest:List Nat} {Δo:List Tk} (hn:ps.Nodup) (hl:Δo.length=ps.length) (hr:∀ p∈rest,p ∉ ps):(ps++rest).map (kE D ps Δo)=Δo++rest.map D:=by
 rw [a0L]
 congr 1
 ·induction ps generalizing Δo D with
  | nil=>cases Δo with
   | nil=>rfl
   | cons=>simp at hl
  | cons p ps ih=>
   cases Δo with
   | nil=>simp at hl
   | cons v l=>
    rw [a0Z]at hn;rw [a0N];congr 1
    ·simp [kE]
    ·refine Eq.trans (a0M ?_) (ih (D:=D) (Δo:=l) hn.2 (by simpa using hl) (fun p hp=>fun h=>hr p hp (.tail _ h)))
     intro s hs;have hne:(s==p)=false:=by
      simp only [beq_eq_false_iff_ne,ne_eq];exact fun e=>hn.1 (e ▸ hs)
     simp [kE,List.lookup_cons,hne]
 ·exact a0M fun p hp=>aFw (hr p hp)
def wfO (n q:Nat) (o:Oper) (od:OD):Prop:=(∀ t,o.dst=some t->t<n)/\(∀ p∈od.ps,p<q)/\od.ps.Nodup
theorem net_run {β:bL} {n:Nat} {ds:List Deferred} {Q:Exit->Act->World->Prop} {head tail:List Oper} {ods:List (Env'->OD)} {q:Nat} {G:Env'->Cf->(Nat->Tk)->Prop} (hops:ops=(head++tail).toArray) (hol:ods.length=head.length) (hsh:aCm ops head.length ods)
 (hG:∀ e γ D m L a w,G e γ D->FC n ds γ m a->cD ((List.range q).map D) m L->St β m L w->wpListIn (fw r) 0 P ops Q tail a w):
 ∀ (AA:Nat) (rem:List NO) (listed:Array Bool) (e:Env') (γ:Cf) (D:Nat->Tk) (m:Mem) (L:Ak) (a:Act) (w:World),
  NC P r ops G rem e γ D->FC n ds γ m a->cD ((List.range q).map D) m L->St β m L w->(∀ x∈rem,head[x.1]? =some x.2.1/\ods[x.1]? =some x.2.2/\∀ e,wfO n q x.2.1 (x.2.2 e))->(rem.Pairwise fun x y=>x.1<y.1) ->
  lU ops listed->(∀ i:Nat,i<head.length->(listed.getD i false=false ↔ ∃ x∈rem,x.1=i))->(∀ i:Nat,head.length<=i->listed.getD i false=false)->listed.size=ops.size->rem.length+tail.length<=AA->wpAnyIn (fw r) 0 P .any ops Q AA listed a w:=by
 have hsz:ops.size=head.length+tail.length:=by rw [hops];simp
 have hho:∀ j:Nat,j<head.length->head[j]? =ops[j]?:=fun j hj=>by rw [hops];simp [a0v hj]
 intro AA
 induction AA with
 | zero=>
  intro rem listed e γ D m L a w hN hF hL hS hrem hsrt hcl h1 h2 hls hf;have:rem=[]:=a0s (by omega)
  subst this;refine aFO hops hsh 0 0 listed a w (fun i hi=>?_) (by simpa using h2) hls (a1o _) (by omega) (hG e γ D m L a w hN hF hL hS)
  cases hb:listed.getD i false with
  | true=>rfl
  | false=>obtain⟨x,hx,_⟩:=(h1 i (by omega)).1 hb;cases hx
 | succ AA ih=>
  intro rem listed e γ D m L a w hN hF hL hS hrem hsrt hcl h1 h2 hls hf;by_cases hemp:rem=[]
  ·subst hemp;refine aFO hops hsh (AA+1) 0 listed a w (fun i hi=>?_) (by simpa using h2) hls (a1o _) (by simp at hf;omega) (hG e γ D m L a w hN hF hL hS)
   cases hb:listed.getD i false with
   | true=>rfl
   | false=>obtain⟨x,hx,_⟩:=(h1 i (by omega)).1 hb;cases hx
  ·obtain⟨x0,rem',rfl⟩:∃ x l,rem=x :: l:=by
    cases rem with
    | nil=>exact absurd rfl hemp
    | cons x l=>exact⟨x,l,rfl⟩
   have hx0:=hrem x0 (.head _);have hx0l:x0.1<head.length:=(a0z.1 hx0.1).1;have hun0:listed.getD x0.1 false=false:=(h1 x0.1 hx0l).2 ⟨x0, .head _,rfl⟩;refine⟨fun hnil=>?_,fun i hi=>?_⟩
   ·
     have:x0.1∈Region.ready .any ops listed:=by
      refine mem_ready.2 ⟨by rw [yQ (by omega)];exact hun0,x0.2.1,by rw [<- hho _ hx0l];exact hx0.1,fun e he hb=>?_⟩
      have hlt:=hsh.back x0.1 x0.2.1 (by rw [<- hho _ hx0l];exact hx0.1) e he hb
      cases hbb:listed.getD e.on false with
      | true=>rfl
      | false=>
       obtain⟨y,hy,hye⟩:=(h1 e.on (by omega)).1 hbb
       rcases a0R.1 hy with rfl | hy
       ·omega
       ·have:=(a1b.1 hsrt).1 y hy;omega
     rw [hnil]at this;cases this
   ·obtain⟨h3,o,ho,hdep⟩:=mem_ready.1 hi;have hlt:=(a0c.1 ho).1;rw [yQ (by omega)]at h3;have hih:i<head.length:=Nat.lt_of_not_le fun hge=>by
     have hr:=hsh.tail i x0.1 o x0.2.1 ho (by rw [<- hho _ hx0l];exact hx0.1) hge (by omega)
     have:=aBa hcl _ i x0.1 o ho hdep hr;rw [hun0]at this;cases this
    obtain⟨x,hx,rfl⟩:=(h1 i hih).1 h3;obtain⟨l1,l2,hsplit⟩:=List.append_of_mem hx;have hxr:=hrem x hx;have hxo:x.2.1=o:=by have:=hxr.1;rw [hho _ hih,ho]at this;exact(a1u this).symm
    have hl1:∀ y∈l1,y.1<x.1:=fun y hy=>by
     rw [hsplit,a1a]at hsrt;exact hsrt.2.2 y hy x (.head _)
    have hind:∀ z∈l1,IndN ops z x:=fun y hy=>by
     have hyr:=hrem y (by rw [hsplit];exact a0P _ hy)
     have hyl:y.1<head.length:=(a0z.1 hyr.1).1;rcases hsh.ind x.1 y.1 x.2.1 y.2.1 x.2.2 y.2.2 (by rw [<- hho _ hih];exact hxr.1) (by rw [<- hho _ hyl];exact hyr.1) hih (hl1 y hy) hxr.2.1 hyr.2.1 with h | h
     ·exact h
     ·have:=aBa hcl _ x.1 y.1 o ho hdep h;rw [(h1 y.1 hyl).2 ⟨y,by rw [hsplit];exact a0P _ hy,rfl⟩]at this;cases this
    have hN':NC P r ops G (x :: (l1++l2)) e γ D:=NC.front hind (by rw [hsplit]at hN;exact hN)
    obtain⟨hpre,hnext⟩:=hN';have hgo:∀ b m' L' a' w',FC n ds (fJ γ (x.2.1,x.2.2 e) b) m' a'->cD ((List.range q).map (eZ D (x.2.1,x.2.2 e) b)) m' L'->St β m' L' w'->wpAnyIn (fw r) 0 P .any ops Q AA (listed.setIfInBounds x.1 true) a' w':=fun b m' L' a' w' hF' hL' hS'=>by
     refine ih (l1++l2) _ _ _ _ m' L' a' w' (hnext b) hF' hL' hS' (fun y hy=>hrem y (by rw [hsplit];rcases a0O.1 hy with h | h <;> simp [h])) ?_ (fun k ok hok hl e he hb=>?_) (fun j hj=>?_) (fun j hj=>?_) (by simpa using hls) (by rw [hsplit]at hf;simp at hf ⊢;omega)
     ·rw [hsplit]at hsrt;exact hsrt.sublist (List.Sublist.append (List.Sublist.refl _) (List.sublist_cons_self _ _))
     ·rw [yX (by omega)]at hl ⊢;split
      ·rfl
      ·by_cases hki:x.1=k
       ·subst hki;rw [ho]at hok;cases hok;exact hdep e he hb
       ·rw [a1D hki]at hl;exact hcl k ok hok hl e he hb
     ·rw [yX (by omega)];by_cases hji:x.1=j
      ·subst hji;rw [a1E rfl];constructor
       ·intro h;cases h
       ·rintro⟨y,hy,hye⟩
        exfalso
        rw [hsplit,a1a,a1b]at hsrt;rcases a0O.1 hy with h | h
        ·have:=hl1 y h;omega
        ·have:=hsrt.2.1.1 y h;omega
      ·rw [a1D hji,h1 j hj,hsplit];constructor
       ·rintro⟨y,hy,hye⟩
        rcases a0O.1 hy with h | h
        ·exact⟨y,a0P _ h,hye⟩
        ·rcases a0R.1 h with rfl | h
         ·exact absurd hye hji
         ·exact⟨y,a0Q _ h,hye⟩
       ·rintro⟨y,hy,hye⟩
        exact⟨y,by rcases a0O.1 hy with h | h <;> simp [h],hye⟩
     ·rw [yX (by omega),a1D (by omega)];exact h2 j hj
    obtain⟨hdn,hlt,hw3⟩:=hxr.2.2 e;unfold wpOpIn;simp only [ho];rw [<- hxo];obtain⟨i,o',odf⟩:=x;dsimp only at hpre hgo hlt hw3 hdn ⊢
    generalize odf e=od at hpre hgo hlt hw3
    cases od with
    | skip=>
     rw [a1D (by rw [aI3 hF hpre];simp)];exact⟨fun _ _=>trivial,hgo default m L _ w (hF.put hdn rfl) hL hS⟩
    | op ps wr φ Δo=>
     obtain⟨p1,p2,p3⟩:=hpre;rw [a1E (wantedF hF p1)];simp only [OD.ps]at hlt hw3;obtain⟨rest,hperm,hrest⟩:=net_take (D:=D) hw3 hlt;obtain⟨L1,hp1,hL1⟩:=cD.perm (hperm.map D) hL;rw [a0L]at hL1;obtain⟨A,B,rfl,hA,hB⟩:=hL1.split;refine p2 β n ds m A B a w _ Q ⟨hF.size,hF.Ae,fun t φ ht=>?_⟩ hA (hS.perm hp1) fun b m' L' v w' hle hφ hL' hS'=>?_
     ·split at ht
      ·exact hF.get t φ ht
      ·cases ht
     ·have hB':=hB.mono hle;have htok:=hL'.append hB';have hperm2:((List.range q).map (eZ D (o', .op ps wr φ Δo) b)).Perm ((if (OD.op ps wr φ Δo).wr then Δo b else ps.map D)++rest.map D):=by
       cases wr with
       | false=>simp only [eZ,OD.wr];simpa using hperm.map D
       | true=>
        simp only [eZ,OD.wr,if_true];rw [<- net_put (D:=D) hw3 (p3 b) hrest];exact hperm.map _
      obtain⟨L2,hp2,hL2⟩:=cD.perm hperm2.symm htok;exact hgo b m' L2 _ w' ((hF.mono hle).put hdn hφ) hL2 (hS'.perm hp2)
end
open Go.SX
def gG:Tk:=⟨fun _ H=>H=[],fun _ h=>h⟩
def dOf (Δ:List Tk):Nat->Tk:=fun p=>(Δ[p]?).getD gG
def indB (ops:Array Oper) (x:Oper) (ux:List Nat × Bool) (y:Oper) (uy:List Nat × Bool):Bool:=
 (match x.dst with
  | some d=>!(y.looksAt ops).contains d && y.dst != some d
  | none=>true) &&
 (match y.dst with
  | some d=>!(x.looksAt ops).contains d
  | none=>true) && (!(ux.2 || uy.2) || ux.1.all fun p=>!uy.1.contains p)
abbrev Us:=List Nat × Bool × List Nat
def netB (ops:Array Oper) (h:Nat) (us:List Us):Bool:=
 (List.range ops.size).all fun i=>match ops[i]? with
  | none=>false
  | some o=>(o.after.all fun e=>!Region.binds .any e || Nat.blt e.on i) &&
   (List.range i).all fun j=>match ops[j]? with
    | none=>false
    | some oj=>if i<h then(match us[i]?,us[j]? with
     | some ui,some uj=>(indB ops oj (uj.1,uj.2.1) o (ui.1,ui.2.1) && !ui.2.2.contains j && !uj.2.2.contains i) || jM ops ops.size i j
     | _,_=>false) else jM ops ops.size i j
def jS (od:Env'->OD) (u:Us):Prop:=(∀ e,(od e).ps=u.1/\(od e).wr=u.2.1)/\∀ (e:Env') j b,j ∉ u.2.2->od (e.set j b)=od e
def dZ:List (Env'->OD)->List Us->Prop
 | [],us=>us=[]
 | od :: ods,us=>∃ u r,us=u :: r/\jS od u/\dZ ods r
theorem dZ.nil:dZ [] []:=by simp [dZ]
theorem dZ.cons {od:Env'->OD} {u:Us} {ods:List (Env'->OD)} {us:List Us} (h:jS od u) (k:dZ ods us):dZ (od :: ods) (u :: us):=⟨u,us,by simp,h,k⟩
theorem dZ.get:∀ {ods:List (Env'->OD)} {us:List Us},dZ ods us->∀ {i:Nat} {od:Env'->OD},ods[i]? =some od->∃ u,us[i]? =some u/\jS od u
 | od :: _,_,⟨u,r,e,h1,h2⟩,0,_,h=>by grind
 | _ :: _,_,⟨u,r,e,h1,h2⟩,i+1,_,h=>by
  obtain⟨u',h3,h4⟩:=dZ.get h2 (i:=i) (by simpa using h)
  grind
theorem fits0 {od:OD} {ps:List Nat} {wr:Bool} (h1:od.ps=ps) (h2:od.wr=wr):jS (fun _=>od) (ps,wr,[]):=by grind [jS]
theorem fits1 {od:Oc->OD} {ps:List Nat} {wr:Bool} {i:Nat} (h1:∀ a,(od a).ps=ps/\(od a).wr=wr):jS (fun e=>od (e i)) (ps,wr,[i]):=
 (by grind [yR,jS])
theorem fits2 {od:Oc->Oc->OD} {ps:List Nat} {wr:Bool} {i k:Nat} (h1:∀ a b,(od a b).ps=ps/\(od a b).wr=wr):jS (fun e=>od (e i) (e k)) (ps,wr,[i,k]):=
 (by grind [yR,jS])
theorem fits3 {od:Oc->Oc->Oc->OD} {ps:List Nat} {wr:Bool} {i k l:Nat} (h1:∀ a b c,(od a b c).ps=ps/\(od a b c).wr=wr):jS (fun e=>od (e i) (e k) (e l)) (ps,wr,[i,k,l]):=
 ⟨fun e=>h1 _ _ _,(by grind [yR])⟩
theorem ind_of {ops:Array Oper} {x y:Oper × OD} (h:indB ops x.1 (x.2.ps,x.2.wr) y.1 (y.2.ps,y.2.wr)=true):Ind ops x y:=by
 unfold indB at h
 simp only [a0g]at h
 obtain⟨⟨h1,h2⟩,h3⟩:=h
 refine⟨fun d hd=>?_,fun d hd=>?_,fun d hd=>?_,fun hw p hp=>?_⟩
 ·grind
 ·grind
 ·grind
 grind
theorem aLe {ops:Array Oper} {h:Nat} {ods:List (Env'->OD)} {us:List Us} (hu:dZ ods us) (hB:netB ops h us=true):aCm ops h ods:=by
 have key:∀ (i:Nat) (o:Oper),ops[i]? =some o->(o.after.all fun e=>!Region.binds .any e || Nat.blt e.on i)=true/\∀ (j:Nat) (oj:Oper),ops[j]? =some oj->j<i ->
  (if i<h then(match us[i]?,us[j]? with
   | some ui,some uj=>(indB ops oj (uj.1,uj.2.1) o (ui.1,ui.2.1) && !ui.2.2.contains j && !uj.2.2.contains i) || jM ops ops.size i j
   | _,_=>false) else jM ops ops.size i j)=true:=fun i o ho=>by
  have hlt:=(a0c.1 ho).1;have:=a0o.1 hB i (List.mem_range.2 hlt)
  grind
 refine⟨fun i o ho e he hb=>?_,fun i j oi oj hi hj hih hji=>?_,fun i j oi oj x y hi hj hih hji hx hy=>?_⟩
 ·have h2:=Array.all_eq_true'.1 (key i o ho).1 e he;rw [hb]at h2;simp only [a0k,Bool.false_or]at h2;simp only [Nat.blt,Nat.ble_eq]at h2;omega
 ·grind
 ·have h2:=(key i oi hi).2 j oj hj hji;rw [a1E hih]at h2;obtain⟨ui,h3,h5⟩:=hu.get hx;obtain⟨uj,h4,h6⟩:=hu.get hy;rw [h3,h4]at h2;simp only [Bool.or_eq_true,a0g,Bool.not_eq_true']at h2;refine h2.imp (fun h=>⟨by omega,fun e b=>h6.2 e _ b ?_,fun e b=>h5.2 e _ b ?_,fun e=>ind_of ?_⟩) id
  ·grind
  ·grind
  ·have e1:=h5.1 e;have e2:=h6.1 e
   grind
section
variable {P:Program} {r:Option Nat} {ops:Array Oper} {β:bL} {n:Nat} {ds:List Deferred} {Γ:Ctx} {Δ:List Tk} {o:Oper} {l:List NO} {e:Env'} {i:Nat} {od:Env'->OD} {G:Env'->Cf->(Nat->Tk)->Prop} {Q:Exit->Act->World->Prop} {tail:List Oper}
theorem aFi {Δ:List Tk}:(List.range Δ.length).map (dOf Δ)=Δ:=by
 apply a0t
 intro i
 rw [a0A]
 grind [dOf]
def NG (P:Program) (r:Option Nat) (ops:Array Oper) (β:bL) (n:Nat) (ds:List Deferred) (Q:Exit->Act->World->Prop) (tail:List Oper) (q:Nat) (_:Env') (γ:Cf) (D:Nat->Tk):Prop:=
 ∃ Γ Δ,γ=lk Γ/\D=dOf Δ/\Δ.length=q/\T β n ds Γ Δ (wpListIn (fw r) 0 P ops Q tail)
theorem N_done {q:Nat} (hq:Δ.length=q) (h:T β n ds Γ Δ (wpListIn (fw r) 0 P ops Q tail)):NC P r ops (NG P r ops β n ds Q tail q) [] e (lk Γ) (dOf Δ):=⟨Γ,Δ,rfl,rfl,hq,h⟩
theorem emps {m:Mem}:∀ k:Nat,cD (List.replicate k gG) m []
 | 0=>rfl
 | k+1=>⟨[],[],rfl,rfl,emps k⟩
def wfU (n q:Nat) (x:Oper × Us):Bool:=(match x.1.dst with | some t=>Nat.ble (t+1) n | none=>true) && x.2.1.all (fun p=>Nat.ble (p+1) q) && decide x.2.1.Nodup
def iI:Nat->List Oper->List (Env'->OD)->List NO
 | i,o :: l,od :: ods=>(i,o,od) :: iI (i+1) l ods
 | _,_,_=>[]
theorem aCG:∀ {l:List Oper} {ods:List (Env'->OD)} {k:Nat} {x:NO},x∈iI k l ods->∃ j,x.1=k+j/\l[j]? =some x.2.1/\ods[j]? =some x.2.2
 | [],_,_,_,h=>by simp [iI]at h
 | _ :: _,[],_,_,h=>by simp [iI]at h
 | o :: l,od :: ods,k,x,h=>by
  rcases a0R.1 h with rfl | h
  ·grind
  ·obtain⟨j,h1,h2,h3⟩:=aCG h;exact⟨j+1,by omega,by simpa using h2,by simpa using h3⟩
theorem aFa:∀ {l:List Oper} {ods:List (Env'->OD)} {k:Nat},(iI k l ods).Pairwise fun x y=>x.1<y.1
 | [],_,_=>by simp [iI]
 | _ :: _,[],_=>by simp [iI]
 | o :: l,od :: ods,k=>by
  refine a1b.2 ⟨fun y hy=>?_,aFa⟩
  grind [aCG]
theorem aHW:∀ {l:List Oper} {ods:List (Env'->OD)} {k j:Nat},l.length=ods.length->j<l.length->∃ x∈iI k l ods,x.1=k+j
 | o :: l,od :: ods,k,0,_,_=>⟨_, .head _,rfl⟩
 | o :: l,od :: ods,k,j+1,hl,h=>by
  obtain⟨x,h1,h2⟩:=aHW (l:=l) (ods:=ods) (k:=k+1) (j:=j) (by simpa using hl) (by simpa using h)
  exact⟨x, .tail _ h1,by omega⟩
theorem aHP:∀ {l:List Oper} {ods:List (Env'->OD)} {k:Nat},l.length=ods.length->(iI k l ods).length=l.length
 | [],_,_,_=>by simp [iI]
 | o :: l,[],_,h=>by simp at h
 | o :: l,od :: ods,k,h=>by simp [iI,aHP (l:=l) (ods:=ods) (k:=k+1) (by simpa using h)]
def env0:Env':=fun _=>default
theorem T_net {id:Nat} {lo:List Oper} (h:Nat) (ods:List (Env'->OD)) (us:List Us) (k q:Nat) (hm:P.follows .mixedOrders=true) (hu:dZ ods us) (hB:netB lo.toArray h us=true) (hle:(lo.take h).length=h) (hol:ods.length=h)
 (hwf:((lo.take h).zip us).all (wfU n q)=true) (hq:(Δ++List.replicate k gG).length=q)
 (hn:NC P r lo.toArray (NG P r lo.toArray β n ds Q (lo.drop h) q) (iI 0 (lo.take h) ods) env0 (lk Γ) (dOf (Δ++List.replicate k gG))):T β n ds Γ Δ ((Code.region id lo.toArray true).wpIn (fw r) 0 P Q):=fun m L a w x y z=>by
 refine wpIn_region_any hm ?_
 have hz:∀ i:Nat,(Array.replicate lo.toArray.size false).getD i false=false:=fun i=>by
  simp_all [Array.getD]
 have hlo:lo.toArray=(lo.take h++lo.drop h).toArray:=by grind
 have hlen:(lo.take h).length=ods.length:=by rw [hle,hol]
 refine net_run (head:=lo.take h) (tail:=lo.drop h) (ods:=ods) (q:=q) hlo hlen.symm (by grind [aLe]) (fun e γ D m L a w hG hF hL hS=>?_) lo.toArray.size (iI 0 (lo.take h) ods) _ env0 (lk Γ) (dOf (Δ++List.replicate k gG)) m L a _ hn
  ⟨x.size,x.Ae,x.get⟩ ?_ z.drawn (fun x hx=>?_) aFa (fun i o _ h=>?_) (fun i hi=>?_) (fun i _=>hz i) (by simp) ?_
 ·obtain⟨Γ',Δ',rfl,rfl,hq',h⟩:=hG;refine h m L a w ⟨hF.size,hF.Ae,hF.get⟩ ?_ hS
  grind [aFi]
 ·rw [<- hq,aFi];have:=y.append (emps k)
  grind
 ·obtain⟨j,h1,h2,h3⟩:=aCG hx;rw [a1n]at h1;rw [h1];refine⟨h2,h3,fun e=>?_⟩
  obtain⟨u,h4,h5⟩:=hu.get h3;have h6:=a0o.1 hwf (x.2.1,u) (a0V (List.getElem?_zip_eq_some.2 ⟨h2,h4⟩));simp only [wfU,a0g,a1C]at h6;have h7:=h5.1 e;refine⟨fun t ht=>?_,fun p hp=>?_,by rw [h7.1];exact h6.2⟩
  ·have:=h6.1.1;rw [ht]at this;exact a1j this
  ·rw [h7.1]at hp;exact a1j (a0o.1 h6.1.2 p hp)
 ·rw [hz i]at h;cases h
 ·refine⟨fun _=>?_,fun _=>hz i⟩
  obtain⟨x,h1,h2⟩:=aHW (l:=lo.take h) (ods:=ods) (k:=0) (j:=i) hlen hi
  grind
 ·rw [aHP hlen]
  grind
theorem lG {m:Mem} {a:Act} (hF:FC n ds (fun t=>if t∈o.op.operands.toList.filterMap (fun | .tmp t=>some t | _=>none)then lk Γ t else none) m a):Evs Γ m a o:=fun x hx ψ hψ=>by
 cases x with
 | tmp t=>
  have hin:t∈o.op.operands.toList.filterMap (fun | .tmp t=>some t | _=>none):=List.mem_filterMap.2 ⟨.tmp t,by simpa using hx,rfl⟩
  obtain⟨v,h1,h2⟩:=hF.get t ψ (by rw [a1E hin];exact hψ)
  simp_all [Act.eval]
 | const u=>simp only [evT,a1v]at hψ;subst hψ;rfl
 | global g=>simp only [evT,a1v]at hψ;subst hψ;rfl
 | func f=>simp only [evT,a1v]at hψ;subst hψ;rfl
theorem Stp_of {φ:AK} {Δr:List Tk} {f:Oc->List Tk} (h:OpT P Γ Δr o φ) (hf:∀ b,f b=Δr):Stp P r (lk Γ) o Δr (fun _=>φ) f:=fun β n ds m L R a w K Q hF hL hS hk=>by
 obtain⟨v,h2,h3⟩:=h.run β m L a w (lG hF) (by grind [St.drop]) hL
 have h1:o.semAt (fw r).round a.eval=execOp a.eval o:=Oper.semAt_eq _ _ _ fun c hc=>by have:=h.nd;rw [hc]at this;cases this
 refine⟨fun _ _=>a1F,?_⟩
 rw [h1,h2,Oper.uponIn_value]
 exact hk default m L v w (Mem.le_refl _) h3 (by rw [hf];exact hL) hS
theorem N_op {d:Nat} {ps:List Nat} {Δr:List Tk} {φ:AK} {f:Oc->List Tk} (hod:od e= .op ps false (fun _=>φ) f) (hfl:∀ b,(f b).length=ps.length) (hw:cN ops Γ o) (hp:ps.map (dOf Δ)=Δr) (hd:o.dst=some d) (h:OpT P Γ Δr o φ)
 (k:∀ b,NC P r ops G l (e.set i b) (lk ((d,φ) :: Γ)) (dOf Δ)):NC P r ops G ((i,o,od) :: l) e (lk Γ) (dOf Δ):=by
 refine⟨?_,fun b=>?_⟩
 ·simp only [hod];exact⟨hw,by grind [OD.wr,Stp_of],hfl⟩
 ·simp only [hod,fJ,eZ,hd];exact k b
theorem N_y {d:Nat} {φ:AK} {f:Oc->List Tk} (hod:od e= .op [] false (fun _=>φ) f) (hfl:∀ b,(f b).length=0) (hw:cN ops Γ o) (hd:o.dst=some d) (h:OpT P Γ [] o φ) (k:∀ b,NC P r ops G l (e.set i b) (lk ((d,φ) :: Γ)) (dOf Δ)):
 NC P r ops G ((i,o,od) :: l) e (lk Γ) (dOf Δ):=by grind [N_op]
theorem cV {d:Nat} (hod:od e= .skip) (hw:wC ops Γ o) (hd:o.dst=some d) (k:∀ b,NC P r ops G l (e.set i b) (lk ((d,fEq undef) :: Γ)) (dOf Δ)):NC P r ops G ((i,o,od) :: l) e (lk Γ) (dOf Δ):=by
 refine⟨?_,fun b=>?_⟩
 ·simp only [hod];exact hw
 ·simp only [hod,fJ,eZ,hd];exact k b
theorem aAo {p:Nat} {τ:Tk} (hp:p<Δ.length):kE (dOf Δ) [p] [τ]=dOf (Δ.set p τ):=by
 funext q
 simp only [kE,dOf,List.zip_cons_cons,List.zip_nil_left,List.lookup_cons,List.lookup_nil,a0B]
 grind
theorem aBy:kE (dOf Δ) [] []=dOf Δ:=by funext q;simp [kE]
theorem N_new {p d:Nat} {f:Nat->Value} {τ:Nat->Tk} {φ':Oc->AK} {Δ':Oc->List Tk} (hod:od e= .op [p] true φ' Δ') (hφ:∀ b,φ' b=fEq (f b.n)) (hτ:∀ b,Δ' b=[τ b.n]) (hw:cN ops Γ o) (hp:Δ[p]? =some gG) (hd:o.dst=some d) (h:OpN P Γ o f τ)
 (k:∀ b u,NC P r ops G l (e.set i ⟨b,u⟩) (lk ((d,fEq (f b)) :: Γ)) (dOf (Δ.set p (τ b)))):NC P r ops G ((i,o,od) :: l) e (lk Γ) (dOf Δ):=by
 refine⟨?_,fun b=>?_⟩
 ·simp only [hod];refine⟨hw,?_,fun b=>by rw [hτ];rfl⟩
  intro β n ds m L R a w K Q hF hL hS hk;have hL0:L=[]:=by
   obtain⟨H,R',rfl,h1,h2⟩:=hL;simp only [dOf,hp,a1p]at h1;have h1:H=[]:=h1;have h2:R'=[]:=h2;rw [h1,h2];rfl
  subst hL0;obtain⟨x,h2,h3⟩:=h.run β m a w (lG hF) (hS.drop (List.nil_sublist _));have h1:o.semAt (fw r).round a.eval=execOp a.eval o:=Oper.semAt_eq _ _ _ fun c hc=>by have:=h.nd;rw [hc]at this;cases this
  refine⟨fun _ _=>a1F,?_⟩
  rw [h1,h2,Oper.uponIn_value];exact hk ⟨w.heap.size,undef⟩ m [(w.heap.size,x)] _ _ (Mem.le_refl _) (by rw [hφ];rfl) (by simp only [OD.wr,if_true];rw [hτ];exact⟨[_],[],rfl,h3,rfl⟩) (hS.alloc x)
 ·have hlt:=(a0z.1 hp).1;simp only [hod,fJ,eZ,if_true,hd,hφ,hτ];rw [aAo hlt];exact k b.n b.v
theorem N_newF {d:Nat} {f:Nat->Value} {τ:Nat->Tk} {φ:AK} {Δ':Oc->List Tk} (hod:od e= .op [] true (fun _=>φ) Δ') (hτ:∀ b,Δ' b=[]) (hw:cN ops Γ o) (hd:o.dst=some d) (h:OpN P Γ o f τ) (hz:∀ b,Frz (τ b) φ (f b))
 (k:∀ b,NC P r ops G l (e.set i b) (lk ((d,φ) :: Γ)) (dOf Δ)):NC P r ops G ((i,o,od) :: l) e (lk Γ) (dOf Δ):=by
 refine⟨?_,fun b=>?_⟩
 ·simp only [hod];refine⟨hw,?_,fun b=>by rw [hτ];rfl⟩
  intro β n ds m L R a w K Q hF hL hS hk;have hL0:L=[]:=hL;subst hL0;obtain⟨x,h2,h3⟩:=h.run β m a w (lG hF) (by grind [St.drop])
  have h1:o.semAt (fw r).round a.eval=execOp a.eval o:=Oper.semAt_eq _ _ _ fun c hc=>by have:=h.nd;rw [hc]at this;cases this
  refine⟨fun _ _=>a1F,?_⟩
  rw [h1,h2,Oper.uponIn_value];obtain⟨m',g1,g2,g3⟩:=uO (H:=[(w.heap.size,x)]) (R:=R) (by simpa using hS.alloc x)
  exact hk default m' [] _ _ g1 (hz _ m _ h3 m' g1 g3) (by grind [cD]) g2
 ·simp only [hod,fJ,eZ,if_true,hd,hτ];rw [aBy];exact k b
theorem aP.all' {m:Mem} {a:Act} (he:Evs Γ m a o):∀ {xs:List Operand} {φs:List AK},aP Γ xs φs->(∀ x∈xs,x∈o.op.operands)->aX φs m (xs.map a.eval)
 | [],_,h,_=>by rw [h];rfl
 | x :: xs,_,⟨φ,r,e,h1,h2⟩,hm=>by rw [e];exact⟨_,_,rfl,he.get h1 (hm x (.head _)),aP.all' he h2 fun y hy=>hm y (.tail _ hy)⟩
theorem aD3 {g:Operand} {args:List Operand} {ts:Array TypeId} {f:FuncId} {first captured:Array Value} {φs ψs:List AK} {Φ:AK} {d:Nat} {Δ':Oc->List Tk} (hod:od e= .op [] true (fun _=>Φ) Δ') (hτ:∀ b,Δ' b=[]) (hw:cN ops Γ o) (ho:o.op= .call { callee:= .value g,args:=args.toArray,argTypes:=ts }) (hd:o.dst=some d)
 (hg:Has Γ g (fEq (.func (.func f) first captured))) (hargs:aP Γ args φs) (hall:first.toList.map fEq++φs++captured.toList.map fEq=ψs) (hf:Au P f) (hc:FnS P f ψs [] Φ (fun _=>[]))
 (k:∀ b,NC P r ops G l (e.set i b) (lk ((d,Φ) :: Γ)) (dOf Δ)):NC P r ops G ((i,o,od) :: l) e (lk Γ) (dOf Δ):=by
 refine⟨?_,fun b=>?_⟩
 ·simp only [hod];refine⟨hw,?_,fun b=>by rw [hτ];rfl⟩
  intro β n ds m L R a w K Q hF hL hS hk;have hL0:L=[]:=hL;subst hL0;have he:=lG hF;have hge:a.eval g=_:=he.get hg (by rw [ho];simp [Op.operands,Call.operands])
  have hall':aX ψs m (first.toList++args.map a.eval++captured.toList):=hall ▸ (((jG _).append (hargs.all' he (by rw [ho];intro x hx;simp [Op.operands,Call.operands,hx]))).append (jG _))
  refine oT (L:=[]) ho hge rfl hf (hc m [] _ hall' rfl) hS (fun m' L' v w' hle ⟨u,hv,h3,h4⟩ hS'=>?_) (by grind) (by grind)
  cases hv;have h4:L'=[]:=h4;subst h4;exact hk default m' [] v w' hle h3 (by grind) hS'
 ·simp only [hod,fJ,eZ,if_true,hd,hτ];rw [aBy];exact k b
end
open Go.SX
section
variable {P:Program} {β:bL} {n:Nat} {ds:List Deferred} {Γ:Ctx} {Δ:List Tk} {r:Option Nat} {Q Q':Exit->Act->World->Prop} {F:Act->World->Prop} {ops:Array Oper} {o:Oper} {rest:List Oper} {l:List NO} {e:Env'} {i:Nat} {od:Env'->OD} {G:Env'->Cf->(Nat->Tk)->Prop}
theorem aBk {i j:ByteArray}:(i.toList==j.toList)=decide (i=j):=by
 rw [a0h]
 simp only [beq_iff_eq,a1C,ByteArray.toList_eq]
 constructor
 ·intro h;cases i;cases j
  congr 1
  exact Array.toList_inj.1 h
 ·intro h;rw [h]
theorem o_eqlS {T U:TypeId} {x y:Operand} {i j:ByteArray} (ho:o.op= .binOp .eql T x y U) (hx:Has Γ x (gC i)) (hy:Has Γ y (gC j)):OpT P Γ [] o (aH (decide (i=j))):=
 iZ ho hx hy aAX fun w=>by
  simp [binOp,Op.stringOp,Sem.run,pure,aBk]
theorem o_neqS {T U:TypeId} {x y:Operand} {i j:ByteArray} (ho:o.op= .binOp .neq T x y U) (hx:Has Γ x (gC i)) (hy:Has Γ y (gC j)):OpT P Γ [] o (aH (decide (i≠j))):=
 iZ ho hx hy aAX fun w=>by
  simp [binOp,Op.stringOp,Sem.run,pure,aBk]
def slt (i j:ByteArray):Bool:=Op.bytesLess i.toList j.toList
def sle (i j:ByteArray):Bool:=slt i j || decide (i=j)
theorem o_lssS {T U:TypeId} {x y:Operand} {i j:ByteArray} (ho:o.op= .binOp .lss T x y U) (hx:Has Γ x (gC i)) (hy:Has Γ y (gC j)):OpT P Γ [] o (aH (slt i j)):=
 iZ ho hx hy aAX fun w=>by simp [binOp,Op.stringOp,Sem.run,pure,slt]
theorem o_leqS {T U:TypeId} {x y:Operand} {i j:ByteArray} (ho:o.op= .binOp .leq T x y U) (hx:Has Γ x (gC i)) (hy:Has Γ y (gC j)):OpT P Γ [] o (aH (sle i j)):=
 iZ ho hx hy aAX fun w=>by simp [binOp,Op.stringOp,Sem.run,pure,slt,sle,aBk]
theorem aJm {T:TypeId} {i j:Bool} (hT:gM P T .bool) (d:Nat) (w:World):(Op.equalIn (d+1) T (.bool i) (.bool j)).run P w= .ok (i==j) w:=by
 have h:(underlying T).run P w= .ok .bool w:=run_underlying hT w
 simp only [Op.equalIn,a1x,h,a1w]
 rfl
theorem aLk {T:TypeId} {i j:Bool} (hT:gM P T .bool) (w:World):(Op.equal T (.bool i) (.bool j)).run P w= .ok (i==j) w:=aJm hT 9999 w
theorem o_eqlB {T U:TypeId} {x y:Operand} {i j:Bool} (ho:o.op= .binOp .eql T x y U) (hx:Has Γ x (aH i)) (hy:Has Γ y (aH j)) (hT:gM P T .bool):OpT P Γ [] o (aH (i==j)):=
 iZ ho hx hy aIk fun w=>by simp [binOp,a1x,aLk hT,Sem.run,pure]
def sidx (s:ByteArray) (i:Int):Option Int:=if 0<=i then(s[i.toNat]?).map fun b=>(b.toNat:Int) else none
theorem aBw {T:TypeId} {x ix:Operand} {s:ByteArray} {kd:IntKind} {i z:Int} (ho:o.op= .index T x ix) (hx:Has Γ x (gC s)) (hi:Has Γ ix (bI kd i)) (hT:gM P T .string) (h:sidx s i=some z):OpT P Γ [] o (bI .u8 z):=
 eI (by rw [ho];rfl) fun β m a w he _=>by
  have h1:a.eval x=_:=he.get hx (by rw [ho];simp [Op.operands])
  have h2:a.eval ix=_:=he.get hi (by rw [ho];simp [Op.operands])
  unfold sidx at h;split at h
  ·rename_i hpos;cases hb:s[i.toNat]? with
   | none=>rw [hb]at h;cases h
   | some b=>
    rw [hb]at h;simp only [a1s,a1v]at h;subst h;exact⟨.int .u8 b.toNat,by simp [execOp,ho,h1,h2,Instr.index,asIntOf,a1x,run_underlying hT,Sem.run,pure,hpos,hb],rfl⟩
  ·cases h
def bY {α:Type} (Γ:Ctx) (t:Ty α):Nat->List (Nat × Operand)->List α->Prop
 | _,[],xs=>xs=[]
 | k,(i,x) :: ps,xs=>∃ φ y r,xs=y :: r/\i=k/\Has Γ x φ/\rT φ (t.An y)/\bY Γ t (k+1) ps r
theorem bY.nil {α:Type} {t:Ty α} {k:Nat}:bY Γ t k [] []:=by simp [bY]
theorem bY.cons {α:Type} {t:Ty α} {k i:Nat} {x:Operand} {φ:AK} {y:α} {ps:List (Nat × Operand)} {ys:List α} (hi:i=k) (h:Has Γ x φ) (hp:rT φ (t.An y)) (kk:bY Γ t (k+1) ps ys):bY Γ t k ((i,x) :: ps) (y :: ys):=⟨φ,y,ys,rfl,hi,h,hp,kk⟩
def yM {α:Type} (t:Ty α):Nat->List α->List (Nat × List AK)
 | _,[]=>[]
 | k,y :: ys=>(k,t.An y) :: yM t (k+1) ys
theorem bY.parts {α:Type} {t:Ty α}:∀ {ps:List (Nat × Operand)} {k:Nat} {ys:List α},bY Γ t k ps ys->bW Γ ps (yM t k ys)
 | [],_,_,h=>by rw [h];rfl
 | (i,x) :: ps,k,_,⟨φ,y,r,e,hi,h1,h2,h3⟩=>by rw [e,hi];exact⟨φ,_,_,rfl,h1,h2,bY.parts h3⟩
theorem aFx {α:Type} {t:Ty α}:∀ (ys:List α) (k:Nat) (A B:List AK),A.length=k*t.sz->B.length=ys.length*t.sz->oZ t.sz (A++B) (yM t k ys)=some (A++ys.flatMap t.An)
 | [],k,A,B,_,hB=>by
  have:B=[]:=by simp_all
  grind [oZ,yM]
 | y :: ys,k,A,B,hA,hB=>by
  simp only [a0G,a1g,Nat.one_mul]at hB;simp only [yM,oZ];rw [a1E ⟨t.len y,by grind⟩];have h1:(A++B).take (k*t.sz)=A:=by grind
  have h2:(A++B).drop (k*t.sz+t.sz)=B.drop t.sz:=aHQ hA;rw [h1,h2,aFx ys (k+1) (A++t.An y) (B.drop t.sz) (by grind [Ty.len]) (by grind)];simp
theorem eQ {α:Type} {t:Ty α} {xs:List α} {T e by' len:Nat} {parts:List (Nat × Operand)} (ho:o.op= .buildSlice T len parts.toArray) (hT:ElT P T e t.sz by') (hp:bY Γ t 0 parts xs) (hn:xs.length=len) (hs:Nat.ble (len*t.sz) 16777216=true) (hB:Nat.ble len 1000000000=true):
 OpN P Γ o (fun b=> .slice (some ⟨b,0,none⟩) len len) (fun b=>aC (.slice (some ⟨b,0,none⟩) len len) e t xs):=
 aH9 ho hT hp.parts (by
  have:=aFx (t:=t) xs 0 [] (List.replicate (len*t.sz) dP) (by simp) (by rw [List.length_replicate,hn])
  simpa using this) hn hs hB
theorem nO {T T':TypeId} {x y:Operand} {b k p:Nat} {φs φs':List AK} {φ:AK} {φ0:Oc->AK} {Δ':Oc->List Tk} (hod:od e= .op [p] true φ0 Δ') (h0:∀ c,φ0 c=dP) (hτ:∀ c,Δ' c=[aA b T' φs']) (hw:cN ops Γ o) (ho:o.op= .store T x y) (hd:o.dst=none) (hp:Δ[p]? =some (aA b T' φs)) (hx:Has Γ x (fEq (.pointer (some ⟨b,k,none⟩)))) (hy:Has Γ y φ) (hl:eJ φ)
 (hT:hO P T 1) (hk:Nat.ble (k+1) φs.length=true) (hs:φs.set k φ=φs') (kk:∀ c,NC P r ops G l (e.set i c) (lk Γ) (dOf (Δ.set p (aA b T' φs')))):NC P r ops G ((i,o,od) :: l) e (lk Γ) (dOf Δ):=by
 refine⟨?_,fun b'=>?_⟩
 ·simp only [hod];refine⟨hw,?_,fun b=>by rw [hτ];rfl⟩
  intro β n ds m L R a w K Q hF hL hS hkk;simp only [a0N,List.map_nil,dOf,hp,a1p]at hL;obtain⟨cs,R',hLe,h1,h2⟩:=vU hL;have h2:R'=[]:=h2;subst h2;subst hLe;have he:=lG hF;have hlt:k<cs.length:=by rw [h1.length];exact a1j hk
  have hv:=he.get hy (by rw [ho];simp [Op.operands])
  have hxe:a.eval x=_:=he.get hx (by rw [ho];simp [Op.operands])
  have hnd:gN o.op=false:=by rw [ho];rfl
  have h3:o.semAt (fw r).round a.eval=execOp a.eval o:=Oper.semAt_eq _ _ _ fun c hc=>by rw [hc]at hnd;cases hnd
  refine⟨fun _ _=>a1F,?_⟩
  unfold hO lS at hT;simp only [a1r]at hT;obtain⟨i,hi,h4⟩:=hT;have hk0:([(b,Obj.cells cs.toArray T' (0,0))]++R)[0]? =some (b, .cells cs.toArray T' (0,0)):=rfl;have hrun:=aFo (P:=P) (T:=T) (p:=⟨b,k,none⟩) (v:=a.eval y) hi h4 (hl m _ hv) (hS.own_cell hk0 rfl rfl (v:=cs[k]) (by simp [hlt])) (hS.unfrozen (p:=⟨b,k,none⟩) hk0)
  have e:(execOp a.eval o).run P w= .ok .skip (w.setCell ⟨b,k,none⟩ (a.eval y)):=by
   simp [execOp,ho,hxe,Instr.storeAt,Instr.sureAddr,a1x,hrun,Sem.run,pure]
  rw [h3,e,Oper.uponIn_skip];have hS':=hS.setCell (p:=⟨b,k,none⟩) hk0 rfl (a.eval y);exact hkk default m [(b, .cells (cs.set k (a.eval y)).toArray T' (0,0))] undef _ (Mem.le_refl _) (by rw [h0];trivial) (by simp only [OD.wr,if_true];rw [hτ];exact⟨[_],[],rfl,⟨_,hs ▸ h1.set hv,rfl⟩,rfl⟩) (by simpa using hS')
 ·have hlt:=(a0z.1 hp).1;simp only [hod,fJ,eZ,if_true,hτ];rw [aAo hlt,hd];exact kk b'
theorem mS {T T':TypeId} {x y:Operand} {b k p sz:Nat} {φs φs' ψs:List AK} {φ0:Oc->AK} {Δ':Oc->List Tk} (hod:od e= .op [p] true φ0 Δ') (h0:∀ c,φ0 c=dP) (hτ:∀ c,Δ' c=[aA b T' φs']) (hw:cN ops Γ o) (ho:o.op= .store T x y) (hd:o.dst=none) (hp:Δ[p]? =some (aA b T' φs)) (hx:Has Γ x (fEq (.pointer (some ⟨b,k,none⟩)))) (hy:Has Γ y (eC ψs)) (hl:∀ φ∈ψs,eJ φ)
 (hT:hO P T sz) (hz:ψs.length=sz) (hk:Nat.ble (k+sz) φs.length=true) (hs:φs.take k++ψs++φs.drop (k+sz)=φs') (kk:∀ c,NC P r ops G l (e.set i c) (lk Γ) (dOf (Δ.set p (aA b T' φs')))):NC P r ops G ((i,o,od) :: l) e (lk Γ) (dOf Δ):=by
 refine⟨?_,fun b'=>?_⟩
 ·simp only [hod];refine⟨hw,?_,fun b=>by rw [hτ];rfl⟩
  intro β n ds m L R a w K Q hF hL hS hkk;simp only [a0N,List.map_nil,dOf,hp,a1p]at hL;obtain⟨cs,R',hLe,h1,h2⟩:=vU hL;have h2:R'=[]:=h2;subst h2;subst hLe;have he:=lG hF;have hle:k+sz<=cs.length:=by rw [h1.length];exact a1j hk
  obtain⟨vs,hv,hvs⟩:=he.get hy (by rw [ho];simp [Op.operands])
  have hxe:a.eval x=_:=he.get hx (by rw [ho];simp [Op.operands])
  have hnd:gN o.op=false:=by rw [ho];rfl
  have h3:o.semAt (fw r).round a.eval=execOp a.eval o:=Oper.semAt_eq _ _ _ fun c hc=>by rw [hc]at hnd;cases hnd
  refine⟨fun _ _=>a1F,?_⟩
  unfold hO lS at hT;simp only [a1r]at hT;obtain⟨i,hi,h4⟩:=hT;have hk0:([(b,Obj.cells cs.toArray T' (0,0))]++R)[0]? =some (b, .cells cs.toArray T' (0,0)):=rfl;have hlen:vs.length=sz:=by rw [hvs.length,hz]
  obtain⟨w',hr,hSt⟩:=aAY (P:=P) (T:=T') vs k cs.toArray _ w hS hk0 (hvs.cells hl) (by simp;omega)
  have hr':(storeCells ⟨b,k,none⟩ vs).run P w= .ok () w':=by
   rw [<- hr];exact congrArg (fun s:Sem Unit=>s.run P w) (cO.shift vs 0 k)
  have e:(execOp a.eval o).run P w= .ok .skip w':=by
   simp [execOp,ho,hxe,hv,Instr.storeAt,Instr.sureAddr,storeVar,run_sizeOf hi,h4,Value.cells,hlen,hr',a1x,Sem.run,pure]
  rw [h3,e,Oper.uponIn_skip];exact hkk default m [(b, .cells (cs.take k++vs++cs.drop (k+sz)).toArray T' (0,0))] undef _ (Mem.le_refl _) (by rw [h0];trivial) (by simp only [OD.wr,if_true];rw [hτ];exact⟨[_],[],rfl,⟨_,hs ▸ ((h1.take k).append hvs).append (h1.drop (k+sz)),rfl⟩,rfl⟩) (by simpa [hlen] using hSt)
 ·have hlt:=(a0z.1 hp).1;simp only [hod,fJ,eZ,if_true,hτ];rw [aAo hlt,hd];exact kk b'
theorem mJ {α:Type} {t:Ty α} {ty et:TypeId} {x y:Operand} {v:Value} {xs:List α} {es j k p:Nat} {z z':α} {φ:AK} {φ0:Oc->AK} {Δ':Oc->List Tk} (hod:od e= .op [p] true φ0 Δ') (h0:∀ c,φ0 c=dP) (hτ:∀ c,Δ' c=[aC v et t (xs.set j z')]) (hw:cN ops Γ o) (ho:o.op= .store ty x y) (hd:o.dst=none) (hp:Δ[p]? =some (aC v et t xs)) (hes:es=t.sz) (hx:Has Γ x (mR v es j k)) (hy:Has Γ y φ) (hl:eJ φ)
 (hT:hO P ty 1) (hz:xs[j]? =some z) (hk:Nat.ble (k+1) t.sz=true) (hs:(t.An z).set k φ=t.An z') (kk:∀ c,NC P r ops G l (e.set i c) (lk Γ) (dOf (Δ.set p (aC v et t (xs.set j z'))))):NC P r ops G ((i,o,od) :: l) e (lk Γ) (dOf Δ):=by
 refine⟨?_,fun b'=>?_⟩
 ·simp only [hod];refine⟨hw,?_,fun b=>by rw [hτ];rfl⟩
  intro β n ds m L R a w K Q hF hL hS hkk;simp only [a0N,List.map_nil,dOf,hp,a1p]at hL;have he:=lG hF;obtain⟨cs,H,R',rfl,h1,hB,h2,h4⟩:=vR hL;have h4:R'=[]:=h4;subst h4;rw [a0p]at hS hL;subst hes;obtain⟨b,len,cap,hv,hxe⟩:=he.get hx (by rw [ho];simp [Op.operands])
  have hye:=he.get hy (by rw [ho];simp [Op.operands])
  have hk:=a1j hk;have hlt:=(a0z.1 hz).1;have hcl:cs.length=xs.length*t.sz:=by rw [h2.length,lC]
  have hmul:(j+1)*t.sz<=xs.length*t.sz:=a1m _ hlt;rw [a1g,Nat.one_mul]at hmul;obtain⟨w',H',hr,hS',hR'⟩:=uK (P:=P) (vs:=[a.eval y]) (off:=j*t.sz+k) hS h1 hv (by simp;omega) (fun u hu=>by simp at hu;subst hu;exact hl m _ hye)
  have hnd:gN o.op=false:=by rw [ho];rfl
  have h3:o.semAt (fw r).round a.eval=execOp a.eval o:=by grind [Oper.semAt_eq]
  refine⟨fun _ _=>a1F,?_⟩
  unfold hO lS at hT;simp only [a1r]at hT;obtain⟨inf,hi,h6⟩:=hT;have e:(execOp a.eval o).run P w= .ok .skip w':=by
   simp [execOp,ho,hxe,Instr.storeAt,Instr.sureAddr,storeVar,run_sizeOf hi,h6,(hl m _ hye).cells,hr,a1x,Sem.run,pure]
  rw [h3,e,Oper.uponIn_skip];refine hkk default m H' undef w' (Mem.le_refl _) (by rw [h0];trivial) ?_ hS'
  simp only [OD.wr,if_true];rw [hτ];exact⟨H',[],by simp,⟨_,by rw [a0K];exact hR',by rw [a0K];exact hB,aFr h2 hz hlt hmul hcl hk hye hs⟩,rfl⟩
 ·have hlt:=(a0z.1 hp).1;simp only [hod,fJ,eZ,if_true,hτ];rw [aAo hlt,hd];exact kk b'
def tEx (f:Value->List Tk):Tk:=⟨fun m H=>∃ v,cD (f v) m H,(by grind [cD.mono])⟩
theorem gY {f:Value->List Tk} (h:∀ v,T β n ds Γ (f v++Δ) F):T β n ds Γ (tEx f :: Δ) F:=fun m L a w x ⟨H,R,e,⟨v,h1⟩,h2⟩ z=>h v m L a w x (e ▸ h1.append h2) z
theorem gZ {f:Value->List Tk} (v:Value) (h:T β n ds Γ (tEx f :: Δ) F):T β n ds Γ (f v++Δ) F:=fun m L a w x y z=>by
 obtain⟨A,B,e,h1,h2⟩:=y.split
 exact h m L a w x ⟨A,B,e,⟨v,h1⟩,h2⟩ z
theorem T_blkE {b:Nat} {ty:TypeId} {φs ψs:List AK} (he:aK φs ψs) (h:T β n ds Γ (aA b ty ψs :: Δ) F):T β n ds Γ (aA b ty φs :: Δ) F:=fun m L a w x y z=>by
 obtain⟨H,R,e,⟨cs,h1,h2⟩,h3⟩:=y
 exact h m L a w x ⟨H,R,e,⟨cs,he.all h1,h2⟩,h3⟩ z
theorem lN {φ ψ χ:AK} {v:Value} (s:Nat) (hs:lk Γ s=some ψ) (hh:∀ m u,φ.p m v->ψ.p m u->χ.p m u) (k:T β n ds ((s,χ) :: Γ) (xO φ v :: Δ) F):T β n ds Γ (xO φ v :: Δ) F:=fun m L a w x y z=>by
 obtain⟨H,R,rfl,⟨rfl,h1⟩,h2⟩:=y
 refine k m _ a w ⟨x.size,x.Ae,fun t ψ' ht=>?_⟩ ⟨[],R,rfl,⟨rfl,h1⟩,h2⟩ z
 rcases sK ht with⟨rfl,rfl⟩ | ⟨_,ht⟩
 ·grind [FT.get]
 ·exact x.get t ψ' ht
theorem set_pure {φ:AK} {v:Value} {φs φs':List AK} {i:Nat} {m:Mem} {cs:List Value} (hi:φs[i]? =some (fEq v)) (hs:φs.set i φ=φs') (hv:φ.p m v) (h:aX φs m cs):aX φs' m cs:=by
 obtain⟨c,h5,h6⟩:=h.get hi
 cases h6
 have:=h.set (k:=i) hv
 rw [hs]at this
 have e:cs.set i v=cs:=by
  apply a0t;intro j;rw [a0B]
  split
  ·subst_vars;split
   ·exact h5.symm
   ·have:=(a0z.1 h5).1;omega
  ·rfl
 rwa [e]at this
theorem lA {φ:AK} {v:Value} {φs φs':List AK} {i:Nat} (hi:φs[i]? =some (fEq v)) (hs:φs.set i φ=φs'):∀ m u,φ.p m v->(eC φs).p m u->(eC φs').p m u:=fun m u hv hu=>by
 obtain⟨cs,h1,h2⟩:=hu
 exact⟨cs,h1,set_pure hi hs hv h2⟩
theorem leaf_row {α:Type} {t:Ty α} {v:Value} {e:TypeId} {xs:List α} {m:Mem} {H:Ak} (h:(aC v e t xs).p m H):eH v:=by
 obtain⟨cs,h1,_⟩:=h
 exact h1.isCell
theorem aJx {α:Type} {t:Ty α} {v:Value} {e:TypeId} {xs:List α} (i:Nat) (hi:Δ[i]? =some (aC v e t xs)) (k:eH v->T β n ds Γ Δ F):T β n ds Γ Δ F:=fun m L a w x y z=>by
 obtain⟨Hs,hl,hf,hg⟩:=y.heaps
 have hlt:=(a0z.1 hi).1
 have:=hg i _ (Hs[i]'(by omega)) hi (by simp [hl,hlt])
 exact k (leaf_row this) m L a w x y z
theorem T_outCS {fn:Func} {Φ:AK} {Δ':List Tk} {t b sz:Nat} {ty ty':TypeId} {φs:List AK} (hr:fn.results=#[.cell t ty]) (hT:kO P ty sz) (hz:φs.length=sz) (hv:gX Γ t (fEq (ptr b))) (he:Ent (eC φs) Φ) (hd:Δ=aA b ty' φs :: Δ'):T β n [] Γ Δ (bodyPost P fn (fX β Φ (fun _=>Δ')) .ret):=fun m L a w hF hL hS=>by
 subst hd
 obtain⟨χ,h1,h2⟩:=hv
 obtain⟨v,h3,h4⟩:=hF.get t χ h1
 have h5:v=ptr b:=h2 m v h4
 subst h5
 obtain⟨cs,R,rfl,h6,h7⟩:=vU hL
 have hlen:cs.length=sz:=by rw [h6.length,hz]
 have hc:∀ (j:Nat) c,cs[j]? =some c->w.cell? (Addr.add ⟨b,0,none⟩ j)=some c:=fun j c hj=>by
  rw [aBr];exact hS.own_cell (k:=0) (b:=b) (c:=cs.toArray) (T:=ty') (fz:=(0,0)) rfl rfl rfl (by simpa using hj)
 refine⟨hF.Ae, .agg cs.toArray,?_,m,R,(by grind [St.drop]), .agg cs.toArray,rfl,he m _ ⟨cs,rfl,h6⟩,h7⟩
 have h8:=SX.run_loadCellsFrom (P:=P) (w:=w) (p:=⟨b,0,none⟩) cs 0 #[] (fun j v hj=>by simpa using hc j v hj)
 have:(loadVar ty ⟨b,0,none⟩).run P w= .ok (.agg cs.toArray) w:=by
  rw [hlen]at h8;simp [loadVar,a1x,aCA hT,aDT hT,loadCells,Sem.run,pure,h8]
 simp [results,hr,a0a,h3,a1x,Sem.run,pure,ptr,asAddr]
 rw [this]
 rfl
end
open Go.SX
def cY (f:FuncId) (φs:List AK):AK:=⟨fun m v=>∃ cs:List Value,v= .func (.func f) #[] cs.toArray/\aX φs m cs,(by grind [aX.mono])⟩
def fFn (P:Program) {α γ:Type} (ρ:α->List AK) (ret:γ->AK) (S:α->Option γ):AK:=
 ⟨fun m v=>∃ f,∃ cs:List Value,v= .func (.func f) #[] cs.toArray/\Au P f/\∀ x r,S x=some r->∀ m',Mem.le m m'->∀ vs,aX (ρ x) m' vs->FnX P f (vs++cs) m' [] (fun m'' L' e=>∃ v,e= .returned v/\(ret r).p m'' v/\L'=[]),
  (by grind [Mem.le])⟩
theorem aDG {P:Program} {α γ:Type} {ρ:α->List AK} {ret:γ->AK} {S:α->Option γ}:eJ (fFn P ρ ret S):=fun _ _ ⟨_,_,h,_⟩=>by rw [h];trivial
theorem aGQ {f:FuncId} {φs:List AK}:eJ (cY f φs):=fun _ _ ⟨_,h,_⟩=>by rw [h];trivial
def tFn (P:Program) {α γ:Type} (ρ:α->List AK) (ret:γ->AK):Ty (α->Option γ):=⟨1,fun S=>[fFn P ρ ret S],fun _=>rfl,(by grind [aDG])⟩
theorem ent_fn {P:Program} {α γ:Type} {ρ:α->List AK} {ret:γ->AK} {S:α->Option γ} {f:FuncId} {φs:List AK} (hf:Au P f) (h:∀ x r,S x=some r->FnS P f (ρ x++φs) [] (ret r) (fun _=>[])):Ent (cY f φs) (fFn P ρ ret S):=fun m v hv=>by
 obtain⟨cs,h1,h2⟩:=hv
 exact⟨f,cs,h1,hf,fun x r hx m' hle vs hvs=>h x r hx m' [] _ (hvs.append (h2.mono hle)) rfl⟩
theorem aCr {P:Program} {α γ:Type} {ρ:α->List AK} {ret:γ->AK} {S:α->Option γ} {f:FuncId} (hf:Au P f) (h:∀ x r,S x=some r->FnS P f (ρ x) [] (ret r) (fun _=>[])):Ent (fEq (.func (.func f) #[] #[])) (fFn P ρ ret S):=fun m v hv=>by
 have hv:v= .func (.func f) #[] #[]:=hv
 exact⟨f,[],hv,hf,fun x r hx m' hle vs hvs=>by rw [a0p];exact h x r hx m' [] _ hvs rfl⟩
section
variable {P:Program} {β:bL} {n:Nat} {ds:List Deferred} {Γ:Ctx} {Δ:List Tk} {r:Option Nat} {Q Q':Exit->Act->World->Prop} {F:Act->World->Prop} {ops:Array Oper} {o:Oper} {rest:List Oper} {l:List NO} {e:Env'} {i:Nat} {od:Env'->OD} {G:Env'->Cf->(Nat->Tk)->Prop}
theorem oA {f:FuncId} {captured:List Operand} {φs:List AK} (ho:o.op= .makeFunc (.func f) #[] captured.toArray) (hc:aP Γ captured φs):OpT P Γ [] o (cY f φs):=
 eI (by rw [ho];rfl) fun β m a w he _=>by
  have h2:=hc.all' he (by grind [Op.operands])
  exact⟨.func (.func f) #[] (captured.map a.eval).toArray,by simp [execOp,ho,Instr.makeFunc,a1x,Sem.run,pure],_,rfl,h2⟩
theorem jP {g:Operand} {args:List Operand} {ts:Array TypeId} {f:FuncId} {χs φs ψs:List AK} {Δi Δr Δo:List Tk} {Φ:AK} {d:Option Nat} (hw:cN ops Γ o) (ho:o.op= .call { callee:= .value g,args:=args.toArray,argTypes:=ts }) (hd:o.dst=d)
 (hn:dstOk d n=true) (hg:Has Γ g (cY f χs)) (hargs:aP Γ args φs) (hall:φs++χs=ψs) (hf:Au P f) (hc:FnS P f ψs Δi Φ (fun _=>Δo)) (hΔ:Δ=Δi++Δr)
 (k:T β n ds (putG d Φ Γ) (Δo++Δr) (wpListIn (fw r) 0 P ops Q rest)):T β n ds Γ Δ (wpListIn (fw r) 0 P ops Q (o :: rest)):=fun m L a w hF hL hS=>by
 subst hΔ hall
 obtain⟨A,B,rfl,h1,h2⟩:=hL.split
 obtain⟨cs,hge,hcs⟩:=hF.has hg
 simp only [wpListIn,hw.wanted hF,if_true]
 have hall:=(hargs.all hF).append hcs
 refine oT (first:=#[]) (captured:=cs.toArray) (vs:=args.map a.eval++cs) ho hge (by simp) hf (hc m A _ hall h1) hS (fun m' L' v w' hle ⟨u,he,h3,h4⟩ hS'=>?_) (by grind) (by grind)
 cases he
 refine k m' _ _ _ ?_ (h4.append (h2.mono hle)) hS'
 subst hd
 cases hdd:o.dst with
 | none=>exact hF.mono hle
 | some t=>rw [hdd]at hn;exact(hF.mono hle).put (a1j hn) h3
theorem yS {α γ:Type} {ρ:α->List AK} {ret:γ->AK} {S:α->Option γ} {g:Operand} {args:List Operand} {ts:Array TypeId} {d:Option Nat} (x:α) {y:γ} (hw:cN ops Γ o) (ho:o.op= .call { callee:= .value g,args:=args.toArray,argTypes:=ts }) (hd:o.dst=d)
 (hn:dstOk d n=true) (hg:Has Γ g (fFn P ρ ret S)) (hargs:aP Γ args (ρ x)) (h:S x=some y)
 (k:T β n ds (putG d (ret y) Γ) Δ (wpListIn (fw r) 0 P ops Q rest)):T β n ds Γ Δ (wpListIn (fw r) 0 P ops Q (o :: rest)):=fun m L a w hF hL hS=>by
 obtain⟨f,cs,hge,hf,hc⟩:=hF.has hg
 simp only [wpListIn,hw.wanted hF,if_true]
 refine oT (L:=[]) (R:=L) (first:=#[]) (captured:=cs.toArray) (vs:=args.map a.eval++cs) ho hge (by simp) hf (hc x y h m (Mem.le_refl _) _ (hargs.all hF)) hS (fun m' L' v w' hle ⟨u,he,h3,h4⟩ hS'=>?_) (by grind) (by grind)
 cases he
 subst h4
 refine k m' _ _ _ ?_ (hL.mono hle) hS'
 subst hd
 cases hdd:o.dst with
 | none=>exact hF.mono hle
 | some t=>rw [hdd]at hn;exact(hF.mono hle).put (a1j hn) h3
end
open Go.SX
def fNil {α:Type} (xs:List α):AK:=⟨fun _ v=>∃ b:Bool,v= .bool b/\(b=true->xs=[]),fun _ h=>h⟩
section
variable {P:Program} {β:bL} {n:Nat} {ds:List Deferred} {Γ:Ctx} {Δ:List Tk} {r:Option Nat} {Q:Exit->Act->World->Prop} {o:Oper}
theorem aJ8 {T e:TypeId} {a:Option Addr} {l c:Nat} (hT:gM P T (.slice e)) (d:Nat) (w:World):(Op.equalIn (d+1) T (.slice a l c) (.slice none 0 0)).run P w= .ok a.isNone w:=by
 have h:(underlying T).run P w= .ok (.slice e) w:=run_underlying hT w
 simp only [Op.equalIn,a1x,h,a1w]
 cases a <;> rfl
theorem aIi {T e:TypeId} {a:Option Addr} {l c:Nat} (hT:gM P T (.slice e)) (w:World):(Op.equal T (.slice a l c) (.slice none 0 0)).run P w= .ok a.isNone w:=aJ8 hT 9999 w
theorem aAW {α:Type} {t:Ty α} {T U e:TypeId} {x:Operand} {xs:List α} (ho:o.op= .binOp .eql T x (.const (.slice none 0 0)) U) (hx:Has Γ x (fSl t xs)) (hT:gM P T (.slice e)):OpT P Γ [] o (fNil xs):=
 eI (by rw [ho];rfl) fun β m a w he _=>by
  obtain⟨q,⟨b,cap,h1,_,hq⟩,_,h3⟩:=he.get hx (by rw [ho];simp [Op.operands])
  refine⟨.bool b.isNone,?_,b.isNone,rfl,fun hb=>?_⟩
  ·simp only [execOp,ho,h1];have h2:a.eval (.const (.slice none 0 0))= .slice none 0 0:=rfl;rw [h2,a1x,a1x];simp [eqGuard,binOp,a1x,aIi hT,Sem.run,pure]
  ·cases hb':b with
   | some a=>rw [hb']at hb;cases hb
   | none=>
    cases xs with
    | nil=>rfl
    | cons y ys=>
     obtain⟨p,hp,_⟩:=hq 0 (Nat.succ_pos _);rw [hb']at hp;cases hp
theorem aBV {α:Type} {xs:List α} {c:Operand} {x y:Code} (hc:Has Γ c (fNil xs)) (ht:xs=[]->T β n ds Γ Δ (x.wpIn (fw r) 0 P Q)) (hf:T β n ds Γ Δ (y.wpIn (fw r) 0 P Q)):
 T β n ds Γ Δ ((Code.cond c x y).wpIn (fw r) 0 P Q):=fun m L a w hF hL hS=>by
 obtain⟨b,h1,h2⟩:=hF.has hc
 exact wpIn_cond_split (t:=b) h1 (fun e=>ht (h2 e) m L a w hF hL hS) (fun e=>hf m L a w hF hL hS)
end
open Go.SX
def FnE (P:Program) (f:FuncId) (args:List AK) (Δ:List Tk) {α:Type} (r:α ⊕ Value) (Φ:α->AK) (Δ':α->List Tk):Prop:=
 match r with
 | .inl x=>FnS P f args Δ (Φ x) (fun _=>Δ' x)
 | .inr v=>FnP P f args Δ [{ v:=v,recovered:=false }]
def PostE (β:bL) {α:Type} (r:α ⊕ Value) (Φ:α->AK) (Δ':α->List Tk):Ending->World->Prop:=
 match r with
 | .inl x=>fX β (Φ x) (fun _=>Δ' x)
 | .inr v=>PostP β [{ v:=v,recovered:=false }]
section
variable {P:Program} {β:bL} {n:Nat} {ds:List Deferred} {Γ:Ctx} {Δ:List Tk} {r:Option Nat} {Q:Exit->Act->World->Prop} {ops:Array Oper} {o:Oper} {rest:List Oper}
theorem FnE.s {f:FuncId} {args:List AK} {α:Type} {x:α} {Φ:α->AK} {Δ':α->List Tk} (h:FnE P f args Δ (.inl x) Φ Δ'):FnS P f args Δ (Φ x) (fun _=>Δ' x):=h
theorem FnE.pan {f:FuncId} {args:List AK} {α:Type} {v:Value} {Φ:α->AK} {Δ':α->List Tk} (h:FnE P f args Δ (.inr v) Φ Δ'):FnP P f args Δ [{ v:=v,recovered:=false }]:=h
theorem rF {f:FuncId} {fn:Func} {c:Code} {N:Nat} {args:List AK} {α:Type} {y:α ⊕ Value} {Φ:α->AK} {Δ':α->List Tk} (hf:P.funcs[f]? =some fn) (hb:fn.body=some c) (hN:fn.ntmps=N) (hle:Nat.ble args.length N=true)
 (k:∀ β,T β N [] (mD args 0) Δ (c.wpIn (fw none) 0 P (bodyPost P fn (PostE β y Φ Δ')))):FnE P f args Δ y Φ Δ':=by
 cases y with
 | inl x=>exact bB hf hb hN hle k
 | inr v=>exact FnP_of hf hb hN hle k
theorem pR {fn:Func} {e:Exit} {α:Type} {x:α} {Φ:α->AK} {Δ':α->List Tk} (h:T β n [] Γ Δ (bodyPost P fn (fX β (Φ x) (fun _=>Δ' x)) e)):T β n [] Γ Δ (bodyPost P fn (PostE β (.inl x) Φ Δ') e):=h
theorem cF {fn:Func} {α:Type} {v:Value} {Φ:α->AK} {Δ':α->List Tk}:T β n [] Γ Δ (bodyPost P fn (PostE β (.inr v) Φ Δ') (.panic [{ v:=v,recovered:=false }])):=T_outP
theorem aBG {g:Operand} {args:List Operand} {ts:Array TypeId} {f:FuncId} {χs φs ψs:List AK} {Δi Δr:List Tk} {c:List PanicEntry} (hw:cN ops Γ o) (ho:o.op= .call { callee:= .value g,args:=args.toArray,argTypes:=ts })
 (hg:Has Γ g (cY f χs)) (hargs:aP Γ args φs) (hall:φs++χs=ψs) (hf:Au P f) (hc:FnP P f ψs Δi c) (hΔ:Δ=Δi++Δr)
 (k:T β n ds Γ Δr (Q (.panic c))):T β n ds Γ Δ (wpListIn (fw r) 0 P ops Q (o :: rest)):=fun m L a w hF hL hS=>by
 subst hΔ hall
 obtain⟨A,B,rfl,h1,h2⟩:=hL.split
 obtain⟨cs,hge,hcs⟩:=hF.has hg
 simp only [wpListIn,hw.wanted hF,if_true]
 have hall:=(hargs.all hF).append hcs
 refine oT (first:=#[]) (captured:=cs.toArray) (vs:=args.map a.eval++cs) ho hge (by simp) hf (hc m A _ hall h1) hS (by grind) (fun m' L' c' w' hle he hS'=>?_) (fun m' L' he=>by cases he)
 cases he
 exact k m' B a w' (hF.mono hle) (h2.mono hle) (by grind [St.drop])
def niB (P:Program) (T:TypeId):Bool:=match P.underlying T with | some (.interface _)=>false | some _=>true | none=>false
theorem uA {T:TypeId} {x:Operand} {v:Value} (ho:o.op= .makeInterface T x) (hx:Has Γ x (fEq v)) (hT:niB P T=true):OpT P Γ [] o (fEq (.iface T v)):=
 eI (by rw [ho];rfl) fun β m a w he _=>by
  have h1:a.eval x=v:=he.get hx (by rw [ho];simp [Op.operands])
  refine⟨.iface T v,?_,rfl⟩;unfold niB at hT;cases hu:P.underlying T with
  | none=>rw [hu]at hT;cases hT
  | some d=>
   have h:(underlying T).run P w= .ok d w:=run_underlying hu w;rw [hu]at hT;simp only [execOp,ho,h1,Instr.makeInterface,a1x,h,a1w];cases d <;> first | (cases hT;done) | simp [Sem.run,pure]
theorem tQ {v:Value} (h:eH v):Ent (fEq v) (fRaw v):=fun m u hu=>by
 have hu:u=v:=hu
 exact⟨hu,hu ▸ h⟩
theorem aGP {m:Mem}:∀ {vs cs:List Value},aX (vs.map fEq) m cs->cs=vs
 | [],_,h=>h
 | v :: vs,_,⟨c,r,h1,h2,h3⟩=>by
  have h2:c=v:=h2;rw [h1,h2,aGP h3]
theorem zR (vs:List Value):Ent (eC (vs.map fEq)) (fEq (.agg vs.toArray)):=fun m v ⟨cs,h1,h2⟩=>by
 show v=_
 rw [h1,aGP h2]
end
open Go.SX
structure Key (κ:Type) where
 val:κ->Value
 d:TypeDesc
 inj:∀ a b,val a=val b->a=b
 same:∀ a b,∃ t,Instr.sameNow d (val a) (val b)=some t/\(t=true ↔ a=b)
 bits:∀ a,Instr.sameBits 10000 (val a) (val a)=true
 check:∀ {P:Program} {K:TypeId} {e:Bool} (w:World) (a:κ) (n:Nat),P.underlying K=some d->(Instr.checkKey e (n+1) K (val a)).run P w= .ok () w
def dG:Key Int:=⟨fun i=> .int .i64 i, .int .i64,fun a b h=>by cases h;rfl,(by simp_all [Instr.sameNow]),fun a=>by simp [Instr.sameBits],
 fun w a n h=>by simp [Instr.checkKey,a1x,run_underlying h,Sem.run,pure]⟩
theorem ba_beq {a b:ByteArray}:(a==b)=true ↔ a=b:=by
 obtain⟨x⟩:=a;obtain⟨y⟩:=b
 have h:((⟨x⟩:ByteArray)==⟨y⟩)=(x==y):=rfl
 grind
def kStr:Key ByteArray:=⟨fun i=> .string i, .string,fun a b h=>by cases h;rfl,fun a b=>⟨a==b,by simp [Instr.sameNow],ba_beq⟩,fun a=>by simp [Instr.sameBits,ba_beq],
 fun w a n h=>by simp [Instr.checkKey,a1x,run_underlying h,Sem.run,pure]⟩
structure kC {κ:Type} (kd:Key κ) (es:Array MapEntry) (clock:Nat) (G:κ->Option Value):Prop where
 keys:∀ e∈es.toList,∃ k,e.key=kd.val k/\G k=some e.val
 all:∀ k v,G k=some v->∃ e∈es.toList,e.key=kd.val k
 uniq:(es.toList.map (·.key)).Nodup
 born:∀ e∈es.toList,e.born<clock
 stamps:(es.toList.map (·.born)).Nodup
open Classical in
noncomputable def updG {κ β:Type} (G:κ->Option β) (k:κ) (v:β):κ->Option β:=fun x=>if x=k then some v else G x
theorem aEV {κ β:Type} {G:κ->Option β} {k:κ} {v:β}:updG G k v k=some v:=by simp [updG]
theorem wU {κ β:Type} {G:κ->Option β} {k x:κ} {v:β} (h:x≠k):updG G k v x=G x:=by simp [updG,h]
section
variable {κ:Type} {kd:Key κ}
theorem kC.empty:kC kd #[] 0 (fun _=>none):=⟨fun e h=>by simp at h,fun k v h=>by simp at h,by simp,fun e h=>by simp at h,by simp⟩
theorem aDJ (k:κ):∀ (es:List MapEntry) (i:Nat),(∀ e∈es,∃ x,e.key=kd.val x) ->
 (Instr.findNow kd.d (kd.val k) es i=some none/\∀ e∈es,e.key≠kd.val k)\/∃ q e,Instr.findNow kd.d (kd.val k) es i=some (some (i+q,e.val))/\es[q]? =some e/\e.key=kd.val k
 | [],i,_=> .inl ⟨rfl,fun e h=>by cases h⟩
 | e :: es,i,h=>by
  obtain⟨x,hx⟩:=h e (.head _);obtain⟨t,ht,hiff⟩:=kd.same k x;simp only [Instr.findNow,hx,ht];cases t with
  | true=>exact .inr ⟨0,e,rfl,rfl,by rw [hx,hiff.1 rfl]⟩
  | false=>
   simp only
   rcases aDJ k es (i+1) (fun e he=>h e (.tail _ he))with⟨h1,h2⟩ | ⟨q,e',h1,h2,h3⟩
   ·grind [Key.inj]
   ·exact .inr ⟨q+1,e',by grind,h2,h3⟩
theorem kC.push {es:Array MapEntry} {clock:Nat} {G:κ->Option Value} (h:kC kd es clock G) {k:κ} {v:Value} (hk:∀ e∈es.toList,e.key≠kd.val k):kC kd (es.push ⟨kd.val k,v,clock⟩) (clock+1) (updG G k v):=by
 refine⟨fun e he=>?_,fun x w hx=>?_,?_,fun e he=>?_,?_⟩
 ·simp only [Array.toList_push,a0O,a0W]at he;rcases he with he | rfl
  ·obtain⟨y,hy,hg⟩:=h.keys e he
   grind [wU]
  grind [updG]
 ·by_cases hxk:x=k
  ·simp_all
  ·rw [wU hxk]at hx;obtain⟨e,he,hek⟩:=h.all x w hx
   grind
 ·simp only [Array.toList_push,a0L,a0N,List.map_nil]
  grind [uniq]
 ·simp only [Array.toList_push,a0O,a0W]at he;rcases he with he | rfl
  ·have:=h.born e he;omega
  grind
 ·simp only [Array.toList_push,a0L,a0N,List.map_nil];refine a0Y.2 ⟨h.stamps,by simp,fun a ha b hb e=>?_⟩
  simp only [a0W]at hb;subst hb e;obtain⟨e',he',hb'⟩:=a0T.1 ha;have:=h.born e' he';omega
theorem kC.set {es:Array MapEntry} {clock:Nat} {G:κ->Option Value} (h:kC kd es clock G) {k:κ} {v:Value} {q:Nat} {e0:MapEntry} (hq:es.toList[q]? =some e0) (hk:e0.key=kd.val k):
 kC kd (es.modify q fun e=>{ e with key:=kd.val k,val:=v }) clock (updG G k v):=by
 have hl:(es.modify q fun e=>{ e with key:=kd.val k,val:=v }).toList=es.toList.set q ⟨kd.val k,v,e0.born⟩:=by
  apply a0t;intro j
  simp only [a0d,Array.getElem?_modify,a0B,a0e];have hq':es[q]? =some e0:=by simpa using hq
  split
  ·subst_vars
   rw [hq'];have:=(a0c.1 hq').1;rw [a1E this];rfl
  ·rfl
 have hlen:=(a0z.1 hq).1
 have hmk:(es.toList.set q ⟨kd.val k,v,e0.born⟩).map (·.key)=es.toList.map (·.key):=by
  rw [List.map_set];apply a0t;intro j
  rw [a0B];split
  ·subst_vars
   simp only [a0I,hlen,if_true,a0A,hq,a1s,hk]
  ·rfl
 have hmb:(es.toList.set q ⟨kd.val k,v,e0.born⟩).map (·.born)=es.toList.map (·.born):=by
  rw [List.map_set];apply a0t;intro j
  rw [a0B];split
  ·subst_vars
   simp only [a0I,hlen,if_true,a0A,hq,a1s]
  ·rfl
 have hG0:G k=some e0.val:=by
  obtain⟨y,hy,hg⟩:=h.keys e0 (a0V hq);rw [hk]at hy;rw [kd.inj _ _ hy];exact hg
 refine⟨fun e he=>?_,fun x w hx=>?_,by rw [hl,hmk];exact h.uniq,fun e he=>?_,by rw [hl,hmb];exact h.stamps⟩
 ·rw [hl]at he;obtain⟨j,hj⟩:=a0S.1 he;rw [a0B]at hj;split at hj
  ·have hj:e=⟨kd.val k,v,e0.born⟩:=(a1u hj).symm;subst hj;exact⟨k,rfl,aEV⟩
  ·rename_i hne;obtain⟨y,hy,hg⟩:=h.keys e (a0V hj);refine⟨y,hy,?_⟩;rw [wU (fun hyk=>?_)]
   ·exact hg
   ·subst hyk;have h1:(es.toList.map (·.key))[j]? =some (kd.val y):=by rw [a0A,hj];simp [hy]
    have h2:(es.toList.map (·.key))[q]? =some (kd.val y):=by rw [a0A,hq];simp [hk]
    have l1:=(a0z.1 h1).1;exact hne ((List.getElem?_inj l1 h.uniq).1 (h1.trans h2.symm)).symm
 ·have hx':∃ w',G x=some w':=by
   by_cases hxk:x=k
   ·subst hxk;exact⟨_,hG0⟩
   ·rw [wU hxk]at hx;exact⟨_,hx⟩
  obtain⟨w',hw'⟩:=hx';obtain⟨e,he,hek⟩:=h.all x w' hw';have:kd.val x∈(es.toList.set q ⟨kd.val k,v,e0.born⟩).map (·.key):=by rw [hmk];exact a0T.2 ⟨e,he,hek⟩
  obtain⟨e',he',hk'⟩:=a0T.1 this;exact⟨e',by rw [hl];exact he',hk'⟩
 ·rw [hl]at he;have:e.born∈(es.toList.set q ⟨kd.val k,v,e0.born⟩).map (·.born):=a0U he;rw [hmb]at this;obtain⟨e',he',hb'⟩:=a0T.1 this;rw [<- hb'];exact h.born e' he'
end
open Go.SX
section
variable {κ α:Type}
structure aM (κ α:Type) where
 get:κ->Option α
 size:Nat
def aM.upd [DecidableEq κ] (g:aM κ α) (k:κ) (y:α):aM κ α:=⟨fun x=>if x=k then some y else g.get x,if (g.get k).isSome then g.size else g.size+1⟩
def aM.none:aM κ α:=⟨fun _=>Option.none,0⟩
def iB (kd:Key κ) (vf:α->AK) (g:aM κ α) (m:Mem) (es:Array MapEntry) (clock:Nat):Prop:=
 ∃ G,kC kd es clock G/\(∀ k,g.get k=none->G k=none)/\es.size=g.size/\∀ k y,g.get k=some y->∃ v,G k=some v/\(vf y).p m v
theorem iB.mono {kd:Key κ} {vf:α->AK} {g:aM κ α} {m m':Mem} {es:Array MapEntry} {clock:Nat} (hle:Mem.le m m') (h:iB kd vf g m es clock):iB kd vf g m' es clock:=
 (by grind [AK.mono,iB])
def kK (kd:Key κ) (vf:α->AK) (g:aM κ α):AK:=
 ⟨fun m v=>(v= .map none/\g=aM.none)\/∃ b es clock,v= .map (some b)/\m b=some (.map es clock)/\iB kd vf g m es clock,
  fun h k=>k.imp id fun ⟨b,es,clock,h1,h2,h3⟩=>⟨b,es,clock,h1,h _ _ h2,h3.mono h⟩⟩
def dY (kd:Key κ) (vf:α->AK) (b:Nat) (g:aM κ α):Tk:=⟨fun m H=>∃ es clock,iB kd vf g m es clock/\H=[(b, .map es clock)],(by grind [iB.mono])⟩
theorem aGO {kd:Key κ} {vf:α->AK} {g:aM κ α}:eJ (kK kd vf g):=fun _ _ h=>by
 rcases h with⟨h,_⟩ | ⟨_,_,_,h,_⟩ <;> rw [h] <;> trivial
theorem aJQ {kd:Key κ} {vf:α->AK}:Ent (fEq (.map none)) (kK kd vf aM.none):=fun m v h=> .inl ⟨h,rfl⟩
def vS (kd:Key κ) (vf:α->AK):Ty (aM κ α):=⟨1,fun g=>[kK kd vf g],fun _=>rfl,(by grind [aGO])⟩
theorem xF (vs:List Value):Ent (fEq (.agg vs.toArray)) (eC (vs.map fEq)):=fun m v h=>⟨vs,h,jG vs⟩
def kV (P:Program) (T:TypeId) (kd:Key κ) (z:Value):Prop:=∃ K V,P.underlying T=some (.map K V)/\P.underlying K=some kd.d/\cX P V=some z
variable {P:Program} {β:bL} {n:Nat} {ds:List Deferred} {Γ:Ctx} {Δ:List Tk} {r:Option Nat} {Q:Exit->Act->World->Prop} {ops:Array Oper} {o:Oper} {rest:List Oper} {kd:Key κ} {vf:α->AK} {g:aM κ α}
theorem aBp {T:TypeId} (vf:α->AK) (kd:Key κ) (ho:o.op= .makeMap T none):OpN P Γ o (fun b=> .map (some b)) (fun b=>dY kd vf b aM.none):=
 ⟨by rw [ho];rfl,fun β m a w he _=>⟨.map #[] 0,by simp [execOp,ho,Instr.makeMap,a1x,newObj,Sem.run,pure],#[],0,⟨_,kC.empty,fun _ _=>rfl,rfl,fun k y hy=>by cases hy⟩,rfl⟩⟩
theorem aG4 {b:Nat}:Frz (dY kd vf b g) (kK kd vf g) (.map (some b)):=fun m H ⟨es,clock,h1,h2⟩ m' hle hm=>by
 subst h2
 exact .inr ⟨b,es,clock,rfl,hm _ (.head _),h1.mono hle⟩
theorem aHj {T:TypeId} {z:Value} {b:Nat} {es:Array MapEntry} {clock:Nat} {m:Mem} {w:World} {zα:α} (hT:kV P T kd z) (hg:(getObj b).run P w= .ok (.map es clock) w) (hM:iB kd vf g m es clock) (hz:Ent (fEq z) (vf zα)) (k:κ) (ok:Bool):
 ∃ v,(vf ((g.get k).getD zα)).p m v/\(Instr.lookup T (.map (some b)) (kd.val k) ok).run P w= .ok (if ok then .tuple #[v, .bool (g.get k).isSome] else v) w:=by
 obtain⟨K,V,h1,h2,h3⟩:=hT
 obtain⟨G,hK,hn,hsz,hs⟩:=hM
 have hzr:=lT (P:=P) h3 w
 have hc:∀ e,(Instr.checkKey e 10000 K (kd.val k)).run P w= .ok () w:=fun e=>kd.check w k 9999 h2
 rcases aDJ (kd:=kd) k es.toList 0 (fun e he=>let ⟨x,hx,_⟩:=hK.keys e he;⟨x,hx⟩)with⟨hf,hne⟩ | ⟨q,e,hf,hq,hek⟩
 ·have hfk:(Instr.findKey K (kd.val k) es.toList).run P w= .ok none w:=by simp [Instr.findKey,a1x,run_underlying h2,hf,Sem.run,pure]
  have hgk:g.get k=none:=by
   cases hgk:g.get k with
   | none=>rfl
   | some y=>
    obtain⟨v,hv,_⟩:=hs k y hgk;obtain⟨e,he,hek⟩:=hK.all k v hv
    grind
  refine⟨z,by rw [hgk];exact hz m z rfl,?_⟩
  simp only [Instr.lookup,a1x,run_underlying h1,a1w,hg,hc,hfk,hzr,hgk];cases ok <;> simp [a1x,hc,hfk,hzr] <;> simp [Sem.run,pure]
 ·have hfk:(Instr.findKey K (kd.val k) es.toList).run P w= .ok (some (0+q,e.val)) w:=by simp [Instr.findKey,a1x,run_underlying h2,hf,Sem.run,pure]
  obtain⟨k',hk',hG⟩:=hK.keys e (a0V hq);rw [hek]at hk';have:=kd.inj _ _ hk';subst this;cases hgk:g.get k with
  | none=>grind
  | some y=>
   obtain⟨v,hv,hp⟩:=hs k y hgk;rw [hG]at hv;have hv:e.val=v:=a1u hv;refine⟨e.val,by rw [hv];exact hp,?_⟩
   simp only [Instr.lookup,a1x,run_underlying h1,a1w,hg,hc,hfk];cases ok <;> simp [a1x,hc,hfk] <;> simp [Sem.run,pure]
theorem aK2 {T:TypeId} {z:Value} {w:World} (hT:kV P T kd z) (k:κ) (ok:Bool):
 (Instr.lookup T (.map none) (kd.val k) ok).run P w= .ok (if ok then .tuple #[z, .bool false] else z) w:=by
 obtain⟨K,V,h1,h2,h3⟩:=hT
 have hzr:=lT (P:=P) h3 w
 have hc:∀ e,(Instr.checkKey e 10000 K (kd.val k)).run P w= .ok () w:=fun e=>kd.check w k 9999 h2
 have hfk:(Instr.findKey K (kd.val k) []).run P w= .ok none w:=by simp [Instr.findKey,Instr.findNow,a1x,run_underlying h2,Sem.run,pure]
 simp only [Instr.lookup,a1x,run_underlying h1,a1w]
 simp_all
theorem aIG {T:TypeId} {z v:Value} {m:Mem} {w:World} {zα:α} {S:Ak} (hT:kV P T kd z) (hS:St β m S w) (hM:(kK kd vf g).p m v) (hz:Ent (fEq z) (vf zα)) (k:κ) (ok:Bool):
 ∃ u,(vf ((g.get k).getD zα)).p m u/\(Instr.lookup T v (kd.val k) ok).run P w= .ok (if ok then .tuple #[u, .bool (g.get k).isSome] else u) w:=by
 rcases hM with⟨rfl,rfl⟩ | ⟨b,es,clock,rfl,hb,hm⟩
 ·refine⟨z,hz m z rfl,?_⟩;rw [aK2 hT];rfl
 ·exact aHj hT (by simp [getObj,Sem.run,hS.mem _ _ hb]) hm hz k ok
theorem aGs {T:TypeId} {x ix:Operand} {z:Value} {zα:α} {k:κ} {φk:AK} (ho:o.op= .lookup T x ix false) (hx:Has Γ x (kK kd vf g)) (hi:Has Γ ix φk) (hk:φk=fEq (kd.val k)) (hT:kV P T kd z) (hz:Ent (fEq z) (vf zα)):OpT P Γ [] o (vf ((g.get k).getD zα)):=
 eI (by rw [ho];rfl) fun β m a w he hS=>by
  subst hk;have h1:=he.get hx (by rw [ho];simp [Op.operands])
  have h2:a.eval ix=_:=he.get hi (by rw [ho];simp [Op.operands])
  obtain⟨u,h3,h4⟩:=aIG hT hS h1 hz k false
  simp_all [execOp]
theorem aEo {m:Mem} {b:Nat} {L:Ak} {w:World} (hL:cD [dY kd vf b g] m L) (hS:St β m L w):∃ es clock,iB kd vf g m es clock/\(getObj b).run P w= .ok (.map es clock) w:=by
 obtain⟨H,R,rfl,⟨es,clock,h1,h2⟩,h3⟩:=hL
 subst h2
 exact⟨es,clock,h1,by simp [getObj,Sem.run,hS.own (b, .map es clock) (by simp)]⟩
theorem aJp {T:TypeId} {x ix:Operand} {b:Nat} {z:Value} {zα:α} {k:κ} {φk:AK} (ho:o.op= .lookup T x ix false) (hx:Has Γ x (fEq (.map (some b)))) (hi:Has Γ ix φk) (hk:φk=fEq (kd.val k)) (hT:kV P T kd z) (hz:Ent (fEq z) (vf zα)):OpT P Γ [dY kd vf b g] o (vf ((g.get k).getD zα)):=
 ⟨by rw [ho];rfl,fun β m L a w he hS hL=>by
  subst hk;have h1:a.eval x=_:=he.get hx (by rw [ho];simp [Op.operands])
  have h2:a.eval ix=_:=he.get hi (by rw [ho];simp [Op.operands])
  obtain⟨es,clock,hm,hg⟩:=aEo (P:=P) hL hS;obtain⟨u,h3,h4⟩:=aHj hT hg hm hz k false
  simp_all [execOp]⟩
theorem setB_get (w:World) (b:Nat) (o:Obj) (h:b<w.heap.size):(ChangeMaps.setBlock w b o).heap[b]? =some o:=by simp [ChangeMaps.setBlock,h]
theorem setB_ne (w:World) (b c:Nat) (o:Obj) (h:c≠b):(ChangeMaps.setBlock w b o).heap[c]? =w.heap[c]?:=by
 grind [ChangeMaps.setBlock]
theorem st_setB {w:World} {m:Mem} {L:Ak} (h:St β m L w) {k b:Nat} {o o':Obj} (hk:L[k]? =some (b,o)):St β m (L.set k (b,o')) (ChangeMaps.setBlock w b o'):=
 h.write hk (setB_get w b o' (zV (h.own _ (xA hk)))) (by grind [setB_ne]) (by simp [ChangeMaps.setBlock]) rfl rfl rfl
theorem iB.upd [DecidableEq κ] {m:Mem} {es:Array MapEntry} {clock:Nat} {G:κ->Option Value} {k:κ} {y:α} {v:Value} (hn:∀ k,g.get k=none->G k=none) (hs:∀ k y,g.get k=some y->∃ v,G k=some v/\(vf y).p m v)
 (hK:kC kd es clock (updG G k v)) (hz:es.size=if (g.get k).isSome then g.size else g.size+1) (hv:(vf y).p m v):iB kd vf (g.upd k y) m es clock:=by
 refine⟨_,hK,fun x hx=>?_,hz,fun x u hx=>?_⟩
 ·by_cases h:x=k
  ·simp [aM.upd,h]at hx
  ·rw [wU h];exact hn x (by simpa [aM.upd,h] using hx)
 ·by_cases h:x=k
  ·subst h;have:y=u:=by simpa [aM.upd] using hx
   subst this;exact⟨v,aEV,hv⟩
  ·rw [wU h];exact hs x u (by simpa [aM.upd,h] using hx)
theorem aJg [DecidableEq κ] {T:TypeId} {z v:Value} {b:Nat} {es:Array MapEntry} {clock:Nat} {m:Mem} {w:World} {y:α} (hT:kV P T kd z) (hown:w.heap[b]? =some (.map es clock)) (hM:iB kd vf g m es clock) (k:κ) (hv:(vf y).p m v):
 ∃ es' clock',iB kd vf (g.upd k y) m es' clock'/\(Instr.mapUpdate T (.map (some b)) (kd.val k) v).run P w= .ok () (ChangeMaps.setBlock w b (.map es' clock')):=by
 obtain⟨K,V,h1,h2,h3⟩:=hT
 obtain⟨G,hK,hn,hsz,hs⟩:=hM
 have hg:(getObj b).run P w= .ok (.map es clock) w:=by simp [getObj,Sem.run,hown]
 have hc:∀ e,(Instr.checkKey e 10000 K (kd.val k)).run P w= .ok () w:=fun e=>kd.check w k 9999 h2
 have hset:∀ o':Obj,(setObj b o').run P w= .ok () (ChangeMaps.setBlock w b o'):=fun o'=>by simp [setObj,Sem.run,hown,ChangeMaps.setBlock]
 rcases aDJ (kd:=kd) k es.toList 0 (fun e he=>let ⟨x,hx,_⟩:=hK.keys e he;⟨x,hx⟩)with⟨hf,hne⟩ | ⟨q,e,hf,hq,hek⟩
 ·have hfk:(Instr.findKey K (kd.val k) es.toList).run P w= .ok none w:=by simp [Instr.findKey,a1x,run_underlying h2,hf,Sem.run,pure]
  have hgk:g.get k=none:=by
   cases hgk:g.get k with
   | none=>rfl
   | some y'=>
    obtain⟨v',hv',_⟩:=hs k y' hgk;obtain⟨e,he,hek⟩:=hK.all k v' hv'
    grind
  refine⟨_,_,iB.upd hn hs (hK.push hne) (by simp [hgk,hsz]) hv,?_⟩
  simp only [Instr.mapUpdate,a1x,run_underlying h1,a1w,hg,hc,hfk,hset]
 ·have hfk:(Instr.findKey K (kd.val k) es.toList).run P w= .ok (some (q,e.val)) w:=by
   rw [a1n]at hf;simp [Instr.findKey,a1x,run_underlying h2,hf,Sem.run,pure]
  have he0':es[q]? =some e:=by simpa using hq
  have hkts:(Instr.keyThatStays (((es[q]?).map (·.key)).getD (kd.val k)) (kd.val k)).run P w= .ok (kd.val k) w:=by
   rw [he0',a1s,a1p,hek];simp [Instr.keyThatStays,kd.bits,Sem.run,pure]
  have hgk:(g.get k).isSome=true:=by
   cases hgk:g.get k with
   | some _=>rfl
   | none=>
    obtain⟨k',hk',hG⟩:=hK.keys e (a0V hq)
    grind [Key.inj]
  refine⟨_,_,iB.upd hn hs (hK.set hq hek) (by simp [hgk,hsz]) hv,?_⟩
  simp only [Instr.mapUpdate,a1x,run_underlying h1,a1w,hg,hc,hfk,hkts,hset]
theorem gR [DecidableEq κ] {MT:TypeId} {x kx vx:Operand} {b:Nat} {k:κ} {y:α} {z:Value} {φk φv:AK} (hw:cN ops Γ o) (ho:o.op= .mapUpdate MT x kx vx\/o.op= .insert MT x kx vx) (hd:o.dst=none) (hx:Has Γ x (fEq (.map (some b))))
 (hi:Has Γ kx φk) (hk:φk=fEq (kd.val k)) (hv:Has Γ vx φv) (hvy:φv=vf y) (hT:kV P MT kd z)
 (kk:T β n ds Γ (dY kd vf b (g.upd k y) :: Δ) (wpListIn (fw r) 0 P ops Q rest)):T β n ds Γ (dY kd vf b g :: Δ) (wpListIn (fw r) 0 P ops Q (o :: rest)):=fun m L a w hF hL hS=>by
 subst hk hvy
 obtain⟨H,R,rfl,⟨es,clock,hM,h2⟩,h3⟩:=hL
 subst h2
 have hxe:a.eval x=_:=hF.has hx
 have hke:a.eval kx=_:=hF.has hi
 have hve:=hF.has hv
 have hnd:gN o.op=false:=by rcases ho with ho | ho <;> rw [ho] <;> rfl
 have h1:o.semAt (fw r).round a.eval=execOp a.eval o:=Oper.semAt_eq _ _ _ fun c hc=>by rw [hc]at hnd;cases hnd
 simp only [wpListIn,hw.wanted hF,if_true]
 refine⟨fun _ _=>a1F,?_⟩
 have hk0:([(b,Obj.map es clock)]++R)[0]? =some (b, .map es clock):=rfl
 obtain⟨es',clock',h4,h5⟩:=aJg hT (hS.own (b, .map es clock) (by simp)) hM k hve
 have e:(execOp a.eval o).run P w= .ok .skip (ChangeMaps.setBlock w b (.map es' clock')):=by
  rcases ho with ho | ho <;> simp [execOp,ho,hxe,hke,a1x,h5,Sem.run,pure]
 rw [h1,e,Oper.uponIn_skip,hd]
 refine kk m ([(b, .map es' clock')]++R) _ _ hF ⟨_,R,rfl,⟨es',clock',h4,rfl⟩,h3⟩ ?_
 have:=st_setB (o':= .map es' clock') hS hk0
 simpa using this
theorem o_lenMO {MT:TypeId} {x:Operand} {b:Nat} {z:Value} (ho:o.op= .call { callee:= .builtin .len,args:=#[x],argTypes:=#[MT] }) (hx:Has Γ x (fEq (.map (some b)))) (hT:kV P MT kd z):OpT P Γ [dY kd vf b g] o (bI .i64 g.size):=
 ⟨by rw [ho];rfl,fun β m L a w he hS hL=>by
  obtain⟨K,V,h1,_,_⟩:=hT;have h:a.eval x=_:=he.get hx (by rw [ho];simp [Op.operands,Call.operands])
  obtain⟨es,clock,⟨G,_,_,hsz,_⟩,hg⟩:=aEo (P:=P) hL hS;refine⟨.int .i64 es.size,by simp [execOp,ho,resolve,invoke,builtin,Builtin.len_,h,a1x,run_underlying h1,hg,Sem.run,pure,goInt],?_⟩
  show Value.int .i64 es.size= .int .i64 g.size
  rw [hsz]⟩
end
open Go.SX
section
variable {P:Program} {Γ:Ctx} {o:Oper}
def iU:Value->Option Bool
 | .nilIface=>some true
 | .iface _ _=>some false
 | _=>none
theorem aKl {T:TypeId} {ms} {v:Value} {b:Bool} (hT:P.underlying T=some (.interface ms)) (h:iU v=some b) (d:Nat) (w:World):(Op.equalIn (d+1) T v .nilIface).run P w= .ok b w:=by
 have hu:(underlying T).run P w= .ok (.interface ms) w:=run_underlying hT w
 cases v <;> first | (cases h;done) | (cases h;simp only [Op.equalIn,a1x,hu,a1w];rfl)
theorem aJD {T:TypeId} {ms} {v:Value} {b:Bool} (hT:P.underlying T=some (.interface ms)) (h:iU v=some b) (w:World):(Op.equal T v .nilIface).run P w= .ok b w:=aKl hT h 9999 w
theorem aH2 {op:BinOp} {T:TypeId} {x:Operand} {v:Value} {b:Bool} (h:iU v=some b) (w:World):(eqGuard op T x (.const .nilIface) v .nilIface).run P w= .ok () w:=by
 cases v <;> first | (cases h;done) | simp_all [eqGuard]
def eA (T:TypeId) (z:Value):Value->Option (Value × Bool)
 | .nilIface=>some (z,false)
 | .iface t v=>if t=T then some (v,true) else some (z,false)
 | _=>none
theorem aBo {T U:TypeId} {ms} {x:Operand} {v:Value} {b:Bool} (ho:o.op= .binOp .neq T x (.const .nilIface) U) (hx:Has Γ x (fEq v)) (hT:P.underlying T=some (.interface ms)) (h:iU v=some b):OpT P Γ [] o (aH !b):=
 eI (by rw [ho];rfl) fun β m a w he _=>by
  have h1:a.eval x=v:=he.get hx (by rw [ho];simp [Op.operands])
  have h2:a.eval (.const .nilIface)= .nilIface:=rfl;refine⟨.bool !b,?_,rfl⟩;simp only [execOp,ho,h1,h2];rw [a1x,a1x,aH2 h w];cases v <;> first | (cases h;done) | simp [binOp,a1x,aJD hT h,Sem.run,pure]
theorem sW {S T':TypeId} {x:Operand} {v z u:Value} {b:Bool} (ho:o.op= .typeAssert x S T' true) (hx:Has Γ x (fEq v)) (hT:niB P T'=true) (hz:cX P T'=some z) (h:eA T' z v=some (u,b)):OpT P Γ [] o (dB [fEq u,aH b]):=
 eI (by rw [ho];rfl) fun β m a w he _=>by
  have h1:a.eval x=v:=he.get hx (by rw [ho];simp [Op.operands])
  refine⟨.tuple #[u, .bool b],?_,[u, .bool b],rfl,u,_,rfl,rfl,_,[],rfl,rfl,rfl⟩;unfold niB at hT;have hzr:=lT (P:=P) hz w;cases hu:P.underlying T' with
  | none=>rw [hu]at hT;cases hT
  | some d=>
   rw [hu]at hT;have hur:(underlying T').run P w= .ok d w:=run_underlying hu w;simp only [execOp,ho,h1];match v,h with
   | .nilIface,h=>
    simp only [eA,a1v,Prod.mk.injEq]at h;obtain⟨rfl,rfl⟩:=h;cases d <;> first | (cases hT;done) | simp_all [Instr.typeAssert]
   | .iface t y,h=>
    simp only [eA]at h;by_cases ht:t=T'
    ·subst ht;simp only [if_true,a1v,Prod.mk.injEq]at h;obtain⟨rfl,rfl⟩:=h;cases d <;> first | (cases hT;done) | simp_all [Instr.typeAssert]
    ·simp only [ht,if_false,a1v,Prod.mk.injEq]at h;obtain⟨rfl,rfl⟩:=h;cases d <;> first | (cases hT;done) | simp_all [Instr.typeAssert]
theorem mB {v:Value}:Ent (fRaw v) (fEq v):=fun _ _ h=>h.1
end
open Go.SX
section
variable {P:Program} {Γ:Ctx} {o:Oper}
def slc {α:Type} (xs:List α) (l h:Int):Option (List α):=if 0<=l/\l<=h/\h<=xs.length then some ((xs.take h.toNat).drop l.toNat) else none
theorem aHX {α:Type} {xs ys:List α} {l h:Int} (e:slc xs l h=some ys):0<=l/\l<=h/\h<=xs.length/\ys=(xs.take h.toNat).drop l.toNat:=by
 unfold slc at e
 grind
theorem aAH {kd:IntKind} {i:Int} {y:Nat} {c:BoundsCode} (h1:0<=i) (h2:i<=y) (w:World):(Instr.sliceBound (.int kd i) y c).run P w= .ok i.toNat w:=by
 simp [Instr.sliceBound,asIntOf,a1x,Sem.run,pure,h1,h2]
theorem aLo (p:Addr) (a b:Nat):(p.add a).add b=p.add (a+b):=by
 grind [Addr.add]
theorem part_sl {α:Type} {t:Ty α} {xs ys:List α} {l h:Int} {m:Mem} {a:Option Addr} {cap:Nat} (e:slc xs l h=some ys) (hx:(fSl t xs).p m (.slice a xs.length cap)):
 (fSl t ys).p m (.slice (if cap=l.toNat then a else a.map (·.add (l.toNat*t.sz))) (h.toNat - l.toNat) (cap - l.toNat)):=by
 obtain⟨h1,h2,h3,rfl⟩:=aHX e
 obtain⟨q,⟨b,cap',hv,hc,hq⟩,hB,hel⟩:=hx
 cases hv
 have hlen:((xs.take h.toNat).drop l.toNat).length=h.toNat - l.toNat:=by simp;omega
 refine⟨fun i=>q (l.toNat+i),⟨_,_,by rw [hlen],by rw [hlen];omega,fun i hi=>?_⟩,by rw [hlen];omega,fun i x hx=>?_⟩
 ·rw [hlen]at hi;obtain⟨p,rfl,hp⟩:=hq (l.toNat+i) (by omega)
  rw [a1D (by omega)]
  grind [aLo]
 grind
def jW (Γ:Ctx) (x:Option Operand) (d v:Int):Prop:=(x=none/\v=d)\/∃ y kd,x=some y/\Has Γ y (bI kd v)
theorem aDq {d:Int}:jW Γ none d d:= .inl ⟨rfl,rfl⟩
theorem aCF {d v:Int} {y:Operand} {kd:IntKind} (h:Has Γ y (bI kd v)):jW Γ (some y) d v:= .inr ⟨y,kd,rfl,h⟩
theorem aCE {α:Type} {t:Ty α} {xs ys:List α} {MT:TypeId} {x:Operand} {lo hi:Option Operand} {l h:Int} (ho:o.op= .slice MT x lo hi none) (hx:Has Γ x (fSl t xs)) (hl:jW Γ lo 0 l) (hh:jW Γ hi xs.length h) (hT:nP P MT t.sz)
 (e:slc xs l h=some ys):OpT P Γ [] o (fSl t ys):=
 eI (by rw [ho];rfl) fun β m a w he _=>by
  have h0:=he.get hx (by rw [ho];simp [Op.operands])
  have h0':=h0;obtain⟨q,⟨b,cap,hv,hc,hq⟩,hB,hel⟩:=h0';rw [hv]at h0;obtain⟨h1,h2,h3,hys⟩:=aHX e;refine⟨_,?_,part_sl e h0⟩;unfold nP wB at hT;cases hu:P.underlying MT with
  | none=>rw [hu]at hT;cases hT
  | some d=>
   rw [hu]at hT;cases d <;> try (simp at hT;done)
   rename_i el;simp only [a1r]at hT;obtain⟨inf,hinf,hsz⟩:=hT;have hur:(underlying MT).run P w= .ok (.slice el) w:=run_underlying hu w;have hs:=run_sizeOf (P:=P) hinf w;simp only [execOp,ho,hv,Instr.sliceAt,Instr.slice,Instr.sliceBounds,a1x,hur,a1w];rcases hl with⟨rfl,rfl⟩ | ⟨y,kd,rfl,hy⟩ <;> rcases hh with⟨rfl,rfl⟩ | ⟨y',kd',rfl,hy'⟩
   ·simp_all
   ·have g2:a.eval y'= .int kd' h:=he.get hy' (by rw [ho];simp [Op.operands])
    have b2:=fun c=>aAH (P:=P) (kd:=kd') (y:=cap) (c:=c) (i:=h) (by omega) (by omega) w
    simp_all
   ·have g1:a.eval y= .int kd l:=he.get hy (by rw [ho];simp [Op.operands])
    simp_all [aAH]
   ·have g1:a.eval y= .int kd l:=he.get hy (by rw [ho];simp [Op.operands])
    have g2:a.eval y'= .int kd' h:=he.get hy' (by rw [ho];simp [Op.operands])
    have b2:=fun c=>aAH (P:=P) (kd:=kd') (y:=cap) (c:=c) (i:=h) (by omega) (by omega) w
    have b1:=fun c=>aAH (P:=P) (kd:=kd) (y:=h.toNat) (c:=c) (i:=l) h1 (by omega) w
    simp_all
end
open Go.SX
def YdX (P:Program) (l:Nat) (vs:List Value) (m:Mem) (L:Ak) (post:Mem->Ak->Prop):Prop:=
 ∀ w,St ⟨w,m,L.map Prod.fst⟩ m L w->∃ r:Loop,w.heap[l]? =some (.loop r)/\vs.toArray.size=r.params.size /\
  RoundIn (fw none) 0 P l r.fn (wY r vs.toArray) r.assign r.body w fun e w'=>
   e= .returned (.bool true)/\∃ m' L',St ⟨w,m,L.map Prod.fst⟩ m' L' w'/\post m' L'
def jJ (P:Program) {α σ:Type} (ρ:α->List AK) (Y:α->σ->Option σ) (J:σ->Tk):AK:=
 ⟨fun m v=>∃ l,v=oJ l/\∀ m',Mem.le m m'->∀ x t t' vs H,Y x t=some t'->aX (ρ x) m' vs->(J t).p m' H->YdX P l vs m' H (fun m'' H'=>(J t').p m'' H'),
  (by grind [Mem.le])⟩
section
variable {P:Program} {β:bL} {n:Nat} {ds:List Deferred} {Γ:Ctx} {Δ R:List Tk} {r:Option Nat} {Q Q':Exit->Act->World->Prop} {F:Act->World->Prop} {ops:Array Oper} {o:Oper} {rest:List Oper}
theorem aIH {α σ:Type} {ρ:α->List AK} {Y:α->σ->Option σ} {J:σ->Tk}:eJ (jJ P ρ Y J):=fun _ _ ⟨_,h,_⟩=>by rw [h];trivial
theorem T_callY {α σ:Type} {ρ:α->List AK} {Y:α->σ->Option σ} {J:σ->Tk} {g:Operand} {args:List Operand} {ts:Array TypeId} {d:Nat} (x:α) {s s':σ} (hw:cN ops Γ o) (ho:o.op= .call { callee:= .value g,args:=args.toArray,argTypes:=ts }) (hd:o.dst=some d)
 (hn:Nat.ble (d+1) n=true) (hg:Has Γ g (jJ P ρ Y J)) (hargs:aP Γ args (ρ x)) (hY:Y x s=some s')
 (k:T β n ds ((d,aH true) :: Γ) (J s' :: Δ) (wpListIn (fw r) 0 P ops Q rest)):T β n ds Γ (J s :: Δ) (wpListIn (fw r) 0 P ops Q (o :: rest)):=fun m L a w hF hL hS=>by
 obtain⟨H,R,rfl,hJ,hR⟩:=hL
 obtain⟨l,hge,hy⟩:=hF.has hg
 simp only [wpListIn,hw.wanted hF,if_true]
 refine⟨fun _ _=>a1F,?_⟩
 have hnd:gN o.op=false:=by rw [ho];rfl
 have h3:o.semAt (fw r).round a.eval=execOp a.eval o:=by grind [Oper.semAt_eq]
 obtain⟨rec,hr,hsz,hround⟩:=hy m (Mem.le_refl _) x s s' (args.map a.eval) H hY (hargs.all hF) hJ w hS.start
 have hrun:(execOp a.eval o).run P w= .ok (.round l rec.fn (wY rec (args.map a.eval).toArray) rec.assign rec.body) w:=by
  have h3:=run_yield (P:=P) hr hsz;have h4:args.toArray.map a.eval=(args.map a.eval).toArray:=by simp
  simp [execOp,ho,resolve,hge,oJ,Deferred.ofValue,invoke,a1x,Sem.run,pure,wY];simpa using h3
 rw [h3,hrun,Oper.uponIn_round]
 refine⟨(fun h=>by cases h),?_⟩
 have hround':RoundIn (fw r) 0 P l rec.fn (wY rec (args.map a.eval).toArray) rec.assign rec.body w _:=hround
 refine hround'.mono fun e w' ⟨he,m',L',hS',hp⟩=>?_
 subst he
 show wpListIn (fw r) 0 P ops Q rest (a.put o.dst (.bool true)) w'
 rw [hd]
 exact k m' _ _ _ ((hF.mono hS'.mle).put (a1j hn) rfl) ⟨L',R,rfl,hp,hR.mono hS'.mle⟩ (back hS hS')
def aBB:List Nat->List AK->Ctx->Ctx
 | p :: ps,φ :: φs,Γ=>aBB ps φs ((p,φ) :: Γ)
 | _,_,Γ=>Γ
theorem aHf {m:Mem}:∀ {ps:List Nat} {φs:List AK} {vs:List Value} {t:Array Value} {Γ:Ctx},(∀ p∈ps,p<t.size)->ps.length=φs.length->aX φs m vs->(∀ s φ,lk Γ s=some φ->∃ v,t[s]? =some v/\φ.p m v) ->
 ∀ s φ,lk (aBB ps φs Γ) s=some φ->∃ v,((ps.zip vs).foldl (fun tmps (x:Nat × Value)=>tmps.setIfInBounds x.1 x.2) t)[s]? =some v/\φ.p m v
 | [],[],_,t,Γ,_,_,hv,hg=>fun s φ h=>by
  have:(_:List Value)=[]:=hv;subst this;exact hg s φ h
 | p :: ps,ψ :: φs,_,t,Γ,hp,hl,⟨v,vs,e,h1,h2⟩,hg=>fun s φ h=>by
  subst e;simp only [List.zip_cons_cons,List.foldl_cons];refine aHf (t:=t.setIfInBounds p v) (by grind) (by simpa using hl) h2 (fun u χ hu=>?_) s φ h
  rcases sK hu with⟨rfl,rfl⟩ | ⟨hne,hu⟩
  ·grind
  grind
def aA1 (β:bL) (l:Nat) (rec:Loop) (Δ':List Tk) (e:Ending) (w:World):Prop:=
 e= .returned (.bool true)/\∃ m' L',St β m' ((l, .loop rec) :: L') w/\cD Δ' m' L'
def BodyT (P:Program) (l:Nat) (β:bL) (rec:Loop) (Δ':List Tk) (body:Code) (a:Act) (w:World):Prop:=
 ∃ w₂,(Instr.beginRound l).run P w= .ok () w₂/\body.wpIn (fw (some l)) 0 P (roundPost P l (aA1 β l rec Δ')) a w₂
def tObj (l:Nat) (o:Obj):Tk:=⟨fun _ H=>H=[(l,o)],fun _ h=>h⟩
def oV (rb:Nat):Tk:=tObj rb (.deferred (some []))
theorem T_begin {l:Nat} {rec:Loop} {Δ':List Tk} {body:Code} (hs:rec.state= .ready)
 (k:T β n ds Γ (tObj l (busy rec) :: Δ) (body.wpIn (fw (some l)) 0 P (roundPost P l (aA1 β l rec Δ')))):T β n ds Γ (tObj l (.loop rec) :: Δ) (BodyT P l β rec Δ' body):=fun m L a w hF hL hS=>by
 obtain⟨H,R,rfl,h1,hR⟩:=hL
 have h1:H=[(l, .loop rec)]:=h1
 subst h1
 exact⟨_,run_beginRound (hS.own _ (.head _)) hs,k m ((l,busy rec) :: R) _ _ hF ⟨_,R,rfl,rfl,hR⟩ (hS.putObj (k:=0) rfl)⟩
theorem aKV {l:Nat} {rec:Loop} {Δ':List Tk} (hs:rec.state= .ready) (hp:rec.pending=none) (hd:Δ=Δ'):
 T β n ds Γ (tObj l (busy rec) :: Δ) (roundPost P l (aA1 β l rec Δ') .normal):=fun m L a w hF hL hS=>by
 subst hd
 obtain⟨H,R,rfl,h1,hR⟩:=hL
 have h1:H=[(l,busy rec)]:=h1
 subst h1
 have h1:=hS.own (l,busy rec) (.head _)
 simp only [busy]at h1
 refine⟨_,_,run_endRound none h1,⟨rfl,m,R,?_,hR⟩⟩
 have h2:({ ({ rec with state:= .busy }:Loop)with state:=if (none:Option Code).isNone then .ready else .done,pending:=none }:Loop)=rec:=by
  cases rec;simp only at hs hp;subst hs hp;rfl
 rw [h2]
 exact hS.putObj (k:=0) (o':= .loop rec) rfl
theorem aIl {α σ:Type} {g:Operand} {ps:List Nat} {assign body:Code} {f:FuncId} {φs:List AK} (ρ:α->List AK) (Y:α->σ->Option σ) (Δf:σ->List Tk) {s s':σ} (hg:Has Γ g (cY f φs)) (hf:Au P f) (hps:ps.all (fun p=>Nat.ble (p+1) n)=true)
 (hlen:∀ x,ps.length=(ρ x).length) (hΔ:Δ=Δf s++R)
 (hiter:∀ (J:σ->Tk),FnS P f (jJ P ρ Y J :: φs) [J s] (dB []) (fun _=>[J s']))
 (hbody:∀ (β':bL) (l:Nat) (rec:Loop) x t t',rec.state= .ready->rec.pending=none->Y x t=some t' ->
  T β' n [] (aBB ps (ρ x) Γ) (tObj l (.loop rec) :: Δf t) (assign.wpIn (fw (some l)) 0 P (Exit.then (BodyT P l β' rec (Δf t') body) (fun _ _ _=>False))))
 (hnext:∀ rb:Nat,T β n (SX.mark rb :: ds) Γ (oV rb :: (Δf s'++R)) (Q .normal)):
 T β n ds Γ Δ ((Code.rangeFunc g ps.toArray assign body).wpIn (fw none) 0 P Q):=fun m L a w hF hL hS=>by
 subst hΔ
 obtain⟨A,B,rfl,hA,hB⟩:=hL.split
 obtain⟨cs,hge,hcs⟩:=hF.has hg
 have hps':∀ p∈ps,p<n:=fun p hp=>a1j (a0o.1 hps p hp)
 refine wpIn_rangeFunc fun fn _=>?_
 let rb:=w.heap.size
 let w₁:=w.alloc (.deferred (some []))
 let rec₀:Loop:={ state:= .ready,pending:=none,fn,tmps:=a.tmps,params:=ps.toArray,assign,body,defers:=rb }
 let l:=w₁.heap.size
 let w₂:=w₁.alloc (.loop rec₀)
 have hS₁:St β m ((rb, .deferred (some [])) :: (A++B)) w₁:=hS.alloc _
 have hS₂:St β m ((l, .loop rec₀) :: (rb, .deferred (some [])) :: (A++B)) w₂:=hS₁.alloc _
 have hl:l=w.heap.size+1:=by show w₁.heap.size=_;simp [w₁]
 refine⟨l,[SX.mark rb],w₂,{ target:= .fn (.func f) cs.toArray,args:=#[oJ l] },w₂,f,(oJ l :: cs).toArray,w₂,?_,?_,fun _ _=>a1F,?_,(fun h=>by cases h),?_⟩
 ·rw [hl];exact run_enterLoop_outer fn a.tmps ps.toArray assign body
 ·simp only [resolve,rangeCall,hge];simp [Act.eval,Deferred.ofValue,oJ,Sem.run,pure]
 ·have h3:=run_callFunc hf ((oJ l :: cs).toArray) w₂
  grind [invoke]
 ·let J:σ->Tk:=fun t=>⟨fun m' H=>∃ L',H=(l, .loop rec₀) :: L'/\cD (Δf t) m' L',(by grind [cD.mono])⟩
  have hperm:((l,Obj.loop rec₀) :: (rb,Obj.deferred (some [])) :: (A++B)).Perm (((l,Obj.loop rec₀) :: A)++((rb,Obj.deferred (some [])) :: B)):=
   (by simp_all [List.Perm.symm])
  have hS₃:St β m (((l, .loop rec₀) :: A)++((rb, .deferred (some [])) :: B)) w₂:=hS₂.perm hperm;have hy:(jJ P ρ Y J).p m (oJ l):=⟨l,rfl,fun m' hle x t t' vs H hx hvs ⟨L',e,hL'⟩=>by
   subst e;intro w₄ hS₄;have hvl:ps.length=vs.length:=by rw [hlen x,hvs.length]
   refine⟨rec₀,hS₄.own _ (.head _),by simp [rec₀,hvl],?_⟩
   refine RoundIn.mono (R:=aA1 ⟨w₄,m',((l,Obj.loop rec₀) :: L').map Prod.fst⟩ l rec₀ (Δf t')) ?_ fun e w' ⟨he,m'',L'',h1,h2⟩=>
    by grind
   refine roundIn_of_wpIn a1F ?_;refine hbody ⟨w₄,m',((l,Obj.loop rec₀) :: L').map Prod.fst⟩ l rec₀ x t t' rfl rfl hx m' _ _ w₄ ⟨?_,rfl,fun t φ ht=>?_⟩ ⟨[_],L',rfl,rfl,hL'⟩ hS₄
   ·have:∀ (z:List (Nat × Value)) (t:Array Value),(z.foldl (fun tmps (t,a)=>tmps.setIfInBounds t a) t).size=t.size:=fun z=>by
     induction z with
     | nil=>intro t;rfl
     | cons x z ih=>intro t;simp [ih]
    have hz:ps.toArray.zip vs.toArray=(ps.zip vs).toArray:=by simp
    simp only [wY,rec₀,hz,List.foldl_toArray,this,hF.size]
   ·have hz:ps.toArray.zip vs.toArray=(ps.zip vs).toArray:=by simp
    simp only [wY,rec₀,hz,List.foldl_toArray];exact aHf (by rw [hF.size];exact hps') (hlen x) hvs (hF.mono hle).get t φ ht⟩
  have hfn:=hiter J m ((l, .loop rec₀) :: A) (oJ l :: cs) ⟨_,_,rfl,hy,hcs⟩ ⟨_,[],by simp,⟨A,rfl,hA⟩,rfl⟩
  refine aDW ((hfn w₂ hS₃.start).mono fun e w' ⟨m',L₁,hS',v,he,_,hJ⟩=>?_)
  obtain⟨H,R0,hL1,⟨L',hH,hT⟩,hR0⟩:=hJ;have hR0:R0=[]:=hR0;subst he hH hR0;have hL1:L₁=(l,Obj.loop rec₀) :: L':=by rw [hL1];simp
  subst hL1;have hback:=back hS₃ hS';have hreco:w'.heap[l]? =some (.loop rec₀):=hback.own (l, .loop rec₀) (.head _);refine⟨none,_,run_endLoop hreco (by simp [rec₀]),?_⟩
  have h4:=(hback.putObj (k:=0) (o':= .loop { rec₀ with state:= .exhausted }) rfl).drop (L':=L'++((rb,Obj.deferred (some [])) :: B)) (by simp)
  have h5:=h4.perm (a1d (a:=(rb,Obj.deferred (some []))) (l₁:=L') (l₂:=B));have hF':=hF.mono hS'.mle;exact hnext rb m' _ { a with defers:=[SX.mark rb]++a.defers } _ ⟨hF'.size,by simp [hF'.Ae],hF'.get⟩ ⟨[_],L'++B,rfl,rfl,hT.append (hB.mono hS'.mle)⟩ h5
theorem FnX_ofM {f:FuncId} {fn:Func} {c:Code} {N:Nat} {args:List AK} {post:Mem->Ak->Ending->Prop} (hf:P.funcs[f]? =some fn) (hb:fn.body=some c) (hN:fn.ntmps=N) (hle:Nat.ble args.length N=true)
 (k:∀ w m fp,T ⟨w,m,fp⟩ N [] (mD args 0) Δ (c.wpIn (fw none) 0 P (bodyPostM (fw none) 0 P fn fun e w'=>∃ m' L',St ⟨w,m,fp⟩ m' L' w'/\post m' L' e))):
 ∀ m L vs,aX args m vs->cD Δ m L->FnX P f vs m L post:=fun m L vs hv hL w hS=>by
 refine(callsIn_wide (n:=0)).1 (callsIn_of_wp_marks hf hb a1F ?_)
 refine(k w m _ m L _ w ⟨?_,rfl,fun t φ h=>?_⟩ hL hS)
 ·have:=a1j hle
  grind [aX.length]
 ·obtain⟨_,h2⟩:=aAG args 0 t φ h
  grind [aX.get]
theorem aBP {f:FuncId} {fn:Func} {c:Code} {N:Nat} {args:List AK} {Φ:AK} {Δ':Value->List Tk} (hf:P.funcs[f]? =some fn) (hb:fn.body=some c) (hN:fn.ntmps=N) (hle:Nat.ble args.length N=true)
 (k:∀ β,T β N [] (mD args 0) Δ (c.wpIn (fw none) 0 P (bodyPostM (fw none) 0 P fn (fX β Φ Δ')))):FnS P f args Δ Φ Δ':=FnX_ofM hf hb hN hle fun w m fp=>k ⟨w,m,fp⟩
theorem aHc {m:Mem}:∀ (rbs:List Nat) {Δ:List Tk} {L:Ak},cD (rbs.map oV++Δ) m L->∃ R,L=rbs.map (fun rb=>(rb,Obj.deferred (some [])))++R/\cD Δ m R
 | [],_,L,h=>⟨L,rfl,h⟩
 | rb :: rbs,_,_,⟨H,R,e,h1,h2⟩=>by
  have h1:H=[(rb,Obj.deferred (some []))]:=h1;obtain⟨R',e2,h3⟩:=aHc rbs h2
  grind
theorem T_leave {fn:Func} {R:Ending->World->Prop} (rbs:List Nat) {Δ':List Tk} (hds:ds=rbs.map SX.mark) (hΔ:Δ=rbs.map oV++Δ')
 (k:T β n [] Γ Δ' (fun a w=>∃ v,(results fn a.tmps).run P w= .ok v w/\R (.returned v) w)):T β n ds Γ Δ (fun a w=>LeavesInM (fw none) 0 P fn a.tmps R a.defers .returning w):=fun m L a w hF hL hS=>by
 subst hΔ
 obtain⟨B,rfl,hB⟩:=aHc rbs hL
 rw [hF.Ae,hds]
 let A:Ak:=rbs.map (fun rb=>(rb,Obj.deferred (some [])))
 have hnd:rbs.Nodup:=by
  have:=hS.nodup
  grind
 refine aEZ (β:=β) (m:=m) (A:=A) (L':=B) rbs _ w hS (fun rb hrb=>?_) hnd (by simp [A]) (by simp [A]) fun w' hS'=>?_
 ·obtain⟨j,hj⟩:=a0S.1 hrb
  grind
 ·exact k m B { a with defers:=[] } w' ⟨hF.size,rfl,hF.get⟩ hB hS'
theorem T_outM1 {fn:Func} {Φ:AK} {Δ':List Tk} {t:Nat} (rbs:List Nat) (hr:fn.results=#[.tmp t]) (hv:gX Γ t Φ) (hds:ds=rbs.map SX.mark) (hd:Δ=rbs.map oV++Δ'):T β n ds Γ Δ (bodyPostM (fw none) 0 P fn (fX β Φ (fun _=>Δ')) .ret):=
 T_leave (P:=P) (fn:=fn) (R:=fX β Φ (fun _=>Δ')) rbs hds hd fun m L a w hF hL hS=>by
  obtain⟨ψ,h1,h2⟩:=hv;obtain⟨v,h3,h4⟩:=hF.get t ψ h1;exact⟨v,by simp [results,hr,a0a,h3,Sem.run,pure],m,L,hS,v,rfl,h2 m v h4,hL⟩
end
open Go.SX
def FnD (P:Program) (f:FuncId) (args:List AK) (Δ:List Tk) (u:FrameMode) (Δ':List Tk):Prop:=
 ∀ m L vs,aX args m vs->cD Δ m L->∀ w,St ⟨w,m,L.map Prod.fst⟩ m L w->CallsDIn (fw none) 0 P f vs.toArray u w fun e u' w'=>(∃ v,e= .returned v)/\settle u'= .returning/\∃ m' L',St ⟨w,m,L.map Prod.fst⟩ m' L' w'/\cD Δ' m' L'
def PostD (β:bL) (Δ':List Tk) (e:Ending) (u':FrameMode) (w':World):Prop:=(∃ v,e= .returned v)/\settle u'= .returning/\∃ m' L',St β m' L' w'/\cD Δ' m' L'
section
variable {P:Program} {β:bL} {n:Nat} {ds:List Deferred} {Γ:Ctx} {Δ R:List Tk} {r:Option Nat} {Q Q':Exit->Act->World->Prop} {F:Act->World->Prop} {ops:Array Oper} {o:Oper} {rest:List Oper}
theorem FnD_of {f:FuncId} {fn:Func} {c:Code} {N:Nat} {args:List AK} {u:FrameMode} {Δ':List Tk} (hf:P.funcs[f]? =some fn) (hb:fn.body=some c) (hN:fn.ntmps=N) (hle:Nat.ble args.length N=true)
 (k:∀ β c₀ cs,c₀.mode=u->T β N [] (mD args 0) Δ (fun a w=>c.wpSIn (fw none) 0 P (bodyPostS P fn c₀ cs (PostD β Δ')) a (c₀ :: cs) w)):FnD P f args Δ u Δ':=fun m L vs hv hL w hS=>by
 refine callsDIn_of_wpSIn hf hb a1F fun c₀ cs hu=>?_
 refine k ⟨w,m,_⟩ c₀ cs hu m L _ w ⟨?_,rfl,fun t φ h=>?_⟩ hL hS
 ·have:=a1j hle;have hl:=hv.length;simp [hN];omega
 ·obtain⟨_,h2⟩:=aAG args 0 t φ h;simp only [Nat.sub_zero]at h2;obtain⟨c,h3,h4⟩:=hv.get h2;have hlt:=(a0z.1 h3).1;refine⟨c,?_,h4⟩;rw [a0b (by simpa using hlt)];simpa using h3
theorem aG6 {x:Code} {id d e:Nat} {o0 o1:Oper} {S:Exit->Act->List Frame->World->Prop} {cs cs':List Frame} {v:Value} (hr:(match recoverD cs with | some p=>p | none=>(.nilIface,cs))=(v,cs'))
 (h0:o0.op= .call { callee:= .builtin .recover,args:=#[],argTypes:=#[] }) (g0:o0.guard=none) (d0:o0.dst=some d) (h1:o1.op= .assign (.tmp d)) (g1:o1.guard=none) (d1:o1.dst=some e) (hn:Nat.ble (d+1) n=true/\Nat.ble (e+1) n=true)
 (k:T β n ds ((e,fEq v) :: (d,fEq v) :: Γ) Δ (fun a w=>x.wpSIn (fw none) 0 P S a cs' w)):T β n ds Γ Δ (fun a w=>(Code.seq (.region id #[o0,o1] false) x).wpSIn (fw none) 0 P S a cs w):=fun m L a w hF hL hS=>by
 refine wpSIn_seq (wpSIn_region ?_)
 have hF1:FT n ds ((d,fEq v) :: Γ) m (a.put (some d) v):=hF.put (a1j hn.1) rfl
 have hF2:FT n ds ((e,fEq v) :: (d,fEq v) :: Γ) m ((a.put (some d) v).put (some e) v):=hF1.put (a1j hn.2) rfl
 have he0:∀ w,(execOp a.eval o0).run P w= .ok .recover w:=fun w=>by simp [execOp,h0,resolve,invoke,builtin,a1x,Sem.run,pure]
 have hev:(a.put (some d) v).eval (.tmp d)=v:=hF1.eval (x:= .tmp d) (ψ:=fEq v) (by simp [evT,lk])
 have he1:∀ w,(execOp (a.put (some d) v).eval o1).run P w= .ok (.value v) w:=fun w=>by simp [execOp,h1,hev,Sem.run,pure]
 have hl:List.range (#[o0,o1]:Array Oper).size=[0,1]:=rfl
 have i0:(#[o0,o1]:Array Oper)[0]? =some o0:=rfl
 have i1:(#[o0,o1]:Array Oper)[1]? =some o1:=rfl
 have w0:Region.wanted o0 (yielded #[o0,o1] a.tmps)=true:=by simp [Region.wanted,g0]
 have w1:Region.wanted o1 (yielded #[o0,o1] (a.put (some d) v).tmps)=true:=by simp [Region.wanted,g1]
 have hfin:wpOpsSIn (fw none) 0 P #[o0,o1] (Exit.thenS (x.wpSIn (fw none) 0 P S) S) [1] (a.put o0.dst v) cs' w:=by
  rw [d0];simp only [wpOpsSIn,i1,w1,if_true,he1];rw [d1];exact⟨fun _ _=>trivial,k m L _ w hF2 hL hS⟩
 rw [hl,wpOpsSIn]
 simp only [i0,w0,if_true,he0]
 refine⟨fun _ _=>a1F,?_⟩
 cases hrec:recoverD cs with
 | none=>rw [hrec]at hr;cases hr;exact hfin
 | some p=>rw [hrec]at hr;obtain⟨v',cs''⟩:=p;cases hr;exact hfin
theorem T_inS {x:Code} {S:Exit->Act->List Frame->World->Prop} {cs:List Frame} (k:T β n ds Γ Δ (x.wpIn (fw none) 0 P (fun e a w=>S e a cs w))):T β n ds Γ Δ (fun a w=>x.wpSIn (fw none) 0 P S a cs w):=
 k.mono fun _ _ h=>wpSIn_of_wpIn rfl h
theorem T_endD {fn:Func} {c₀:Frame} {cs cs':List Frame} {u':FrameMode} {Δ':List Tk} {e:Exit} (he:e= .ret\/e= .normal) (hr:fn.results=#[]) (hc:cs'={ c₀ with mode:=u' } :: cs) (hu:settle u'= .returning) (hd:Δ=Δ'):
 T β n [] Γ Δ (fun a w=>bodyPostS P fn c₀ cs (PostD β Δ') e a cs' w):=fun m L a w hF hL hS=>by
 subst hd
 have:a.defers=[]/\∃ u',cs'={ c₀ with mode:=u' } :: cs/\∃ v,(results fn a.tmps).run P w= .ok v w/\PostD β Δ (.returned v) u' w:=
  ⟨hF.Ae,u',hc, .tuple #[],by simp [results,hr,Sem.run,pure],⟨_,rfl⟩,hu,m,L,hS,hL⟩
 rcases he with rfl | rfl <;> exact this
theorem aDn {g:FuncId} {args:List Operand} {ts:Array TypeId} {vs:List Value} (hw:cN ops Γ o) (ho:o.op= .defer { callee:= .value (.func g),args:=args.toArray,argTypes:=ts }) (hd:o.dst=none) (ha:gS Γ args vs)
 (k:T β n ({ target:= .fn (.func g) #[],args:=vs.toArray } :: ds) Γ Δ (wpListIn (fw none) 0 P ops Q rest)):T β n ds Γ Δ (wpListIn (fw none) 0 P ops Q (o :: rest)):=fun m L a w hF hL hS=>by
 have hx:args.map a.eval=vs:=ha.eval (hF.evs o) (by rw [ho];intro x hx;simp [Op.operands,Call.operands,hx])
 simp only [wpListIn,hw.wanted hF,if_true]
 refine⟨fun _ _=>a1F,?_⟩
 have h3:o.semAt (fw none).round a.eval=execOp a.eval o:=Oper.semAt_none _ _
 have hrun:(execOp a.eval o).run P w= .ok (.defer { target:= .fn (.func g) #[],args:=vs.toArray }) w:=by
  have h4:args.toArray.map a.eval=(args.map a.eval).toArray:=by simp
  simp [execOp,ho,resolve,Act.eval,Deferred.ofValue,a1x,Sem.run,pure];rw [<- hx]
 rw [h3,hrun,Oper.uponIn_defer,hd]
 exact k m L _ w ⟨hF.size,by simp [Act.put,hF.Ae],hF.get⟩ hL hS
theorem vV {fn:Func} {g b c t:Nat} {T':TypeId} {φ ψ ψ':AK} {u:FrameMode} (hu:u≠ .run) (hr:fn.results=#[.tmp t, .cell c T']) (hv:gX Γ t φ) (hc:lk Γ c=some (fEq (ptr b))) (hT:Scal P T') (hg:Au P g)
 (hD:FnD P g [fEq (ptr b)] [aA b T' [ψ]] u [aA b T' [ψ']]) (hds:ds=[{ target:= .fn (.func g) #[],args:=#[ptr b] }]) (hΔ:Δ=[aA b T' [ψ]]):
 T β n ds Γ Δ (fun a w=>LeavesInM (fw none) 0 P fn a.tmps (fX β (dB [φ,ψ']) (fun _=>[])) a.defers u w):=fun m L a w hF hL hS=>by
 subst hΔ
 rw [hF.Ae,hds]
 refine⟨hu, .inr ⟨(fun h=>by cases h), .func g,#[],g,#[ptr b],rfl,?_,fun _ _=>a1F,?_⟩⟩
 ·have:=run_callFunc hg (#[ptr b]) w;simpa [invoke] using this
 ·have hS0:St β m (L++[]) w:=by rw [a0p];exact hS
  have hcall:=hD m L [ptr b] ⟨_,[],rfl,rfl,rfl⟩ hL w hS0.start;refine⟨a1F,fun c₀ cs hm hroom=>?_⟩
  obtain⟨_,hcall⟩:=hcall;obtain⟨e,u',w',fr,⟨⟨v,he⟩,hset,m',L',hS',hL'⟩,h2⟩:=hcall c₀ cs hm hroom;subst he;refine⟨_,u',w',fr,?_,h2⟩;simp only [hset];have hb:=back hS0 hS';rw [a0p]at hb;have hF':=hF.mono hS'.mle;obtain⟨χ,h3,h4⟩:=hv;obtain⟨v0,h5,h6⟩:=hF'.get t χ h3;obtain⟨v1,h7,h8⟩:=hF'.get c _ hc;have h8:v1=ptr b:=h8;subst h8;obtain⟨cs',h9,h10⟩:=aCl hL' hb;obtain⟨x,cr,e1,e2,e3⟩:=h9;have e3:cr=[]:=e3;subst e1 e3;have hcell:=h10 0 x rfl;have hload:(loadVar T' ⟨b,0,none⟩).run P w'= .ok x w':=by simp [loadVar,a1x,aE8 hT,Sem.run,pure,hcell]
  refine⟨.tuple #[v0,x],?_,m',[],?_,_,rfl,⟨[v0,x],rfl,v0,[x],rfl,h4 m' v0 h6,x,[],rfl,e2,rfl⟩,rfl⟩
  ·simp [results,hr,a0a,h5,h7,a1x,Sem.run,pure,ptr,asAddr,hload]
  ·exact hb.drop (List.nil_sublist _)
theorem aCb {fn:Func} {Φ:AK} {Δ':Value->List Tk} (k:T β n ds Γ Δ (fun a w=>LeavesInM (fw none) 0 P fn a.tmps (fX β Φ Δ') a.defers .returning w)):T β n ds Γ Δ (bodyPostM (fw none) 0 P fn (fX β Φ Δ') .ret):=k
theorem aDZ {fn:Func} {Φ:AK} {Δ':Value->List Tk} {c:List PanicEntry} (k:T β n ds Γ Δ (fun a w=>LeavesInM (fw none) 0 P fn a.tmps (fX β Φ Δ') a.defers (.panicking c) w)):T β n ds Γ Δ (bodyPostM (fw none) 0 P fn (fX β Φ Δ') (.panic c)):=k
theorem aLl {S T':TypeId} {x:Operand} {v:Value} (ho:o.op= .typeAssert x S T' true) (hx:Has Γ x (fEq (.iface T' v))) (hT:niB P T'=true) {z:Value} (hz:cX P T'=some z):OpT P Γ [] o (dB [fEq v,aH true]):=
 sW ho hx hT hz (by simp [eA])
def unI (T:TypeId):Value->Option Int
 | .iface t (.agg vs)=>if t=T then(match vs.toList with | [.int .i64 e]=>some e | _=>none) else none
 | _=>none
theorem aC3 {T:TypeId} {v:Value} {e:Int} (h:unI T v=some e):v= .iface T (.agg #[.int .i64 e]):=by
 unfold unI at h
 split at h
 ·rename_i t vs;split at h
  ·subst_vars
   split at h
   ·rename_i e' hv;cases h;have:vs=#[.int .i64 e]:=by rw [<- a0f (xs:=vs),hv]
    rw [this]
   ·cases h
  ·cases h
 ·cases h
def MethAt (P:Program) (T:TypeId) (u:Value) (name:String) (f:FuncId):Prop:=∀ w,(method (P.types.size+Made.depth) T u name).run P w= .ok (f,u) w
def Inv (P:Program) (v:Value) (name:String) (φs:List AK) (Φ:AK):Prop:=∃ t u f,v= .iface t u/\MethAt P t u name f/\Au P f/\FnS P f (fEq u :: φs) [] Φ (fun _=>[])
theorem FnS.args {f:FuncId} {φs ψs:List AK} {Φ:AK} {Δ':Value->List Tk} (h:FnS P f φs Δ Φ Δ') (k:aK ψs φs):FnS P f ψs Δ Φ Δ':=fun m L vs hv hL=>h m L vs (k.all hv) hL
theorem wp_callI {x:Operand} {name:String} {args:List Operand} {ts:Array TypeId} {t:TypeId} {u:Value} {f:FuncId} {vs:List Value} {post:Mem->Ak->Ending->Prop} {m:Mem} {L R:Ak} {a:Act} {w:World} {K:Act->World->Prop}
 (ho:o.op= .call { callee:= .invoke x name,args:=args.toArray,argTypes:=ts }) (hx:a.eval x= .iface t u) (hm:MethAt P t u name f) (hall:u :: args.map a.eval=vs) (hf:Au P f) (hc:FnX P f vs m L post) (hS:St β m (L++R) w)
 (kret:∀ m' L' v w',Mem.le m m'->post m' L' (.returned v)->St β m' (L'++R) w'->K (a.put o.dst v) w')
 (kpan:∀ m' L' c w',Mem.le m m'->post m' L' (.panicked c)->St β m' (L'++R) w'->Q (.panic c) a w') (kout:∀ m' L',post m' L' .outgrown->False):o.wpIn (fw r) 0 P a w K Q:=by
 have hnd:gN o.op=false:=by rw [ho];rfl
 have h3:o.semAt (fw r).round a.eval=execOp a.eval o:=Oper.semAt_eq _ _ _ fun c hc=>by rw [hc]at hnd;cases hnd
 refine⟨fun _ _=>a1F,?_⟩
 have hrun:(execOp a.eval o).run P w= .ok (.enter f vs.toArray) w:=by
  have h4:args.toArray.map a.eval=(args.map a.eval).toArray:=by simp
  have h5:(#[u]++(args.map a.eval).toArray)=vs.toArray:=by rw [<- hall];simp
  have h6:(#[a.eval x]++args.toArray.map a.eval).extract 1 (#[a.eval x]++args.toArray.map a.eval).size=(args.map a.eval).toArray:=by
   apply Array.ext';simp [a1e]
  have h7:(#[a.eval x]++args.toArray.map a.eval)[0]? =some (a.eval x):=by simp
  have h8:(callMethod (.iface t u) name (args.map a.eval).toArray).run P w= .ok (.enter f vs.toArray) w:=by
   simp only [callMethod,a1x,run_program,a1w,hm w,h5,run_callFunc hf]
  simp only [execOp,ho,resolve,a1x];show((invoke (.fn (.method name) #[]) (#[a.eval x]++args.toArray.map a.eval)).run P w)=_
  rw [hx]at h6 h7;simp only [invoke];rw [hx,h7];simp only
  rw [h6];exact h8
 rw [h3,hrun,Oper.uponIn_enter]
 refine⟨(fun h=>by cases h),aDW ((hc w hS.start).mono fun e w' ⟨m',L',hS',hp⟩=>?_)⟩
 have hb:=back hS hS'
 cases e with
 | returned v=>exact kret m' L' v w' hS'.mle hp hb
 | panicked c=>exact kpan m' L' c w' hS'.mle hp hb
 | outgrown=>exact(kout m' L' hp).elim
variable {l:List NO} {e:Env'} {i:Nat} {od:Env'->OD} {G:Env'->Cf->(Nat->Tk)->Prop}
theorem N_callI {x:Operand} {name:String} {args:List Operand} {ts:Array TypeId} {v:Value} {φs:List AK} {Φ:AK} {d:Nat} {Δ':Oc->List Tk} (hod:od e= .op [] true (fun _=>Φ) Δ') (hτ:∀ b,Δ' b=[]) (hw:cN ops Γ o) (ho:o.op= .call { callee:= .invoke x name,args:=args.toArray,argTypes:=ts }) (hd:o.dst=some d)
 (hx:Has Γ x (fEq v)) (hargs:aP Γ args φs) (hi:Inv P v name φs Φ)
 (k:∀ b,NC P r ops G l (e.set i b) (lk ((d,Φ) :: Γ)) (dOf Δ)):NC P r ops G ((i,o,od) :: l) e (lk Γ) (dOf Δ):=by
 refine⟨?_,fun b=>?_⟩
 ·simp only [hod];refine⟨hw,?_,fun b=>by rw [hτ];rfl⟩
  intro β n ds m L R a w K Q hF hL hS hk;have hL0:L=[]:=hL;subst hL0;have he:=lG hF;obtain⟨t,u,f,hv,hm,hf,hc⟩:=hi;subst hv;have hxx:=he.get hx (by rw [ho];simp [Op.operands,Call.operands])
  refine wp_callI (L:=[]) ho hxx hm rfl hf (hc m [] _ ⟨_,_,rfl,rfl,hargs.all' he (by rw [ho];intro x hx;simp [Op.operands,Call.operands,hx])⟩ rfl) hS (fun m' L' v w' hle ⟨u,hv,h3,h4⟩ hS'=>?_) (fun m' L' c w' _ ⟨u,hv,_⟩ _=>by cases hv) (fun m' L' ⟨u,hv,_⟩=>by cases hv)
  cases hv;have h4:L'=[]:=h4;subst h4;exact hk default m' [] v w' hle h3 (by simp only [OD.wr,if_true];rw [hτ];rfl) hS'
 ·simp only [hod,fJ,eZ,if_true,hd,hτ];rw [aBy];exact k b
end
end Go.SW
namespace Go
section
variable {F:Fence} {n:Nat} {P:Program} {Q:Exit->Act->World->Prop} {a:Act} {w:World} {b:Frame} {k:List Item} {cs:List Frame}
theorem SW.stepR_scope {c:Code}:step P (lone (b.atR a (.code (.scope c) :: k)) cs w)= .next (lone (b.atR a (.code c :: .inScope c :: k)) cs w):=
 step_lone_go (by simp [stepG,stepG.exec,Frame.atR])
theorem SW.stepR_inScope {c:Code}:step P (lone (b.atR a (.inScope c :: k)) cs w)= .next (lone (b.atR a k) cs w):=
 step_lone_go (by simp [stepG,stepG.exec,Frame.atR])
theorem SW.wpIn_scope {c:Code} (h:c.wpIn F n P (Exit.noGoto Q) a w):(Code.scope c).wpIn F n P Q a w:=by
 intro b k cs hro hb hr
 have h0:(lone (b.atR a (.code (.scope c) :: k)) cs w).fenced P F:=fenced_calm hb hr rfl
 obtain⟨e,a₁,w₁,hq,harr⟩:=h b (.inScope c :: k) cs hro hb hr
 cases e with
 | normal=>exact⟨.normal,a₁,w₁,hq, .head h0 SW.stepR_scope (StepsIn.trans harr (.one (fenced_calm hb hr rfl) SW.stepR_inScope))⟩
 | exit id=>exact⟨.exit id,a₁,w₁,hq,fun k' hk=> .head h0 SW.stepR_scope (harr.1 k' (by simp [exitTo,hk])),fun hr' hk=>let ⟨k₁,h1,h2⟩:=harr.2 hr' (by simp [exitTo,hk]);⟨k₁,h1, .head h0 SW.stepR_scope h2⟩⟩
 | goto l=>exact hq.elim
 | ret=>exact⟨_,a₁,w₁,hq, .of_steps (.one h0 SW.stepR_scope) harr⟩
 | panic ch=>exact⟨_,a₁,w₁,hq, .of_steps (.one h0 SW.stepR_scope) harr⟩
 | outgrown=>exact⟨_,a₁,w₁,hq, .of_steps (.one h0 SW.stepR_scope) harr⟩
end
end Go
namespace Go.SW
open Go.SX
section
variable {P:Program} {β:bL} {n:Nat} {ds:List Deferred} {Γ:Ctx} {Δ R:List Tk} {r:Option Nat} {Q Q':Exit->Act->World->Prop} {F:Act->World->Prop} {ops:Array Oper} {o:Oper} {rest:List Oper}
variable {κ α:Type} {kd:Key κ} {vf:α->AK} {g g1:aM κ α}
structure IterIs (kd:Key κ) (vf:α->AK) (g g1:aM κ α) (m:Mem) (es:Array MapEntry) (clock since:Nat) (AP:Array Nat) (c0:Nat):Prop where
 is:iB kd vf g m es clock
 old:∀ e∈es.toList,e.born<since
 sc:since<=c0
 cl:since<=clock
 part:∀ e∈es.toList,∀ k,e.key=kd.val k->g1.get k=if e.born∈AP.toList then g.get k else none
 none:∀ k,g.get k=none->g1.get k=none
 size:g1.size=es.toList.countP (fun e=>decide (e.born∈AP.toList))
end
open Go.SX
inductive OF where
 | pure (φ:AK)
 | own (f:Value->Tk) (h:∀ v m H,(f v).p m H->eH v)
def OF.tk:OF->Value->Tk
 | .pure φ,v=>⟨fun m H=>H=[]/\φ.p m v/\eH v,(by grind [AK.mono])⟩
 | .own f _,v=>f v
def AllD:List OF->Mem->List Value->Ak->Prop
 | [],_,cs,H=>cs=[]/\H=[]
 | f :: fs,m,cs,H=>∃ c r H1 H2,cs=c :: r/\H=H1++H2/\(f.tk c).p m H1/\AllD fs m r H2
structure OTy (α:Type) where
 sz:Nat
 An:α->List OF
 len:∀ x,(An x).length=sz
section
variable {P:Program} {β:bL} {n:Nat} {ds:List Deferred} {Γ:Ctx} {Δ R:List Tk} {r:Option Nat} {Q Q':Exit->Act->World->Prop} {F:Act->World->Prop} {ops:Array Oper} {o:Oper} {rest:List Oper}
theorem uW {α:Type} {t:Ty α} {z:α} {zs:List α} {T e by':Nat} {x:Operand} {kd:IntKind} {k:Int} {zv:Value} (ho:o.op= .makeSlice T x x) (hx:Has Γ x (bI kd k)) (hT:ElT P T e t.sz by') (hb:Nat.ble by' 1000=true) (hz:SX.Zero P e zv) (hzz:aK (zv.cells.toList.map fEq) (t.An z)) (h:mk z k=some zs):
 OpN P Γ o (fun b=> .slice (some ⟨b,0,none⟩) zs.length zs.length) (fun b=>aC (.slice (some ⟨b,0,none⟩) zs.length zs.length) e t zs):=
 ⟨by rw [ho];rfl,fun β m a w he _=>by
  obtain⟨ht,i,z',hi,h1,h2,hz',hzs⟩:=hT.spell;have hb:=a1j hb;have:z'=zv:=by
   unfold SX.Zero cX at hz
   grind
  subst this;unfold mk at h;split at h
  ·rename_i hk;cases h;obtain⟨j,rfl⟩:∃ j:Nat,k=(j:Int):=⟨k.toNat,by omega⟩
   have hj:j<=1000000000:=by omega
   have hx:a.eval x=_:=he.get hx (by rw [ho];simp [Op.operands])
   have hr:=run_make (P:=P) w T e i z' ht hi hz' kd kd j j (by omega) (by omega) (by
    rw [h2];have:by'*j<=1000*1000000000:=Nat.mul_le_mul hb hj
    omega) (by omega)
   simp only [a0n]at hr ⊢;rw [h1]at hr;refine⟨.cells (madeCells z'.cells (j*t.sz)) e,?_,?_⟩
   ·simp_all [execOp]
   ·have hmade:=aDY (m:=m) (hzz.all (jG z'.cells.toList)) j;rw [<- aC4]at hmade;have hzl:z'.cells.toList.length=t.sz:=by simpa using hzs
    rw [hzl]at hmade;simp only [a0f]at hmade;have hl:=hmade.length;rw [lC]at hl;refine⟨_,(by grind [gI]),by simpa using hj,hmade⟩
  ·cases h⟩
def FrzL:List OF->List AK->Prop
 | [],φs=>φs=[]
 | f :: fs,φs=>∃ φ r,φs=φ :: r/\(∀ v,Frz (f.tk v) φ v)/\FrzL fs r
def IndF (φ:AK):Prop:=∀ m m' v,φ.p m v->φ.p m' v
def IndK (τ:Tk):Prop:=∀ m m' H,τ.p m H->τ.p m' H
def IndL (fs:List OF):Prop:=∀ f∈fs,∀ v,IndK (f.tk v)
end
open Go.SX
open Classical in
def LendOK (Λ:List (Value × AK)) (m:Mem):Prop:=∀ p∈Λ,p.2.p m p.1
def FrzT (Δ:List Tk) (Λ:List (Value × AK)):Prop:=∀ m L,cD Δ m L->∀ m',Mem.le m m'->(∀ x∈L,m' x.1=some x.2)->LendOK Λ m'
def EntW (Λ:List (Value × AK)) (ψ φ:AK):Prop:=∀ m u,LendOK Λ m->ψ.p m u->φ.p m u
def EntWL (Λ:List (Value × AK)):List AK->List AK->Prop
 | [],φs=>φs=[]
 | ψ :: ψs,φs=>∃ φ r,φs=φ :: r/\EntW Λ ψ φ/\EntWL Λ ψs r
def HasW (Γ:Ctx) (Λ:List (Value × AK)):List Operand->List AK->Prop
 | [],φs=>φs=[]
 | x :: xs,φs=>∃ φ r ψ,φs=φ :: r/\evT Γ x=some ψ/\EntW Λ ψ φ/\HasW Γ Λ xs r
section
variable {P:Program} {β:bL} {n:Nat} {ds:List Deferred} {Γ:Ctx} {Δ R:List Tk} {r:Option Nat} {Q Q':Exit->Act->World->Prop} {F:Act->World->Prop} {ops:Array Oper} {o:Oper} {rest:List Oper}
def AsmL:List OF->List AK->List Tk->Prop
 | [],φs,Δ=>φs=[]/\Δ=[]
 | .pure ψ :: fs,φs,Δ=>∃ φ r,φs=φ :: r/\Ent φ ψ/\eJ ψ/\AsmL fs r Δ
 | .own f _ :: fs,φs,Δ=>∃ u r Δ',φs=fEq u :: r/\Δ=f u :: Δ'/\AsmL fs r Δ'
variable {l:List NO} {e:Env'} {i:Nat} {od:Env'->OD} {G:Env'->Cf->(Nat->Tk)->Prop}
end
open Go.SX
theorem FnS.frz {P:Program} {f:FuncId} {args:List AK} {Δ:List Tk} {τ:Value->Tk} {φ:AK} (h:FnS P f args Δ dP (fun v=>[τ v])) (hf:∀ v,Frz (τ v) φ v):FnS P f args Δ φ (fun _=>[]):=fun m L vs hv hL w hS=>by
 refine(h m L vs hv hL w hS).mono fun e w' ⟨m',L',hS',v,he,_,hT⟩=>?_
 obtain⟨H,R,e1,h1,h2⟩:=hT
 have h2:R=[]:=h2
 subst h2 e1
 obtain⟨m'',h3,h4,h5⟩:=uO hS'
 exact⟨m'',[],h4,v,he,hf v m' H h1 m'' h3 h5,rfl⟩
open Go.SX
def fOpt {α:Type} (t:Ty α) (x:Option α):AK:=⟨fun m v=>(x=none/\v= .pointer none)\/∃ y,x=some y/\(aL t y).p m v,(by grind [AK.mono])⟩
theorem ent_optS {α:Type} {t:Ty α} {y:α}:Ent (aL t y) (fOpt t (some y)):=fun _ _ h=> .inr ⟨y,rfl,h⟩
theorem pI {α:Type} {t:Ty α}:Ent (fEq (.pointer none)) (fOpt t none):=fun _ _ h=> .inl ⟨rfl,h⟩
theorem oW {α:Type} {t:Ty α} {x:Option α} {y:α} (h:x=some y):Ent (fOpt t x) (aL t y):=fun m v k=>by
 rcases k with⟨e,_⟩ | ⟨z,e,hz⟩
 ·rw [h]at e;cases e
 grind
section
variable {P:Program} {Γ:Ctx} {o:Oper}
def andI (k:IntKind) (x y:Int):Int:=k.wrap (BitVec.ofInt k.bits x &&& BitVec.ofInt k.bits y).toNat
def shrI (k:IntKind) (x y:Int):Option Int:=if y<0 then none else some (x.fdiv (2 ^ (min y.toNat k.bits)))
end
section
variable {β:bL} {n:Nat} {ds:List Deferred} {Γ:Ctx} {F:Act->World->Prop} {a0 a1 a2 a3 a4 a5 a6 a7 a8 a9 b0 b1 b2 b3 b4 b5 b6 b7 b8 b9 c0 c1 c2 c3 c4 c5 c6 c7 c8 c9 d:Tk} {R:List Tk}
theorem bH (h:T β n ds Γ (d :: a0 :: R) F):T β n ds Γ (a0 :: d :: R) F:=nB (a1d (l₁:=[a0])) h
theorem dK (h:T β n ds Γ (d :: a0 :: a1 :: R) F):T β n ds Γ (a0 :: a1 :: d :: R) F:=nB (a1d (l₁:=[a0,a1])) h
theorem cZ (h:T β n ds Γ (d :: a0 :: a1 :: a2 :: R) F):T β n ds Γ (a0 :: a1 :: a2 :: d :: R) F:=nB (a1d (l₁:=[a0,a1,a2])) h
theorem bG (h:T β n ds Γ (d :: a0 :: a1 :: a2 :: a3 :: R) F):T β n ds Γ (a0 :: a1 :: a2 :: a3 :: d :: R) F:=nB (a1d (l₁:=[a0,a1,a2,a3])) h
theorem cP (h:T β n ds Γ (d :: a0 :: a1 :: a2 :: a3 :: a4 :: R) F):T β n ds Γ (a0 :: a1 :: a2 :: a3 :: a4 :: d :: R) F:=nB (a1d (l₁:=[a0,a1,a2,a3,a4])) h
theorem aV (h:T β n ds Γ (d :: a0 :: a1 :: a2 :: a3 :: a4 :: a5 :: R) F):T β n ds Γ (a0 :: a1 :: a2 :: a3 :: a4 :: a5 :: d :: R) F:=nB (a1d (l₁:=[a0,a1,a2,a3,a4,a5])) h
theorem dI (h:T β n ds Γ (d :: a0 :: a1 :: a2 :: a3 :: a4 :: a5 :: a6 :: R) F):T β n ds Γ (a0 :: a1 :: a2 :: a3 :: a4 :: a5 :: a6 :: d :: R) F:=nB (a1d (l₁:=[a0,a1,a2,a3,a4,a5,a6])) h
theorem T_fr8 (h:T β n ds Γ (d :: a0 :: a1 :: a2 :: a3 :: a4 :: a5 :: a6 :: a7 :: R) F):T β n ds Γ (a0 :: a1 :: a2 :: a3 :: a4 :: a5 :: a6 :: a7 :: d :: R) F:=nB (a1d (l₁:=[a0,a1,a2,a3,a4,a5,a6,a7])) h
theorem T_fr9 (h:T β n ds Γ (d :: a0 :: a1 :: a2 :: a3 :: a4 :: a5 :: a6 :: a7 :: a8 :: R) F):T β n ds Γ (a0 :: a1 :: a2 :: a3 :: a4 :: a5 :: a6 :: a7 :: a8 :: d :: R) F:=nB (a1d (l₁:=[a0,a1,a2,a3,a4,a5,a6,a7,a8])) h
end
open Go.SX
theorem aIw {β:bL} {m:Mem} {L:Ak} {w:World} (h:St β m L w) (hfp:β.fp=[]) (may:MemPlace->Prop):β.w.keptBut w may:=by
 refine⟨h.os,h.output,fun i hi=>?_⟩
 grind [St.frame]
def jL (W:World):Mem:=fun b=>W.heap[b]?
theorem st_memOf (W:World):St ⟨W,jL W,[]⟩ (jL W) [] W:=
 ⟨fun _ _ h=>h,fun x h=>(by cases h),fun x h=>(by cases h),List.nodup_nil,Mem.le_refl _,fun _ hb=>absurd rfl hb,fun x h=>(by cases h),a1k _,fun _ _ _=>rfl,rfl,rfl,rfl⟩
theorem FnS.calls {P:Program} {f:FuncId} {args:List AK} {Φ:AK} {W:World} {vs:List Value} (h:FnS P f args [] Φ (fun _=>[])) (hv:aX args (jL W) vs):
 Calls P f vs.toArray W fun e w'=>∃ m' v,e= .returned v/\Φ.p m' v/\St ⟨W,jL W,[]⟩ m' [] w':=
 (h (jL W) [] vs hv rfl W (st_memOf W)).mono fun e w' ⟨m',L',hS,v,he,hp,hL⟩=>⟨m',v,he,hp,by have:L'=[]:=hL;subst this;exact hS⟩
open Go.SX
theorem hh {Γ:Ctx} {x:Operand} {φ:AK} (h:evT Γ x=some φ:=by exact rfl):Has Γ x φ:=has h
theorem bs {α γ:Type} {o:Option α} {f:α->Option γ} {r:γ} {G:Prop} (k:∀ x,o=some x->f x=some r->G) (h:o.bind f=some r):G:=let ⟨x,h1,h2⟩:=bind_some h;k x h1 h2
theorem is {γ:Type} {p:Prop} [Decidable p] {a b:Option γ} {r:γ} {G:Prop} (k:decide p=true->a=some r->G) (k':decide p=false->b=some r->G) (h:(if p then a else b)=some r):G:=by grind
theorem cs {γ:Type} {c:Bool} {a b:Option γ} {r:γ} {G:Prop} (k:c=true->a=some r->G) (k':c=false->b=some r->G) (h:(bif c then a else b)=some r):G:=by grind
section
variable {P:Program} {β:bL} {n:Nat} {ds:List Deferred} {Γ:Ctx} {Δ:List Tk} {r:Option Nat} {Q Q':Exit->Act->World->Prop} {N F:Act->World->Prop} {ops:Array Oper} {o:Oper} {rest:List Oper}
theorem Sr {id:Nat} {l:List Oper} {y:Code} (h:T β n ds Γ Δ (wpListIn (fw r) 0 P l.toArray (Exit.then (y.wpIn (fw r) 0 P Q) Q) l)):T β n ds Γ Δ ((Code.seq (Code.region id l.toArray false) y).wpIn (fw r) 0 P Q):=aG (aFv h)
theorem Nn (h:T β n ds Γ Δ N):T β n ds Γ Δ (wpListIn (fw r) 0 P ops (Exit.then N Q) []):=T_nil (aGi h)
theorem Rr (h:T β n ds Γ Δ (Q .ret)):T β n ds Γ Δ (Code.ret.wpIn (fw r) 0 P (Exit.then N Q)):=T_retc (aFA h)
theorem Yy {d:Nat} {φ:AK} (h:OpT P Γ [] o φ) (k:T β n ds ((d,φ) :: Γ) Δ (wpListIn (fw r) 0 P ops Q rest)) (hw:cN ops Γ o:=by exact trivial) (hd:o.dst=some d:=by exact rfl) (hn:Nat.ble (d+1) n=true:=by exact rfl):T β n ds Γ Δ (wpListIn (fw r) 0 P ops Q (o :: rest)):=T_y hw hd hn h k
theorem Ym {d:Nat} {x:Operand} {φ:AK} (k:T β n ds ((d,φ) :: Γ) Δ (wpListIn (fw r) 0 P ops Q rest)) (hw:cN ops Γ o:=by exact trivial) (hd:o.dst=some d:=by exact rfl) (hn:Nat.ble (d+1) n=true:=by exact rfl) (ho:o.op= .move x:=by exact rfl) (hx:evT Γ x=some φ:=by exact rfl):
 T β n ds Γ Δ (wpListIn (fw r) 0 P ops Q (o :: rest)):=T_y hw hd hn (o_move ho (has hx)) k
theorem Ya {d:Nat} {x:Operand} {φ:AK} (k:T β n ds ((d,φ) :: Γ) Δ (wpListIn (fw r) 0 P ops Q rest)) (hw:cN ops Γ o:=by exact trivial) (hd:o.dst=some d:=by exact rfl) (hn:Nat.ble (d+1) n=true:=by exact rfl) (ho:o.op= .assign x:=by exact rfl) (hx:evT Γ x=some φ:=by exact rfl):
 T β n ds Γ Δ (wpListIn (fw r) 0 P ops Q (o :: rest)):=T_y hw hd hn (aBK ho (has hx)) k
theorem Sc {t:Nat} {φ:AK} {Γ':Ctx} (k:fM Γ' Γ) (h:lk Γ t=some φ:=by exact rfl):fM ((t,φ) :: Γ') Γ:=fM.cons (bO h) k
def GW (ops:Array Oper) (Γ:Ctx) (o:Oper) (c want:Bool):Prop:=∃ j d,o.guard=some (j,want)/\(ops[j]?).bind (·.dst)=some d/\lk Γ d=some (aH c)
theorem GW.wants {c want:Bool} (h:GW ops Γ o c want) (hc:c=want):cN ops Γ o:=by
 obtain⟨j,d,h1,h2,h3⟩:=h
 grind [cN]
theorem GW.unwants {c want:Bool} (h:GW ops Γ o c want) (hc:c≠want):wC ops Γ o:=by
 obtain⟨j,d,h1,h2,h3⟩:=h
 grind [nb,wC]
theorem Yg {d:Nat} {φ:AK} {c want:Bool} (hc:c=want) (h:OpT P Γ [] o φ) (k:T β n ds ((d,φ) :: Γ) Δ (wpListIn (fw r) 0 P ops Q rest)) (hg:GW ops Γ o c want:=by exact⟨_,_,rfl,rfl,rfl⟩) (hd:o.dst=some d:=by exact rfl) (hn:Nat.ble (d+1) n=true:=by exact rfl):
 T β n ds Γ Δ (wpListIn (fw r) 0 P ops Q (o :: rest)):=T_y (hg.wants hc) hd hn h k
theorem Yo {d:Nat} {φ:AK} {τ:Tk} (i:Nat) (hτ:Δ[i]? =some τ) (h:OpT P Γ [τ] o φ) (k:T β n ds ((d,φ) :: Γ) Δ (wpListIn (fw r) 0 P ops Q rest)) (hw:cN ops Γ o:=by exact trivial) (hd:o.dst=some d:=by exact rfl) (hn:Nat.ble (d+1) n=true:=by exact rfl):
 T β n ds Γ Δ (wpListIn (fw r) 0 P ops Q (o :: rest)):=T_o1 i hw hτ hd hn h k
theorem Yh {d:Nat} {φ:AK} {τ:Tk} {c want:Bool} (i:Nat) (hτ:Δ[i]? =some τ) (hc:c=want) (h:OpT P Γ [τ] o φ) (k:T β n ds ((d,φ) :: Γ) Δ (wpListIn (fw r) 0 P ops Q rest)) (hg:GW ops Γ o c want:=by exact⟨_,_,rfl,rfl,rfl⟩) (hd:o.dst=some d:=by exact rfl) (hn:Nat.ble (d+1) n=true:=by exact rfl):
 T β n ds Γ Δ (wpListIn (fw r) 0 P ops Q (o :: rest)):=T_o1 i (hg.wants hc) hτ hd hn h k
end
end Go.SW
