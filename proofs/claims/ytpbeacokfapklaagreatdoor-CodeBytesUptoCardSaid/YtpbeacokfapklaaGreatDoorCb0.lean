/- Parts of the proof: lemmas, and the steps through the program. -/
import Derived.TacticsIn
import Derived.OrdersIn
import Derived.RangeFuncIn
import Derived.Below
import Derived.KernelRfl
import Derived.IntWalk
import Derived.RangeFuncLeaves
import Derived.RangeFuncRecord
import Derived.ArgAppend
import Derived.Laws.Append
import Derived.Laws.MakeOwn
import Derived.Great.BuildSlice
import Derived.Laws.Strings
import Derived.Maps.RangeRun
import Derived.RecoverIn
import Derived.Scope
import GoSem.ClaimChange
set_option linter.unusedVariables false
set_option linter.unusedSimpArgs false
set_option maxRecDepth 100000
set_option maxHeartbeats 2000000
abbrev a0a:=@_root_.Array.getD_eq_getD_getElem?
abbrev a0b:=@_root_.Array.getElem?_eq_some_iff
abbrev a0c:=@_root_.Array.getElem?_setIfInBounds_ne
abbrev a0d:=@_root_.Array.getElem?_toList
abbrev a0e:=@_root_.Array.length_toList
abbrev a0f:=@_root_.Bool.and_eq_true
abbrev a0g:=@_root_.Bool.eq_iff_iff
abbrev a0h:=@_root_.Bool.false_eq_true
abbrev a0i:=@_root_.Bool.not_true
abbrev a0j:=@_root_.Bool.or_eq_true
abbrev a0k:=@_root_.Int.natCast_zero
abbrev a0l:=@_root_.Int.pow_succ
abbrev a0m:=@_root_.Int.tdiv_eq_ediv_of_nonneg
abbrev a0n:=@_root_.Int.toNat_natCast
abbrev a0o:=@_root_.List.all_eq_true
abbrev a0p:=@_root_.List.append_assoc
abbrev a0q:=@_root_.List.append_nil
abbrev a0r:=@_root_.List.cons_append
abbrev a0s:=@_root_.List.drop_eq_getElem_cons
abbrev a0t:=@_root_.List.drop_eq_nil_of_le
abbrev a0u:=@_root_.List.eq_nil_of_length_eq_zero
abbrev a0v:=@_root_.List.ext_getElem?
abbrev a0w:=@_root_.List.flatMap_cons
abbrev a0x:=@_root_.List.flatMap_nil
abbrev a0y:=@_root_.List.getElem?_append_left
abbrev a0z:=@_root_.List.getElem?_cons_succ
abbrev a0A:=@_root_.List.getElem?_cons_zero
abbrev a0B:=@_root_.List.getElem?_eq_getElem
abbrev a0C:=@_root_.List.getElem?_eq_some_iff
abbrev a0D:=@_root_.List.getElem?_map
abbrev a0E:=@_root_.List.getElem?_set
abbrev a0F:=@_root_.List.getElem?_take
abbrev a0G:=@_root_.List.getElem?_toArray
abbrev a0H:=@_root_.List.getElem_mem
abbrev a0I:=@_root_.List.length_append
abbrev a0J:=@_root_.List.length_cons
abbrev a0K:=@_root_.List.length_map
abbrev a0L:=@_root_.List.length_nil
abbrev a0M:=@_root_.List.length_take
abbrev a0N:=@_root_.List.map_append
abbrev a0O:=@_root_.List.map_cons
abbrev a0P:=@_root_.List.mem_append
abbrev a0Q:=@_root_.List.mem_append_left
abbrev a0R:=@_root_.List.mem_append_right
abbrev a0S:=@_root_.List.mem_cons
abbrev a0T:=@_root_.List.mem_iff_getElem
abbrev a0U:=@_root_.List.mem_iff_getElem?
abbrev a0V:=@_root_.List.mem_map
abbrev a0W:=@_root_.List.mem_map_of_mem
abbrev a0X:=@_root_.List.mem_of_getElem?
abbrev a0Y:=@_root_.List.mem_singleton
abbrev a0Z:=@_root_.List.nil_append
abbrev a1a:=@_root_.List.nodup_append
abbrev a1b:=@_root_.List.nodup_cons
abbrev a1c:=@_root_.List.pairwise_append
abbrev a1d:=@_root_.List.pairwise_cons
abbrev a1e:=@_root_.List.perm_middle
abbrev a1f:=@_root_.List.take_append_drop
abbrev a1g:=@_root_.List.take_succ_eq_append_getElem
abbrev a1h:=@_root_.Nat.add_mul
abbrev a1i:=@_root_.Nat.blt_eq
abbrev a1j:=@_root_.Nat.eq_of_beq_eq_true
abbrev a1k:=@_root_.Nat.le_of_ble_eq_true
abbrev a1l:=@_root_.Nat.le_refl
abbrev a1m:=@_root_.Nat.le_trans
abbrev a1n:=@_root_.Nat.lt_of_lt_of_le
abbrev a1o:=@_root_.Nat.min_eq_left
abbrev a1p:=@_root_.Nat.mul_le_mul_right
abbrev a1q:=@_root_.Nat.zero_add
abbrev a1r:=@_root_.Nat.zero_le
abbrev a1s:=@_root_.Option.bind_eq_some_iff
abbrev a1t:=@_root_.Option.getD_some
abbrev a1u:=@_root_.Option.isNone_iff_eq_none
abbrev a1v:=@_root_.Option.map_eq_some_iff
abbrev a1w:=@_root_.Option.map_some
abbrev a1x:=@_root_.Option.ne_none_iff_exists'
abbrev a1y:=@_root_.Option.some.inj
abbrev a1z:=@_root_.Option.some.injEq
abbrev a1A:=@_root_.Go.Result.andThen_ok
abbrev a1B:=@_root_.Go.Sem.run_bind
abbrev a1C:=@_root_.cond_false
abbrev a1D:=@_root_.cond_true
abbrev a1E:=@_root_.decide_eq_false
abbrev a1F:=@_root_.decide_eq_true
abbrev a1G:=@_root_.if_neg
abbrev a1H:=@_root_.if_pos
abbrev a1I:=@_root_.trivial
namespace Go.SX
abbrev Mem:=Nat->Option Obj
abbrev AW:=List (Nat × Obj)
abbrev Env:=List (Nat × Value)
def Mem.le (m m':Mem):Prop:=∀ b o,m b=some o->m' b=some o
theorem Mem.le_refl (m:Mem):Mem.le m m:=fun _ _ h=>h
theorem Mem.le_trans {a b c:Mem} (h:Mem.le a b) (k:Mem.le b c):Mem.le a c:=fun x o e=>k x o (h x o e)
structure bA where
 w:World
 m:Mem
 fp:List Nat
structure St (β:bA) (m:Mem) (L:AW) (w:World):Prop where
 mem:∀ b o,m b=some o->w.heap[b]? =some o
 own:∀ x,x∈L->w.heap[x.1]? =some x.2
 apart:∀ x,x∈L->m x.1=none
 nodup:(L.map Prod.fst).Nodup
 mle:Mem.le β.m m
 Ag:∀ b,m b≠β.m b->β.w.heap.size<=b\/b∈β.fp
 keys:∀ x,x∈L->x.1<β.w.heap.size->x.1∈β.fp
 size:β.w.heap.size<=w.heap.size
 frame:∀ b,b<β.w.heap.size->b ∉ β.fp->w.heap[b]? =β.w.heap[b]?
 os:w.os=β.w.os
 output:w.output=β.w.output
 tape:w.tape=β.w.tape
def iE:Env->Nat->Option Value
 | [],_=>none
 | (s,v) :: r,t=>bif Nat.beq s t then some v else iE r t
structure Fr (n:Nat) (ds:List Deferred) (E:Env) (a:Act):Prop where
 size:a.tmps.size=n
 Aa:a.defers=ds
 get:∀ t v,iE E t=some v->a.tmps[t]? =some v
def ev (E:Env):Operand->Option Value
 | .tmp t=>iE E t
 | .const v=>some v
 | .global g=>some (.pointer (some ⟨g,0,none⟩))
 | .func f=>some (.func (.func f) #[] #[])
def evs (E:Env):List Operand->Option (List Value)
 | []=>some []
 | x :: xs=>match ev E x,evs E xs with
  | some v,some vs=>some (v :: vs)
  | _,_=>none
theorem Fr.ev {n:Nat} {ds:List Deferred} {E:Env} {a:Act} (h:Fr n ds E a) {x:Operand} {v:Value} (e:SX.ev E x=some v):a.eval x=v:=by
 cases x with
 | tmp t=>
  have:=h.get t v e
  simp_all [Act.eval]
 | const u=>simpa [SX.ev,Act.eval] using e
 | global g=>simpa [SX.ev,Act.eval] using e
 | func f=>simpa [SX.ev,Act.eval] using e
theorem Fr.evs {n:Nat} {ds:List Deferred} {E:Env} {a:Act} (h:Fr n ds E a):∀ {xs:List Operand} {vs:List Value},SX.evs E xs=some vs->xs.map a.eval=vs
 | [],_,e=>by simpa [SX.evs] using e
 | x :: xs,vs,e=>by
  simp only [SX.evs]at e;split at e
  ·rename_i v vs' h1 h2;cases e;simp [h.ev h1,h.evs h2]
  ·cases e
theorem Fr.put {n:Nat} {ds:List Deferred} {E:Env} {a:Act} (h:Fr n ds E a) {d:Nat} (hd:d<n) (v:Value):Fr n ds ((d,v) :: E) (a.put (some d) v):=by
 refine⟨by simp [Act.put,h.size],by simp [Act.put,h.Aa],fun t u hu=>?_⟩
 simp only [iE]at hu
 cases hb:Nat.beq d t with
 | true=>
  have hdt:=a1j hb;subst hdt;rw [hb]at hu;cases hu;have:d<a.tmps.size:=by rw [h.size];exact hd
  simp [Act.put,this]
 | false=>
  rw [hb]at hu;have hne:d≠t:=fun e=>by subst e;simp at hb
  simp [Act.put,a0c hne];exact h.get t u hu
def Sub (E' E:Env):Prop:=∀ p∈E',iE E p.1=some p.2
theorem Sub.nil {E:Env}:Sub [] E:=fun _ h=>by cases h
theorem Sub.cons {E' E:Env} {t:Nat} {v:Value} (h:iE E t=some v) (k:Sub E' E):Sub ((t,v) :: E') E:=by grind [Sub]
theorem look_mem {E:Env} {t:Nat} {v:Value} (h:iE E t=some v):(t,v)∈E:=by
 induction E with
 | nil=>cases h
 | cons p r ih=>
  grind [iE,_root_.Nat.eq_of_beq_eq_true]
theorem Fr.sub {n:Nat} {ds:List Deferred} {E E':Env} {a:Act} (h:Fr n ds E a) (hs:Sub E' E):Fr n ds E' a:=
 ⟨h.size,h.Aa,fun t v hv=>h.get t v (hs _ (look_mem hv))⟩
def K (β:bA) (n:Nat) (ds:List Deferred) (m:Mem) (L:AW) (E:Env) (F:Act->World->Prop):Prop:=
 ∀ a w,Fr n ds E a->St β m L w->F a w
section
variable {β:bA} {n:Nat} {ds:List Deferred} {m:Mem} {L:AW} {E:Env} {F G:Act->World->Prop}
theorem K.mono (h:K β n ds m L E F) (hf:∀ a w,F a w->G a w):K β n ds m L E G:=by grind [K]
end
abbrev fw (r:Option Nat):Fence:={ fn:=fun _=>True,depth:=none,alive:=false,round:=r }
section
variable {P:Program} {β:bA} {n:Nat} {ds:List Deferred} {m:Mem} {L:AW} {E:Env} {r:Option Nat} {Q Q':Exit->Act->World->Prop} {N:Act->World->Prop}
def At {ι:Type} (β:bA) (n:Nat) (ds:List Deferred) (I:ι->Mem->AW->Env->Prop) (i:ι) (a:Act) (w:World):Prop:=
 ∃ m L E,I i m L E/\Fr n ds E a/\St β m L w
theorem wV {J:Nat->Prop} (h:∃ k,J k):∃ k,J k/\∀ k',J k'->k<=k':=by
 obtain⟨k,hk⟩:=h
 induction k using Nat.strongRecOn with
 | _ k ih=>
  grind
end
def iH:Op->Bool
 | .defer _=>true
 | _=>false
def Wants (ops:Array Oper) (E:Env) (o:Oper):Prop:=
 match o.guard with
 | none=>True
 | some (j,want)=>∃ d,(ops[j]?).bind (·.dst)=some d/\iE E d=some (.bool want)
def asB:Value->Option Bool
 | .bool b=>some b
 | _=>none
def aCv (ops:Array Oper) (E:Env) (o:Oper):Prop:=
 ∃ j want d v,o.guard=some (j,want)/\(ops[j]?).bind (·.dst)=some d/\iE E d=some v/\asB v≠some want
theorem Fr.yielded {n:Nat} {ds:List Deferred} {E:Env} {a:Act} (h:Fr n ds E a) {ops:Array Oper} {j d:Nat} {v:Value}
 (hd:(ops[j]?).bind (·.dst)=some d) (hl:iE E d=some v):Go.yielded ops a.tmps j=asB v:=by
 have:=h.get d v hl
 simp only [Go.yielded,hd,Option.bind_some,this]
 cases v <;> rfl
theorem Wants.wanted {n:Nat} {ds:List Deferred} {E:Env} {a:Act} (h:Fr n ds E a) {ops:Array Oper} {o:Oper} (hw:Wants ops E o):
 Region.wanted o (Go.yielded ops a.tmps)=true:=by
 unfold Wants at hw
 unfold Region.wanted
 cases hg:o.guard with
 | none=>rfl
 | some p=>
  obtain⟨j,want⟩:=p;rw [hg]at hw;obtain⟨d,h1,h2⟩:=hw;simp only [h.yielded h1 h2,asB];simp
theorem aCv.wanted {n:Nat} {ds:List Deferred} {E:Env} {a:Act} (h:Fr n ds E a) {ops:Array Oper} {o:Oper} (hw:aCv ops E o):
 Region.wanted o (Go.yielded ops a.tmps)=false:=by
 obtain⟨j,want,d,v,hg,h1,h2,h3⟩:=hw
 grind [Region.wanted,Fr.yielded]
def scalB (P:Program) (T:TypeId):Bool:=match P.underlying T with
 | some (.struct _) | some (.array _ _) | none=>false
 | some _=>true
def iX (P:Program) (T:TypeId):Prop:=scalB P T=true
def aggB (P:Program) (T:TypeId) (k:Nat):Bool:=match P.underlying T,P.info? T with
 | some (.struct _),some i | some (.array _ _),some i=>i.size==k
 | _,_=>false
def jA (P:Program) (T:TypeId) (k:Nat):Prop:=aggB P T k=true
def aAw (P:Program) (S f:Nat):Option Nat:=match P.underlying S with
 | some (.struct fs)=>match fs[f]? with
  | some fd=>match P.info? fd.type with
   | some i=>if i.size=0 then none else some fd.offset
   | none=>none
  | none=>none
 | _=>none
def qG (P:Program) (S f k:Nat):Prop:=aAw P S f=some k
def qD (P:Program) (T:TypeId):Option Nat:=match P.underlying T with
 | some (.slice e)=>(P.info? e).map (·.size)
 | _=>none
def kI (P:Program) (T k:Nat):Prop:=qD P T=some k
def pU (P:Program) (T:TypeId) (d:TypeDesc):Prop:=P.underlying T=some d
theorem run_underlying {P:Program} {T:TypeId} {d:TypeDesc} (h:P.underlying T=some d) (w:World):(underlying T).run P w= .ok d w:=by
 simp_all [underlying]
theorem run_typeInfo {P:Program} {T:TypeId} {i:TypeInfo} (h:P.info? T=some i) (w:World):(typeInfo T).run P w= .ok i w:=by
 simp_all [typeInfo]
theorem run_sizeOf {P:Program} {T:TypeId} {i:TypeInfo} (h:P.info? T=some i) (w:World):(sizeOf T).run P w= .ok i.size w:=by
 simp [sizeOf,a1B,run_typeInfo h,Sem.run]
theorem aDl {P:Program} {T:TypeId} (h:iX P T) (w:World):(isAgg T).run P w= .ok false w:=by
 unfold iX scalB at h
 cases hu:P.underlying T with
 | none=>rw [hu]at h;cases h
 | some d=>
  rw [hu]at h;cases d <;> simp_all [isAgg,_root_.Go.Sem.run_bind,run_underlying hu,Sem.run,pure]
theorem zG {P:Program} {T:TypeId} {k:Nat} (h:jA P T k) (w:World):(isAgg T).run P w= .ok true w:=by
 unfold jA aggB at h
 cases hu:P.underlying T with
 | none=>rw [hu]at h;cases h
 | some d=>
  rw [hu]at h;cases d <;> simp_all [isAgg,_root_.Go.Sem.run_bind,run_underlying hu,Sem.run,pure]
theorem aAM {P:Program} {T:TypeId} {k:Nat} (h:jA P T k) (w:World):(sizeOf T).run P w= .ok k w:=by
 unfold jA aggB at h
 grind [run_sizeOf]
def sD (h:Nat->Option Obj) (p:Addr):Option Value:=match h p.block with
 | some (.cells c _ _)=>if p.spot.isSome then none else c[p.off]?
 | _=>none
def Mem.cell (m:Mem) (p:Addr):Option Value:=sD m p
theorem Mem.cell_mono {m m':Mem} (h:Mem.le m m') {p:Addr} {v:Value} (e:m.cell p=some v):m'.cell p=some v:=by
 unfold Mem.cell sD at *
 cases hb:m p.block with
 | none=>rw [hb]at e;cases e
 | some o=>rw [h _ _ hb];rw [hb]at e;exact e
theorem St.cell {β:bA} {m:Mem} {L:AW} {w:World} (h:St β m L w) {p:Addr} {v:Value} (e:m.cell p=some v):w.cell? p=some v:=by
 unfold Mem.cell sD at e
 unfold World.cell?
 grind [mem]
theorem rQ {α:Type} {l:List α} {k:Nat} {x:α} (h:l[k]? =some x):x∈l:=a0X h
theorem St.own_cell {β:bA} {m:Mem} {L:AW} {w:World} (h:St β m L w) {k b:Nat} {c:Array Value} {T:TypeId} {fz:Nat × Nat} {p:Addr} {v:Value}
 (hk:L[k]? =some (b, .cells c T fz)) (hb:p.block=b) (hs:p.spot=none) (hc:c[p.off]? =some v):w.cell? p=some v:=by
 grind [own,World.cell?]
theorem aCa {P:Program} {T:TypeId} {w:World} {p:Addr} {v:Value} (hT:iX P T) (h:w.cell? p=some v):
 (Instr.loadAt T (.pointer (some p))).run P w= .ok v w:=by
 simp [Instr.loadAt,Instr.sureAddr,loadVar,a1B,Sem.run,pure,aDl hT,h]
theorem run_loadCellsFrom {P:Program} {w:World} {p:Addr}:∀ (cs:List Value) (i:Nat) (acc:Array Value),(∀ j v,cs[j]? =some v->w.cell? (p.add (i+j))=some v) ->
 (loadCellsFrom p i cs.length acc).run P w= .ok (acc++cs.toArray) w
 | [],i,acc,_=>by simp [loadCellsFrom,Sem.run,pure]
 | c :: cs,i,acc,h=>by
  have h0:w.cell? (p.add i)=some c:=h 0 c rfl;have ih:=run_loadCellsFrom (P:=P) cs (i+1) (acc.push c) (fun j v hj=>by
   have:=h (j+1) v hj
   rwa [show i+1+j=i+(j+1)from by omega])
  simp_all [loadCellsFrom]
theorem aCl {P:Program} {T:TypeId} {w:World} {p:Addr} (cs:List Value) (hT:jA P T cs.length)
 (h:∀ j v,cs[j]? =some v->w.cell? (p.add j)=some v):(Instr.loadAt T (.pointer (some p))).run P w= .ok (.agg cs.toArray) w:=by
 have:=run_loadCellsFrom (P:=P) (w:=w) (p:=p) cs 0 #[] (fun j v hj=>by simpa using h j v hj)
 simp [Instr.loadAt,Instr.sureAddr,loadVar,a1B,Sem.run,pure,zG hT,aAM hT,loadCells,this]
section
variable {P:Program} {β:bA} {n:Nat} {ds:List Deferred} {m:Mem} {L:AW} {E:Env} {o:Oper}
def Sl (v:Value) (len es:Nat) (q:Nat->Addr):Prop:=∃ a cap,v= .slice a len cap/\len<=cap/\∀ i,i<len->∃ p,a=some p/\p.add (i*es)=q i
theorem wrap64_id {i:Int} (h1:-9223372036854775808<=i) (h2:i<=9223372036854775807):IntKind.i64.wrap i=i:=IntWalk.i64_in _ ⟨h1,h2⟩
end
theorem tD {w:World} {b:Nat} {o:Obj} (h:w.heap[b]? =some o):b<w.heap.size:=(a0b.1 h).1
section
variable {β:bA} {m:Mem} {L:AW} {w:World}
theorem St.lt_own (h:St β m L w) {x:Nat × Obj} (hx:x∈L):x.1<w.heap.size:=tD (h.own x hx)
theorem St.alloc (h:St β m L w) (o:Obj):St β m ((w.heap.size,o) :: L) (w.alloc o):=by
 have hsz:(w.alloc o).heap.size=w.heap.size+1:=by show(w.heap.push o).size=_;simp
 have hold:∀ b,b<w.heap.size->(w.alloc o).heap[b]? =w.heap[b]?:=fun b hb=>by
  show(w.heap.push o)[b]? =_;rw [Array.getElem?_push];simp;omega
 have hnew:(w.alloc o).heap[w.heap.size]? =some o:=by show(w.heap.push o)[w.heap.size]? =_;simp
 refine⟨fun b x hx=>?_,fun x hx=>?_,fun x hx=>?_,?_,h.mle,h.Ag,fun x hx hlt=>?_,by rw [hsz];have:=h.size;omega,fun b hb hf=>?_,h.os,h.output,h.tape⟩
 ·rw [hold b (tD (h.mem b x hx))];exact h.mem b x hx
 ·cases hx with
  | head=>exact hnew
  | tail _ hx=>rw [hold _ (h.lt_own hx)];exact h.own x hx
 ·cases hx with
  | head=>
   show m w.heap.size=none
   cases hm:m w.heap.size with
   | none=>rfl
   | some y=>exact absurd (tD (h.mem _ _ hm)) (Nat.lt_irrefl _)
  | tail _ hx=>exact h.apart x hx
 ·simp only [a0O,a1b];refine⟨fun hin=>?_,h.nodup⟩
  obtain⟨x,hx,he⟩:=a0V.1 hin;have:=h.lt_own hx;omega
 ·cases hx with
  | head=>exact absurd hlt (by have:=h.size;simp;omega)
  | tail _ hx=>exact h.keys x hx hlt
 ·rw [hold b (by have:=h.size;omega)];exact h.frame b hb hf
theorem St.drawn (h:St β m L w):St β m L { w with drawn:=w.drawn+1 }:=⟨h.mem,h.own,h.apart,h.nodup,h.mle,h.Ag,h.keys,h.size,h.frame,h.os,h.output,h.tape⟩
theorem keys_set {L:AW} {k b:Nat} {o o':Obj} (hk:L[k]? =some (b,o)):(L.set k (b,o')).map Prod.fst=L.map Prod.fst:=by
 rw [List.map_set]
 apply a0v
 grind
theorem aH9 {l:List Nat} (hn:l.Nodup) {i j:Nat} {b:Nat} (hi:l[i]? =some b) (hj:l[j]? =some b):i=j:=by
 have hli:=(a0C.1 hi).1
 have hlj:=(a0C.1 hj).1
 have e1:=(a0C.1 hi).2
 have e2:=(a0C.1 hj).2
 grind [List.pairwise_iff_getElem]
theorem mem_set {L:AW} {k b:Nat} {o o':Obj} (hk:L[k]? =some (b,o)) (hn:(L.map Prod.fst).Nodup) {x:Nat × Obj} (hx:x∈L.set k (b,o')):
 x=(b,o')\/(x∈L/\x.1≠b):=by
 obtain⟨i,hi⟩:=a0U.1 hx
 rw [a0E]at hi
 split at hi
 ·grind
 ·rename_i hne;right
  refine⟨rQ hi,fun he=>hne ?_⟩
  have h1:(L.map Prod.fst)[k]? =some b:=by simp [hk]
  have h2:(L.map Prod.fst)[i]? =some b:=by simp [hi,he]
  exact aH9 hn h1 h2
theorem St.write {w':World} (h:St β m L w) {k b:Nat} {o o':Obj} (hk:L[k]? =some (b,o)) (hb:w'.heap[b]? =some o') (hother:∀ b',b'≠b->w'.heap[b']? =w.heap[b']?)
 (hsz:w'.heap.size=w.heap.size) (hos:w'.os=w.os) (hout:w'.output=w.output) (htp:w'.tape=w.tape):St β m (L.set k (b,o')) w':=by
 have hmem:=rQ hk
 refine⟨fun c x hx=>?_,fun x hx=>?_,fun x hx=>?_,by rw [keys_set hk];exact h.nodup,h.mle,h.Ag,fun x hx hlt=>?_,by rw [hsz];exact h.size,fun c hc hf=>?_,
  by rw [hos];exact h.os,by rw [hout];exact h.output,by rw [htp];exact h.tape⟩
 ·grind [apart,mem]
 ·grind [mem_set,nodup,own]
 ·grind [apart]
 ·grind [keys]
 ·have:c≠b:=by grind [keys]
  grind [frame]
theorem St.perm {L':AW} (h:St β m L w) (hp:L.Perm L'):St β m L' w:=
 ⟨h.mem,fun x hx=>h.own x (hp.mem_iff.2 hx),fun x hx=>h.apart x (hp.mem_iff.2 hx),(by grind [nodup]),h.mle,h.Ag,fun x hx=>h.keys x (hp.mem_iff.2 hx),h.size,h.frame,h.os,h.output,h.tape⟩
theorem St.drop {L':AW} (h:St β m L w) (hs:L'.Sublist L):St β m L' w:=
 ⟨h.mem,fun x hx=>h.own x (hs.subset hx),fun x hx=>h.apart x (hs.subset hx),h.nodup.sublist (hs.map _),h.mle,h.Ag,fun x hx=>h.keys x (hs.subset hx),h.size,h.frame,h.os,h.output,h.tape⟩
def Mem.ins (m:Mem) (b:Nat) (o:Obj):Mem:=fun c=>if c=b then some o else m c
theorem Mem.le_ins {m:Mem} {b:Nat} {o:Obj} (h:m b=none):Mem.le m (m.ins b o):=by grind [Mem.ins,Mem.le]
theorem Mem.ins_self {m:Mem} {b:Nat} {o:Obj}:m.ins b o b=some o:=by simp [Mem.ins]
theorem St.persist {b:Nat} {o:Obj} (h:St β m ((b,o) :: L) w):St β (m.ins b o) L w/\Mem.le m (m.ins b o):=by
 have hn:m b=none:=h.apart (b,o) (.head _)
 have hge:β.w.heap.size<=b\/b∈β.fp:=by
  rcases Nat.lt_or_ge b β.w.heap.size with hlt | hge
  ·exact .inr (h.keys (b,o) (.head _) hlt)
  ·exact .inl hge
 refine⟨⟨fun c x hx=>?_,fun x hx=>h.own x (.tail _ hx),fun x hx=>?_,?_,Mem.le_trans h.mle (Mem.le_ins hn),fun c hc=>?_,fun x hx=>h.keys x (.tail _ hx),h.size,h.frame,h.os,h.output,h.tape⟩,Mem.le_ins hn⟩
 ·unfold Mem.ins at hx;split at hx
  ·subst c;cases hx;exact h.own (b,o) (.head _)
  ·exact h.mem c x hx
 ·have hne:x.1≠b:=fun e=>by
   have:=h.nodup;simp only [a0O,a1b]at this;exact this.1 (e ▸ a0W hx)
  simp only [Mem.ins,a1G hne];exact h.apart x (.tail _ hx)
 ·have:=h.nodup;simp only [a0O,a1b]at this;exact this.2
 ·unfold Mem.ins at hc;split at hc
  ·subst c;exact hge
  ·exact h.Ag c hc
end
section
variable {P:Program} {β:bA} {n:Nat} {ds:List Deferred} {m:Mem} {L:AW} {E:Env} {r:Option Nat} {Q:Exit->Act->World->Prop}
 {ops:Array Oper} {o:Oper} {rest:List Oper}
def Makes (P:Program) (β:bA) (n:Nat) (ds:List Deferred) (m:Mem) (L:AW) (E:Env) (o:Oper) (x:Obj) (f:Nat->Value):Prop:=
 iH o.op=false/\∀ a w,Fr n ds E a->St β m L w->(execOp a.eval o).run P w= .ok (.value (f w.heap.size)) (w.alloc x)
def ptr (b:Nat):Value:= .pointer (some ⟨b,0,none⟩)
def cT (P:Program) (T:TypeId):Option Value:=(P.info? T).bind (·.zero)
def Zero (P:Program) (T:TypeId) (z:Value):Prop:=cT P T=some z
theorem lA {z:Value} {T:TypeId} (h:Zero P T z) (w:World):(zeroValue T).run P w= .ok z w:=by
 unfold Zero cT at h
 cases hi:P.info? T with
 | none=>rw [hi]at h;cases h
 | some i=>
  rw [hi]at h;simp only [Option.bind_some]at h;simp [zeroValue,a1B,run_typeInfo hi,h,Sem.run,pure]
theorem bU {T:TypeId} {z:Value} (ho:o.op= .alloc T) (hz:Zero P T z):Makes P β n ds m L E o (.cells z.cells T) ptr:=
 ⟨by rw [ho];rfl,fun a w _ _=>by
  simp [execOp,ho,Instr.alloc,a1B,lA hz,newVar,newRow,newObj,Sem.run,pure,ptr]⟩
theorem cG {T:TypeId} {x:Operand} {v:Value} (ho:o.op= .box T x) (hx:ev E x=some v):Makes P β n ds m L E o (.cells v.cells T) ptr:=
 ⟨by rw [ho];rfl,fun a w hF _=>by
  simp [execOp,ho,hF.ev hx,Instr.box,a1B,newVar,newRow,newObj,Sem.run,pure,ptr]⟩
def cO:Value->Prop
 | .agg _ | .tuple _=>False
 | _=>True
theorem Sl.isCell {v:Value} {len es:Nat} {q:Nat->Addr} (h:Sl v len es q):cO v:=by obtain⟨_,_,rfl,_⟩:=h;trivial
theorem cO.cells {v:Value} (h:cO v):v.cells=#[v]:=by cases v <;> first | rfl | exact h.elim
theorem run_store {P:Program} {w:World} {p:Addr} {v u:Value} (hv:cO v) (hc:w.cell? p=some u) (hf:w.frozen? p=false):
 (Go.store p v).run P w= .ok () (w.setCell p v):=by
 cases v <;> first | exact hv.elim | simp [Go.store,Sem.run,hc,hf]
theorem setCell_size (w:World) (p:Addr) (v:Value):(w.setCell p v).heap.size=w.heap.size:=by simp [World.setCell]
theorem setCell_other (w:World) (p:Addr) (v:Value) {b:Nat} (h:b≠p.block):(w.setCell p v).heap[b]? =w.heap[b]?:=by
 grind [World.setCell]
theorem setCell_self (w:World) (p:Addr) (v:Value) {c:Array Value} {T:TypeId} {fz:Nat × Nat} (h:w.heap[p.block]? =some (.cells c T fz)) (hs:p.spot=none):
 (w.setCell p v).heap[p.block]? =some (.cells (c.setIfInBounds p.off v) T fz):=by
 grind [World.setCell]
theorem St.setCell {β:bA} {m:Mem} {L:AW} {w:World} (h:St β m L w) {k:Nat} {c:Array Value} {T:TypeId} {fz:Nat × Nat} {p:Addr} (hk:L[k]? =some (p.block, .cells c T fz)) (hs:p.spot=none) (v:Value):
 St β m (L.set k (p.block, .cells (c.setIfInBounds p.off v) T fz)) (w.setCell p v):=
 h.write hk (setCell_self w p v (h.own _ (rQ hk)) hs) (by grind [setCell_other]) (setCell_size w p v) rfl rfl rfl
theorem St.unfrozen {β:bA} {m:Mem} {L:AW} {w:World} (h:St β m L w) {k:Nat} {c:Array Value} {T:TypeId} {p:Addr} (hk:L[k]? =some (p.block, .cells c T (0,0))):w.frozen? p=false:=by
 grind [own,World.frozen?]
theorem aGz {P:Program} {w:World} {T:TypeId} {i:TypeInfo} {p:Addr} {v u:Value} (hi:P.info? T=some i) (h1:i.size=1) (hv:cO v) (hc:w.cell? p=some u) (hf:w.frozen? p=false):
 (storeVar T p v).run P w= .ok () (w.setCell p v):=by
 have h0:p.add 0=p:=rfl
 simp [storeVar,a1B,run_sizeOf hi,h1,hv.cells,storeCells,h0,run_store hv hc hf,Sem.run,pure]
def oI (P:Program) (T:TypeId):Option Nat:=(P.info? T).map (·.size)
def jJ (P:Program) (T k:Nat):Prop:=oI P T=some k
theorem zJ {P:Program} {β:bA} {m:Mem} {b k:Nat} {T:TypeId}:∀ (vs:List Value) (i:Nat) (c:Array Value) (L:AW) (w:World),St β m L w->L[k]? =some (b, .cells c T (0,0))->(∀ v∈vs,cO v) ->
 i+vs.length<=c.size->∃ w',(storeCells ⟨b,0,none⟩ vs i).run P w= .ok () w'/\St β m (L.set k (b, .cells ((c.toList.take i++vs++c.toList.drop (i+vs.length)).toArray) T (0,0))) w'
 | [],i,c,L,w,hS,hk,_,_=>by
  refine⟨w,rfl,?_⟩;have e1:(c.toList.take i++[]++c.toList.drop (i+([]:List Value).length)).toArray=c:=by simp
  have e2:L.set k (b, .cells c T (0,0))=L:=by
   apply a0v;intro j;rw [a0E]
   split
   ·subst_vars;split
    ·exact hk.symm
    ·have:=(a0C.1 hk).1;omega
   ·rfl
  rw [e1,e2];exact hS
 | v :: vs,i,c,L,w,hS,hk,hv,hsz=>by
  have hi:i<c.size:=by simp at hsz;omega
  have hadd:(Addr.add ⟨b,0,none⟩ i).block=b/\(Addr.add ⟨b,0,none⟩ i).spot=none/\(Addr.add ⟨b,0,none⟩ i).off=i:=by
   unfold Addr.add;split
   ·subst_vars;simp
   ·simp
  obtain⟨a1,a2,a3⟩:=hadd;generalize Addr.add ⟨b,0,none⟩ i=p at a1 a2 a3
  have hk':L[k]? =some (p.block, .cells c T (0,0)):=by rw [a1];exact hk
  have hcell:=hS.own_cell hk a1 a2 (v:=c[i]) (by rw [a3];simp [hi])
  have hrun:=run_store (P:=P) (hv v (.head _)) hcell (hS.unfrozen hk');have hS':=hS.setCell hk' a2 v;rw [a1,a3]at hS';obtain⟨w',hr,hSt⟩:=zJ (P:=P) (β:=β) (m:=m) (b:=b) (k:=k) (T:=T) vs (i+1) (c.setIfInBounds i v) _ _ hS' (by
   rw [List.getElem?_set_self (a0C.1 hk).1]) (fun u hu=>hv u (.tail _ hu)) (by simp at hsz ⊢;omega)
  refine⟨w',?_,?_⟩
  ·simp only [storeCells,a1B];have e0:(Go.store (Addr.add ⟨b,0,none⟩ i) v).run P w= .ok () (w.setCell p v):=by
    have:Addr.add ⟨b,0,none⟩ i=p:=by
     cases p with
     | mk pb po ps=>
      simp only at a1 a2 a3;subst a1 a2 a3
      unfold Addr.add;split
      ·subst_vars;rfl
      ·simp
    rw [this];exact hrun
   rw [e0];exact hr
  ·rw [List.set_set]at hSt;have e:(c.setIfInBounds i v).toList.take (i+1)++vs++(c.setIfInBounds i v).toList.drop (i+1+vs.length)=c.toList.take i++(v :: vs)++c.toList.drop (i+(v :: vs).length):=by
    have h1:(c.setIfInBounds i v).toList=c.toList.set i v:=by simp
    rw [h1];have h2:(c.toList.set i v).take (i+1)=c.toList.take i++[v]:=by
     rw [List.take_set,a1g (by simpa using hi),List.set_append_right _ _ (by simp;omega)];simp [a1o (Nat.le_of_lt hi)]
    have h3:(c.toList.set i v).drop (i+1+vs.length)=c.toList.drop (i+(v :: vs).length):=by
     rw [List.drop_set,a1H (by omega)];congr 1;simp;omega
    rw [h2,h3];simp
   rw [e]at hSt;exact hSt
end
def Fn (P:Program) (f:FuncId) (args:List Value) (m:Mem) (L:AW) (post:Mem->AW->Ending->Prop):Prop:=
 ∀ w,St ⟨w,m,L.map Prod.fst⟩ m L w->Calls P f args.toArray w fun e w'=>
  ∃ m' L',L'.map Prod.fst=L.map Prod.fst/\St ⟨w,m,L.map Prod.fst⟩ m' L' w'/\post m' L' e
def FnV (P:Program) (f:FuncId) (args:List Value) (m:Mem) (v:Value):Prop:=Fn P f args m [] fun m' _ e=>m'=m/\e= .returned v
theorem Fn.mono {P:Program} {f:FuncId} {args:List Value} {m:Mem} {L:AW} {post post':Mem->AW->Ending->Prop} (h:Fn P f args m L post) (hp:∀ m' L' e,Mem.le m m'->post m' L' e->post' m' L' e):Fn P f args m L post':=
 fun w hS=>(h w hS).mono fun _ _ ⟨m',L',h1,h2,h3⟩=>⟨m',L',h1,h2,hp _ _ _ h2.mle h3⟩
theorem St.start {β:bA} {m:Mem} {L₀ R:AW} {w:World} (h:St β m (L₀++R) w):St ⟨w,m,L₀.map Prod.fst⟩ m L₀ w:=
 ⟨h.mem,fun x hx=>h.own x (a0Q _ hx),fun x hx=>h.apart x (a0Q _ hx),by have:=h.nodup;rw [a0N]at this;exact(a1a.1 this).1,
  Mem.le_refl _,fun _ hb=>absurd rfl hb,fun x hx _=>a0W hx,a1l _,fun _ _ _=>rfl,rfl,rfl,rfl⟩
theorem St.back {β:bA} {m m':Mem} {L₀ L₁ R:AW} {w w':World} (h:St β m (L₀++R) w) (h':St ⟨w,m,L₀.map Prod.fst⟩ m' L₁ w') (hk:L₁.map Prod.fst=L₀.map Prod.fst):St β m' (L₁++R) w':=by
 have hnd:=h.nodup
 rw [a0N]at hnd
 have hsz:=h'.size
 simp only at hsz
 have hR:∀ x∈R,x.1<w.heap.size:=fun x hx=>h.lt_own (a0R _ hx)
 have hR0:∀ x∈R,x.1 ∉ L₀.map Prod.fst:=fun x hx hin=>(a1a.1 hnd).2.2 _ hin _ (a0W hx) rfl
 refine⟨h'.mem,fun x hx=>?_,fun x hx=>?_,by rw [a0N,hk];exact hnd,Mem.le_trans h.mle h'.mle,fun b hb=>?_,fun x hx hlt=>?_,a1m h.size hsz,fun b hb hf=>?_,
  h'.os.trans h.os,h'.output.trans h.output,h'.tape.trans h.tape⟩
 ·rcases a0P.1 hx with hx | hx
  ·exact h'.own x hx
  ·rw [h'.frame x.1 (hR x hx) (hR0 x hx)];exact h.own x (a0R _ hx)
 ·rcases a0P.1 hx with hx | hx
  ·exact h'.apart x hx
  ·have h0:=h.apart x (a0R _ hx);cases hm:m' x.1 with
   | none=>rfl
   | some y=>
    have h1:=h'.Ag x.1 (by simp only [h0,hm];simp)
    have h2:=hR x hx;rcases h1 with h1 | h1
    ·simp only at *;omega
    ·exact absurd h1 (hR0 x hx)
 ·by_cases he:m' b=m b
  ·exact h.Ag b (fun e=>hb (he.trans e))
  ·rcases h'.Ag b he with h1 | h1
   ·exact .inl (a1m h.size h1)
   ·obtain⟨y,hy,hye⟩:=a0V.1 h1;rcases Nat.lt_or_ge b β.w.heap.size with hlt | hge
    ·exact .inr (hye ▸ h.keys y (a0Q _ hy) (by rw [hye];exact hlt))
    ·exact .inl hge
 ·have hin:x.1∈(L₀++R).map Prod.fst:=by
   rw [a0N,<- hk,<- a0N];exact a0W hx
  obtain⟨y,hy,he⟩:=a0V.1 hin;rw [<- he];exact h.keys y hy (by rw [he];exact hlt)
 ·have hbw:b<w.heap.size:=a1n hb h.size;have hnin:b ∉ L₀.map Prod.fst:=fun hin=>by
   obtain⟨y,hy,he⟩:=a0V.1 hin;exact hf (he ▸ h.keys y (a0Q _ hy) (by rw [he];exact hb))
  exact(h'.frame b hbw hnin).trans (h.frame b hb hf)
def callB (P:Program) (f:FuncId):Bool:=match P.funcs[f]? with
 | some fn=>fn.name != "runtime.NumGoroutine" && fn.body.isSome
 | none=>false
def Af (P:Program) (f:FuncId):Prop:=callB P f=true
theorem run_callFunc {P:Program} {f:FuncId} (h:Af P f) (args:Array Value) (w:World):(callFunc f args).run P w= .ok (.enter f args) w:=by
 unfold Af callB at h
 cases hf:P.funcs[f]? with
 | none=>rw [hf]at h;cases h
 | some fn=>
  rw [hf]at h;simp only [a0f,bne_iff_ne,ne_eq]at h;have h2:fn.body≠none:=by grind
  simp_all [callFunc]
theorem calls_in {P:Program} {f:FuncId} {args:Array Value} {w:World} {R:Ending->World->Prop} {r:Option Nat} {k:Nat} (h:Calls P f args w R):CallsIn (fw r) k P f args w R:=by
 have:=(callsIn_wide (n:=k)).2 h
 exact this
open Go.RowKit (Below)
inductive Res where
 | val (v:Value)
 | new (x:Obj) (f:Nat->Value)
theorem St.below {β:bA} {m:Mem} {L:AW} {w w':World} (h:St β m L w) (k:Below w.heap.size w w'):St β m L w':=
 ⟨fun b o hb=>by rw [k.block b (tD (h.mem b o hb))];exact h.mem b o hb,fun x hx=>by rw [k.block _ (h.lt_own hx)];exact h.own x hx,h.apart,h.nodup,h.mle,h.Ag,h.keys,a1m h.size k.size,
  fun b hb hf=>by rw [k.block b (a1n hb h.size)];exact h.frame b hb hf,k.os.trans h.os,k.output.trans h.output,k.tape.trans h.tape⟩
theorem St.of_mem {β:bA} {m:Mem} {L L':AW} {w:World} (h:St β m L w) (hs:∀ x∈L',x∈L) (hn:(L'.map Prod.fst).Nodup):St β m L' w:=
 ⟨h.mem,fun x hx=>h.own x (hs x hx),fun x hx=>h.apart x (hs x hx),hn,h.mle,h.Ag,fun x hx=>h.keys x (hs x hx),h.size,h.frame,h.os,h.output,h.tape⟩
def aBC:Op->Bool
 | .move _ | .extract _ _ | .pick _ _ _=>true
 | _=>false
section
variable (P:Program) (β:bA) (n:Nat) (ds:List Deferred) (m:Mem) (L:AW) (ops:Array Oper)
def QY (E:Env) (o:Oper) (v:Value):Prop:=
 iH o.op=false/\∀ a w,Fr n ds E a->St β m L w->(execOp a.eval o).run P w= .ok (.value v) w \/
  ∃ f args,(execOp a.eval o).run P w= .ok (.enter f args) w/\Calls P f args w fun e w'=>e= .returned v/\Below w.heap.size w w'
def Good (E:Env) (o:Oper) (d:Nat):Res->Prop
 | .val v=>(aCv ops E o/\v=undef)\/(Wants ops E o/\QY P β n ds m L E o v)
 | .new x f=>o.guard=none/\Makes P β n ds m L E o x f/\iE E d=none/\aBC o.op=false
def nextE (E:Env) (d:Nat):Res->Env
 | .val v=>(d,v) :: E
 | .new _ _=>E
abbrev News:=List (Nat × Nat × Obj × (Nat->Value))
def zH (G:AW->Env->Prop):News->AW->Env->Prop
 | [],L,E=>G L E
 | (_,d,x,f) :: N,L,E=>∀ b,zH G N ((b,x) :: L) ((d,f b) :: E)
end
def newL (bl:Nat->Nat):News->AW->AW
 | [],L=>L
 | (i,_,x,_) :: N,L=>newL bl N ((bl i,x) :: L)
def newE (bl:Nat->Nat):News->Env->Env
 | [],E=>E
 | (i,d,_,f) :: N,E=>newE bl N ((d,f (bl i)) :: E)
theorem zH.at {G:AW->Env->Prop} (bl:Nat->Nat):∀ {N:News} {L:AW} {E:Env},zH G N L E->G (newL bl N L) (newE bl N E)
 | [],_,_,h=>h
 | (i,_,_,_) :: N,_,_,h=>zH.at (N:=N) bl (h (bl i))
def waits (o:Oper) (j:Nat):Bool:=o.after.any fun e=>Region.binds .any e && e.on==j
def eP (ops:Array Oper):Nat->Nat->Nat->Bool
 | 0,_,_=>false
 | f+1,i,j=>match ops[i]? with
  | none=>false
  | some o=>waits o j || o.after.any fun e=>Region.binds .any e && eP ops f e.on j
def plainOp:Op->Bool
 | .defer _ | .select _ _=>false
 | _=>true
def simpleOp:Op->Bool
 | .move _ | .assign _ | .store _ _ _=>true
 | _=>false
structure Shape (ops:Array Oper) (h:Nat):Prop where
 plain:∀ (i:Nat) (o:Oper),ops[i]? =some o->plainOp o.op=true
 back:∀ (i:Nat) (o:Oper),ops[i]? =some o->∀ e∈o.after,Region.binds .any e=true->e.on<i
 apart:∀ (i j:Nat) (oi oj:Oper),ops[i]? =some oi->ops[j]? =some oj->i<h->j<i->oj.dst≠oi.dst
 data:∀ (i j:Nat) (oi oj:Oper) d,ops[i]? =some oi->ops[j]? =some oj->i<h->j<i->oj.dst=some d->d∈oi.looksAt ops->eP ops ops.size i j=true
 tail:∀ (i j:Nat) (oi oj:Oper),ops[i]? =some oi->ops[j]? =some oj->h<=i->j<i->eP ops ops.size i j=true \/
  (j<h/\aBC oj.op=true/\simpleOp oi.op=true/\∀ d,oj.dst=some d->d ∉ oi.looksAt ops)
 sep:∀ (i j:Nat) (oi oj:Oper) d,ops[i]? =some oi->ops[j]? =some oj->h<=i->j<h->oi.dst=some d->oj.dst≠some d/\(eP ops ops.size i j=true\/d ∉ oj.looksAt ops)
def kH (ops:Array Oper) (listed:Array Bool):Prop:=
 ∀ i o,ops[i]? =some o->listed.getD i false=true->∀ e∈o.after,Region.binds .any e=true->listed.getD e.on false=true
theorem pG {ops:Array Oper} {listed:Array Bool} (hc:kH ops listed):∀ (f i j:Nat) (o:Oper),ops[i]? =some o ->
 (∀ e∈o.after,Region.binds .any e=true->listed.getD e.on false=true)->eP ops f i j=true->listed.getD j false=true
 | 0,_,_,_,_,_,h=>by cases h
 | f+1,i,j,o,ho,hall,h=>by
  simp only [eP,ho,a0j]at h;rcases h with h | h
  ·grind [waits]
  ·rw [Array.any_eq_true']at h;obtain⟨e,he,h2⟩:=h;simp only [a0f]at h2;have hl:=hall e he h2.1;have hex:∃ o',ops[e.on]? =some o':=by
    cases f with
    | zero=>cases h2.2
    | succ f=>
     grind [eP]
   obtain⟨o',ho'⟩:=hex;exact pG hc f e.on j o' ho' (hc e.on o' ho' hl) h2.2
section
variable {P:Program} {β:bA} {n:Nat} {ds:List Deferred} {m:Mem} {L:AW} {ops:Array Oper}
def Goods (P:Program) (β:bA) (n:Nat) (ds:List Deferred) (m:Mem) (L:AW) (ops:Array Oper):List Oper->Env->List Res->Prop
 | [],_,rs=>rs=[]
 | o :: l,E,rs=>∃ d r rs',rs=r :: rs'/\o.dst=some d/\d<n/\Good P β n ds m L ops E o d r/\Goods P β n ds m L ops l (nextE E d r) rs'
def envAt:Env->List Oper->List Res->Nat->Env
 | E,o :: l,r :: rs,i+1=>envAt (nextE E (o.dst.getD 0) r) l rs i
 | E,_,_,_=>E
theorem Goods.get:∀ {l:List Oper} {E:Env} {rs:List Res},Goods P β n ds m L ops l E rs->∀ {i:Nat} {o:Oper},l[i]? =some o ->
 ∃ d r,rs[i]? =some r/\o.dst=some d/\d<n/\Good P β n ds m L ops (envAt E l rs i) o d r
 | [],_,_,_,i,o,h=>by cases i <;> cases h
 | x :: l,E,rs,hg,i,o,h=>by
  obtain⟨d,r,rs',rfl,hd,hn,hG,hrest⟩:=hg;cases i with
  | zero=>cases h;exact⟨d,r,rfl,hd,hn,hG⟩
  | succ i=>
   obtain⟨d',r',h1,h2,h3,h4⟩:=Goods.get hrest (by simpa using h)
   grind [envAt]
def star:Act->List Oper->List Res->Nat->Act
 | a,o :: l, .val v :: rs,i+1=>star (a.put o.dst v) l rs i
 | a,_ :: l, .new _ _ :: rs,i+1=>star a l rs i
 | a,_,_,_=>a
end
open Go.RowKit (Below)
def cnt (p:Nat->Bool):Nat->Nat
 | 0=>0
 | s+1=>cnt p s+(if p s then 1 else 0)
theorem rC {p:Nat->Bool}:∀ {s:Nat},cnt p s<=s
 | 0=>a1l _
 | s+1=>by have:=rC (p:=p) (s:=s);simp only [cnt];split <;> omega
theorem jL {listed:Array Bool} {i k:Nat} {b:Bool} (hi:i<listed.size):(listed.setIfInBounds i true).getD k b=if i=k then true else listed.getD k b:=by
 rw [a0a,a0a,Array.getElem?_setIfInBounds]
 split
 ·simp [hi]
 ·rfl
theorem nC {listed:Array Bool} {i:Nat} (hi:i<listed.size):listed.getD i true=listed.getD i false:=by
 simp [a0a,hi]
structure Inv (β:bA) (n:Nat) (ds:List Deferred) (m:Mem) (L:AW) (E:Env) (head:List Oper) (rs:List Res) (ai:Act) (bl:Nat->Nat) (Lc:AW) (listed:Array Bool) (a:Act) (w:World):Prop where
 base:∀ t:Nat,(∀ o∈head,o.dst≠some t)->a.tmps[t]? =ai.tmps[t]?
 size:a.tmps.size=n
 Aa:a.defers=ds
 old:∀ t v,iE E t=some v->a.tmps[t]? =some v
 vals:∀ (i:Nat) (o:Oper) (v:Value) (d:Nat),listed.getD i false=true->head[i]? =some o->rs[i]? =some (.val v)->o.dst=some d->a.tmps[d]? =some v
 news:∀ (i:Nat) (o:Oper) (x:Obj) (f:Nat->Value) (d:Nat),listed.getD i false=true->head[i]? =some o->rs[i]? =some (.new x f)->o.dst=some d ->
  a.tmps[d]? =some (f (bl i))
 mem:∀ (i:Nat) (x:Obj) (f:Nat->Value),listed.getD i false=true->rs[i]? =some (.new x f)->(bl i,x)∈Lc/\bl i ∉ L.map Prod.fst
 inj:∀ (i j:Nat) (x:Obj) (f:Nat->Value) (y:Obj) (g:Nat->Value),listed.getD i false=true->listed.getD j false=true->rs[i]? =some (.new x f)->rs[j]? =some (.new y g)->i≠j->bl i≠bl j
 st:St β m Lc w
 sub:∀ x∈L,x∈Lc
section
variable {P:Program} {β:bA} {n:Nat} {ds:List Deferred} {m:Mem} {L:AW} {E:Env} {r:Option Nat} {Q:Exit->Act->World->Prop} {head tail:List Oper} {rs:List Res} {ops:Array Oper}
theorem Inv.put {ai:Act} {bl bl':Nat->Nat} {Lc Lc':AW} {listed:Array Bool} {a:Act} {w w':World} (hI:Inv β n ds m L E head rs ai bl Lc listed a w) {i d:Nat} {o:Oper} (hls:i<listed.size) (ho:head[i]? =some o) (hd:o.dst=some d) (hdn:d<n)
 (hun:listed.getD i false=false) (hfr:iE E d=none) (hdist:∀ (j:Nat) (oj:Oper),j≠i->head[j]? =some oj->oj.dst≠some d) (u:Value) (hst:St β m Lc' w') (hmono:∀ x∈Lc,x∈Lc')
 (hc:(rs[i]? =some (.val u)/\bl'=bl)\/(∃ x f,rs[i]? =some (.new x f)/\u=f (bl' i)/\(bl' i,x)∈Lc'/\(∀ k,k≠i->bl' k=bl k)/\∀ y∈Lc,y.1≠bl' i)):
 Inv β n ds m L E head rs ai bl' Lc' (listed.setIfInBounds i true) (a.put (some d) u) w':=by
 have hother:∀ t,t≠d->(a.put (some d) u).tmps[t]? =a.tmps[t]?:=fun t ht=>by
  simp [Act.put,a0c (fun e=>ht e.symm)]
 have hself:(a.put (some d) u).tmps[d]? =some u:=by
  have:d<a.tmps.size:=by rw [hI.size];exact hdn
  simp [Act.put,this]
 have hbl:∀ j:Nat,j≠i->bl' j=bl j:=fun j hj=>by
  rcases hc with⟨_,rfl⟩ | ⟨_,_,_,_,_,h4,_⟩
  ·rfl
  ·exact h4 j hj
 refine⟨fun t ht=>by rw [hother t (fun e=>ht o (rQ ho) (by rw [hd,e]))];exact hI.base t ht,by simp [Act.put,hI.size],by simp [Act.put,hI.Aa],fun t v h=>?_,fun j oj v dj hj hh hr hdj=>?_,fun j oj x f dj hj hh hr hdj=>?_,fun j x f hj hr=>?_,fun j k x f y g hj hk hrj hrk hne=>?_,hst,fun x hx=>hmono x (hI.sub x hx)⟩
 ·rw [hother t (fun e=>by rw [e,hfr]at h;cases h)];exact hI.old t v h
 ·rw [jL hls]at hj;by_cases e:i=j
  ·subst e;rw [ho]at hh;cases hh
   rw [hd]at hdj;cases hdj
   rcases hc with⟨h1,_⟩ | ⟨x,f,h1,_⟩
   ·rw [hr]at h1;cases h1;exact hself
   ·rw [hr]at h1;cases h1
  ·rw [a1G e]at hj;rw [hother dj (fun e2=>hdist j oj (fun e3=>e e3.symm) hh (by rw [hdj,e2]))];exact hI.vals j oj v dj hj hh hr hdj
 ·rw [jL hls]at hj;by_cases e:i=j
  ·subst e;rw [ho]at hh;cases hh
   rw [hd]at hdj;cases hdj
   rcases hc with⟨h1,_⟩ | ⟨x',f',h1,h2,_⟩
   ·rw [hr]at h1;cases h1
   ·rw [hr]at h1;cases h1
    rw [hself,h2]
  ·rw [a1G e]at hj;rw [hother dj (fun e2=>hdist j oj (fun e3=>e e3.symm) hh (by rw [hdj,e2])),hbl j (fun e3=>e e3.symm)];exact hI.news j oj x f dj hj hh hr hdj
 ·rw [jL hls]at hj;by_cases e:i=j
  ·subst e;rcases hc with⟨h1,_⟩ | ⟨x',f',h1,h2,h3,h4,h5⟩
   ·rw [hr]at h1;cases h1
   ·rw [hr]at h1;cases h1
    refine⟨h3,fun hin=>?_⟩
    obtain⟨y,hy,he⟩:=a0V.1 hin;exact h5 y (hI.sub y hy) he
  ·rw [a1G e]at hj;rw [hbl j (fun e3=>e e3.symm)];obtain⟨h2,h3⟩:=hI.mem j x f hj hr;exact⟨hmono _ h2,h3⟩
 ·rw [jL hls]at hj hk;have key:∀ (j':Nat) (x:Obj) (f:Nat->Value),j'≠i->listed.getD j' false=true->rs[j']? =some (.new x f)->∀ x' f',rs[i]? =some (.new x' f')->bl' j'≠bl' i:=fun j' x f hne' hl' hr' x' f' hi'=>by
   rcases hc with⟨h1,_⟩ | ⟨_,_,_,_,_,_,h5⟩
   ·rw [hi']at h1;cases h1
   ·rw [hbl j' hne'];exact h5 _ (hI.mem j' x f hl' hr').1
  by_cases e1:i=j
  ·subst e1;rw [a1G hne]at hk;exact fun he=>key k y g (fun e=>hne e.symm) hk hrk x f hrj he.symm
  ·rw [a1G e1]at hj;by_cases e2:i=k
   ·subst e2;exact key j x f hne hj hrj y g hrk
   ·rw [a1G e2]at hk;rw [hbl j (fun e=>e1 e.symm),hbl k (fun e=>e2 e.symm)];exact hI.inj j k x f y g hj hk hrj hrk hne
end
section
variable {P:Program} {β:bA} {n:Nat} {ds:List Deferred} {m:Mem} {L:AW} {E:Env} {r:Option Nat} {Q:Exit->Act->World->Prop} {head tail:List Oper} {rs:List Res} {ops:Array Oper}
def Calm {α:Type} (P:Program) (s:Sem α):Prop:=∀ w v w',s.run P w≠ .halt (.panic v) w'
theorem Calm.bind {α γ:Type} {s:Sem α} {f:α->Sem γ} (h:Calm P s) (k:∀ a,Calm P (f a)):Calm P (s >>= f):=fun w v w' e=>by
 rw [a1B]at e
 cases hr:s.run P w with
 | ok a w₁=>rw [hr]at e;exact k a w₁ v w' e
 | halt x w₁=>rw [hr]at e;simp only [Result.andThen_halt]at e;cases e;exact h w v w' hr
theorem Calm.pure {α:Type} (a:α):Calm P (pure a):=fun _ _ _ e=>by cases e
structure TInv (P:Program) (r:Option Nat) (Q:Exit->Act->World->Prop) (n:Nat) (ops:Array Oper) (head tail:List Oper) (rs:List Res) (ai:Act) (k:Nat) (listed:Array Bool) (a:Act) (w:World):Prop where
 size:a.tmps.size=n
 AC:∀ i:Nat,i<head.length+k->listed.getD i false=true\/∃ o,head[i]? =some o/\aBC o.op=true
 post:∀ i:Nat,head.length+k<=i->listed.getD i false=false
 closed:kH ops listed
 vals:∀ (i:Nat) (o:Oper) (v:Value) (d:Nat),listed.getD i false=true->head[i]? =some o->rs[i]? =some (.val v)->o.dst=some d->a.tmps[d]? =some v
 base:∀ t:Nat,(∀ o∈head,o.dst≠some t)->(∀ j:Nat,j<k->∀ o,tail[j]? =some o->o.dst≠some t)->a.tmps[t]? =ai.tmps[t]?
 run:wpListIn (fw r) 0 P ops Q (tail.drop k) (star a head rs head.length) w
end
open Go.RowKit (Below)
section
variable {P:Program} {β:bA} {n:Nat} {ds:List Deferred} {m:Mem} {L:AW} {ops:Array Oper} {G:News->Env->Prop} {o:Oper} {l:List Oper} {k:Nat} {E:Env} {N:News}
theorem FnV.below {f:FuncId} {vs:List Value} {v:Value} (h:FnV P f vs m v) {w:World} (hS:St β m L w):Calls P f vs.toArray w fun e w'=>e= .returned v/\Below w.heap.size w w':=
 (h w (hS.start (L₀:=[]) (R:=L))).mono fun e w' ⟨m',L',hk,hS',_,he⟩=>
  ⟨he,hS'.os,hS'.tape,hS'.output,hS'.size,fun b hb=>hS'.frame b hb (by simp)⟩
end
theorem aGk (w:World) (b:Nat) (o:Obj) (h:b<w.heap.size):(w.putObj b o).heap[b]? =some o:=by simp [World.putObj,h]
theorem aG8 (w:World) (b c:Nat) (o:Obj) (h:c≠b):(w.putObj b o).heap[c]? =w.heap[c]?:=by
 grind [World.putObj]
theorem St.putObj {β:bA} {m:Mem} {L:AW} {w:World} (h:St β m L w) {k b:Nat} {o o':Obj} (hk:L[k]? =some (b,o)):St β m (L.set k (b,o')) (w.putObj b o'):=
 h.write hk (aGk w b o' (tD (h.own _ (rQ hk)))) (by grind [aG8]) (by simp [World.putObj]) rfl rfl rfl
def mark (rb:Nat):Deferred:={ target:= .collected rb,args:=#[] }
def busy (r:Loop):Obj:= .loop { r with state:= .busy }
section
variable {P:Program} {β:bA} {n:Nat} {ds:List Deferred} {m:Mem} {L:AW} {E:Env} {Q:Exit->Act->World->Prop}
theorem aDc {fn:Func} {tmps:Array Value} {R:Ending->World->Prop} {A L':AW}:∀ (rbs:List Nat) (L:AW) (w:World),St β m L w->(∀ rb∈rbs,∃ j,L[j]? =some (rb, .deferred (some []))/\j<A.length)->rbs.Nodup ->
 L.length=A.length+L'.length->L.drop A.length=L'->(∀ w',St β m L' w'->∃ v,(results fn tmps).run P w'= .ok v w'/\R (.returned v) w')->LeavesInM (fw none) 0 P fn tmps R (rbs.map mark) .returning w
 | [],L,w,hS,_,_,_,hd,h=>h w (by grind [St.drop])
 | rb :: rbs,L,w,hS,hin,hn,hl,hd,h=>by
  obtain⟨j,hj,hlt⟩:=hin rb (.head _);refine⟨by simp, .inl ⟨rb,_,rfl,run_takeDeferred (hS.own _ (rQ hj)),?_⟩⟩
  refine aDc (L':=L') (A:=A) rbs (L.set j (rb, .deferred none)) _ (hS.putObj hj) (fun rb' hrb'=>?_) (a1b.1 hn).2 (by simpa using hl) (by grind [List.drop_set]) h
  obtain⟨j',hj',hlt'⟩:=hin rb' (.tail _ hrb');refine⟨j',?_,hlt'⟩
  grind
end
def aAh:List Value->Prop
 | []=>True
 | v :: vs=>cO v/\aAh vs
theorem aAh.all:∀ {vs:List Value},aAh vs->∀ v∈vs,cO v
 | _ :: _,h,_,hv=>by
  cases hv with
  | head=>exact h.1
  | tail _ hv=>exact aAh.all h.2 _ hv
section
variable {P:Program} {β:bA} {n:Nat} {ds:List Deferred} {m:Mem} {L:AW} {E:Env} {o:Oper}
def iT (P:Program) (T:TypeId):Option (List (Nat × Nat)):=match P.underlying T with
 | some (.struct fs)=>fs.toList.mapM fun f=>(P.info? f.type).map fun i=>(f.offset,i.size)
 | _=>none
theorem aDp {P:Program} (w:World):∀ (fs:List Field) (out:List (Nat × Nat)),fs.mapM (fun f=>(P.info? f.type).map fun i=>(f.offset,i.size))=some out ->
 (fs.mapM fun f=>do pure (f.offset,<- sizeOf f.type):Sem (List (Nat × Nat))).run P w= .ok out w
 | [],out,h=>by
  simp_all
 | f :: fs,out,h=>by
  simp only [List.mapM_cons]at h;cases hi:P.info? f.type with
  | none=>rw [hi]at h;simp at h
  | some i=>
   rw [hi]at h;simp only [a1w,Option.bind_eq_bind,Option.bind_some]at h;cases hr:List.mapM (fun f=>(P.info? f.type).map fun i=>(f.offset,i.size)) fs with
   | none=>rw [hr]at h;simp at h
   | some out'=>
    rw [hr]at h;simp at h;subst h
    have ih:=aDp w fs out' hr;simp only [List.mapM_cons,a1B,run_sizeOf hi,a1A]
    simp_all
def jI (P:Program) (T:TypeId) (pl:List (Nat × Nat)) (z:Value):Prop:=iT P T=some pl/\cT P T=some z
end
section
variable {P:Program} {β:bA} {n:Nat} {ds:List Deferred} {m:Mem} {L:AW} {E:Env} {r:Option Nat} {Q:Exit->Act->World->Prop} {F:Act->World->Prop}
 {ops:Array Oper} {o:Oper} {rest:List Oper}
theorem aBQ {c:List Value} {i:Nat} {v:Value} {vs:List Value} (hi:i<c.length):
 (c.set i v).take (i+1)++vs++(c.set i v).drop (i+1+vs.length)=c.take i++(v :: vs)++c.drop (i+(v :: vs).length):=by
 have h2:(c.set i v).take (i+1)=c.take i++[v]:=by
  rw [List.take_set,a1g hi,List.set_append_right _ _ (by simp;omega)]
  simp_all [Nat.le_of_lt]
 grind [List.drop_set]
theorem St.setCells {b k:Nat} {T:TypeId}:∀ (vs:List Value) (i:Nat) (c:Array Value) (L:AW) (w:World),St β m L w->L[k]? =some (b, .cells c T (0,0))->i+vs.length<=c.size ->
 St β m (L.set k (b, .cells ((c.toList.take i++vs++c.toList.drop (i+vs.length)).toArray) T (0,0))) (w.setCells b i vs)
 | [],i,c,L,w,hS,hk,_=>by
  have e1:(c.toList.take i++[]++c.toList.drop (i+([]:List Value).length)).toArray=c:=by simp
  have e2:L.set k (b, .cells c T (0,0))=L:=by
   apply a0v;intro j;rw [a0E]
   split
   ·subst_vars;split
    ·exact hk.symm
    ·have:=(a0C.1 hk).1;omega
   ·rfl
  rw [e1,e2];exact hS
 | v :: vs,i,c,L,w,hS,hk,hsz=>by
  have hi:i<c.size:=by simp at hsz;omega
  have hS':=hS.setCell (p:=⟨b,i,none⟩) hk rfl v;have h:=St.setCells vs (i+1) (c.setIfInBounds i v) _ _ hS' (by
   rw [List.getElem?_set_self (a0C.1 hk).1]) (by simp at hsz ⊢;omega)
  rw [List.set_set]at h;have e:=aBQ (c:=c.toList) (i:=i) (v:=v) (vs:=vs) (by simpa using hi)
  have h1:(c.setIfInBounds i v).toList=c.toList.set i v:=by simp
  rw [h1,e]at h;exact h
def elB (P:Program) (t e es by':Nat):Bool:=match P.underlying t,P.info? e with
 | some (.slice e'),some i=>e'==e && i.size==es && i.bytes==by' && (match i.zero with | some z=>z.cells.size==es | none=>false)
 | _,_=>false
def ElT (P:Program) (t e es by':Nat):Prop:=elB P t e es by'=true
theorem ElT.spell {t e es by':Nat} (h:ElT P t e es by'):P.underlying t=some (.slice e)/\∃ i z,P.info? e=some i/\i.size=es/\i.bytes=by'/\i.zero=some z/\z.cells.size=es:=by
 unfold ElT elB at h
 grind
def fL (v:Value) (es:Nat) (T:TypeId) (len:Nat) (cs:List Value) (R:AW):Prop:=
 cs.length=len*es/\((v= .slice none 0 0/\len=0/\R=[]) \/
  ∃ b c cap,v= .slice (some ⟨b,0,none⟩) len cap/\R=[(b, .cells c T (0,0))]/\c.size=cap*es/\len<=cap/\c.toList.take cs.length=cs)
theorem fL.nil {es:Nat} {T:TypeId}:fL (.slice none 0 0) es T 0 [] []:=by grind [fL]
theorem fL.isCell {v:Value} {es:Nat} {T:TypeId} {len:Nat} {cs:List Value} {R:AW} (h:fL v es T len cs R):cO v:=by
 rcases h.2 with⟨rfl,_⟩ | ⟨b,c,cap,rfl,_⟩ <;> trivial
theorem aBS {b:Nat} {c:Array Value} {T:TypeId} {w:World} (hS:St β m L w) (h:(b,Obj.cells c T (0,0))∈L) {j:Nat} {v:Value} (hv:c.toList[j]? =some v):w.cell? ⟨b,j,none⟩=some v:=by
 obtain⟨k,hk⟩:=a0U.1 h
 grind [St.own_cell]
theorem aEf {c cs:List Value} (h:c.take cs.length=cs) {j:Nat} {v:Value} (hv:cs[j]? =some v):c[j]? =some v:=by
 grind
theorem tG (b j:Nat):Addr.add ⟨b,0,none⟩ j=⟨b,j,none⟩:=by grind [Addr.add]
theorem cO.one {v:Value} (h:cO v):v.oneCell'=true:=by cases v <;> first | rfl | exact h.elim
theorem cO.size {v:Value} (h:cO v):v.cells.size=1:=by rw [h.cells];rfl
theorem fL.sl {v:Value} {es:Nat} {T:TypeId} {len:Nat} {cs:List Value} {R:AW} (h:fL v es T len cs R):∃ b,Sl v len es (fun i=>⟨b,i*es,none⟩):=by
 rcases h.2 with⟨rfl,rfl,_⟩ | ⟨b,c,cap,rfl,_,_,hcap,_⟩
 ·exact⟨0,none,0,rfl,a1l _,(by omega)⟩
 ·exact⟨b,some ⟨b,0,none⟩,cap,rfl,hcap,fun i _=>⟨_,rfl,tG _ _⟩⟩
def RowM (m:Mem) (v:Value) (es len:Nat) (cs:List Value):Prop:=∃ b,Sl v len es (fun i=>⟨b,i*es,none⟩)/\∀ (j:Nat) x,cs[j]? =some x->m.cell ⟨b,j,none⟩=some x
theorem RowM.mono {m m':Mem} (h:Mem.le m m') {v:Value} {es len:Nat} {cs:List Value} (k:RowM m v es len cs):RowM m' v es len cs:=let ⟨b,h1,h2⟩:=k;⟨b,h1,fun j x hx=>Mem.cell_mono h (h2 j x hx)⟩
def lM {α:Type} (es:Nat) (R:Mem->List Value->α->Prop) (m:Mem) (cs:List Value) (xs:List α):Prop:=cs.length=xs.length*es/\∀ i x,xs[i]? =some x->R m ((cs.drop (i*es)).take es) x
theorem lM.nil {α:Type} {es:Nat} {R:Mem->List Value->α->Prop}:lM es R m [] []:=by grind [lM]
theorem lM.mono {α:Type} {es:Nat} {R:Mem->List Value->α->Prop} (hR:∀ {m m':Mem},Mem.le m m'->∀ {l x},R m l x->R m' l x) {m m':Mem} (h:Mem.le m m') {cs:List Value} {xs:List α} (k:lM es R m cs xs):lM es R m' cs xs:=
 (by grind [lM])
theorem lM.get {α:Type} {es:Nat} {R:Mem->List Value->α->Prop} {cs:List Value} {xs:List α} (h:lM es R m cs xs) {i:Nat} {x:α} (hi:xs[i]? =some x):∃ l,l.length=es/\R m l x/\∀ (j:Nat) y,l[j]? =some y->cs[i*es+j]? =some y:=by
 refine⟨_,?_,h.2 i x hi,fun j y hy=>?_⟩
 ·have hlt:=(a0C.1 hi).1;have:(i+1)*es<=xs.length*es:=a1p _ hlt;rw [a1h]at this;simp [h.1];omega
 grind
end
end Go.SX
namespace Go.SW
open Go.SX
structure AF where
 p:Mem->Value->Prop
 mono:∀ {m m':Mem} {v:Value},Mem.le m m'->p m v->p m' v
abbrev Ctx:=List (Nat × AF)
def lk:Ctx->Nat->Option AF
 | [],_=>none
 | (s,φ) :: r,t=>bif Nat.beq s t then some φ else lk r t
structure Tk where
 p:Mem->AW->Prop
 mono:∀ {m m':Mem} {H:AW},Mem.le m m'->p m H->p m' H
def bB:List Tk->Mem->AW->Prop
 | [],_,L=>L=[]
 | τ :: Δ,m,L=>∃ H R,L=H++R/\τ.p m H/\bB Δ m R
theorem bB.mono {m m':Mem} (h:Mem.le m m'):∀ {Δ:List Tk} {L:AW},bB Δ m L->bB Δ m' L
 | [],_,k=>k
 | _ :: _,_,⟨H,R,e,h1,h2⟩=>⟨H,R,e,Tk.mono _ h h1,bB.mono h h2⟩
theorem bB.append {m:Mem}:∀ {Δ Δ':List Tk} {L L':AW},bB Δ m L->bB Δ' m L'->bB (Δ++Δ') m (L++L')
 | [],_,_,_,h,k=>by cases h;exact k
 | _ :: _,_,_,_,⟨H,R,e,h1,h2⟩,k=>⟨H,R++_,by grind,h1,bB.append h2 k⟩
theorem bB.split {m:Mem}:∀ {Δ Δ':List Tk} {L:AW},bB (Δ++Δ') m L->∃ A B,L=A++B/\bB Δ m A/\bB Δ' m B
 | [],_,L,h=>⟨[],L,rfl,rfl,h⟩
 | _ :: _,_,_,⟨H,R,e,h1,h2⟩=>by
  obtain⟨A,B,e2,h3,h4⟩:=bB.split h2;exact⟨H++A,B,by grind,⟨H,A,rfl,h1,h3⟩,h4⟩
structure FT (n:Nat) (ds:List Deferred) (Γ:Ctx) (m:Mem) (a:Act):Prop where
 size:a.tmps.size=n
 Aa:a.defers=ds
 get:∀ t φ,lk Γ t=some φ->∃ v,a.tmps[t]? =some v/\φ.p m v
theorem FT.mono {n:Nat} {ds:List Deferred} {Γ:Ctx} {m m':Mem} {a:Act} (h:FT n ds Γ m a) (hle:Mem.le m m'):FT n ds Γ m' a:=
 ⟨h.size,h.Aa,(by grind [get,AF.mono])⟩
def fEq (v:Value):AF:=⟨fun _ u=>u=v,fun _ h=>h⟩
abbrev aT (k:IntKind) (x:Int):AF:=fEq (.int k x)
abbrev aL (b:Bool):AF:=fEq (.bool b)
abbrev fStr (s:ByteArray):AF:=fEq (.string s)
def evT (Γ:Ctx):Operand->Option AF
 | .tmp t=>lk Γ t
 | .const v=>some (fEq v)
 | .global g=>some (fEq (.pointer (some ⟨g,0,none⟩)))
 | .func f=>some (fEq (.func (.func f) #[] #[]))
def Ent (ψ φ:AF):Prop:=∀ m v,ψ.p m v->φ.p m v
theorem Ent.rfl {φ:AF}:Ent φ φ:=fun _ _ h=>h
def Has (Γ:Ctx) (x:Operand) (φ:AF):Prop:=∃ ψ,evT Γ x=some ψ/\Ent ψ φ
theorem has {Γ:Ctx} {x:Operand} {φ:AF} (h:evT Γ x=some φ):Has Γ x φ:=⟨φ,h, .rfl⟩
theorem hasE {Γ:Ctx} {x:Operand} {ψ φ:AF} (h:evT Γ x=some ψ) (k:Ent ψ φ):Has Γ x φ:=⟨ψ,h,k⟩
def Evs (Γ:Ctx) (m:Mem) (a:Act) (o:Oper):Prop:=∀ x∈o.op.operands,∀ ψ,evT Γ x=some ψ->ψ.p m (a.eval x)
theorem FT.eval {n:Nat} {ds:List Deferred} {Γ:Ctx} {m:Mem} {a:Act} (h:FT n ds Γ m a) {x:Operand} {ψ:AF} (e:evT Γ x=some ψ):ψ.p m (a.eval x):=by
 cases x with
 | tmp t=>
  obtain⟨v,h1,h2⟩:=h.get t ψ e
  simp_all [Act.eval]
 | const u=>simp only [evT,a1z]at e;subst e;rfl
 | global g=>simp only [evT,a1z]at e;subst e;rfl
 | func f=>simp only [evT,a1z]at e;subst e;rfl
theorem FT.evs {n:Nat} {ds:List Deferred} {Γ:Ctx} {m:Mem} {a:Act} (h:FT n ds Γ m a) (o:Oper):Evs Γ m a o:=fun _ _ _ e=>h.eval e
theorem Evs.get {Γ:Ctx} {m:Mem} {a:Act} {o:Oper} (h:Evs Γ m a o) {x:Operand} {φ:AF} (k:Has Γ x φ) (hx:x∈o.op.operands):φ.p m (a.eval x):=
 let ⟨ψ,h1,h2⟩:=k;h2 m _ (h x hx ψ h1)
theorem FT.has {n:Nat} {ds:List Deferred} {Γ:Ctx} {m:Mem} {a:Act} (h:FT n ds Γ m a) {x:Operand} {φ:AF} (k:Has Γ x φ):φ.p m (a.eval x):=
 let ⟨_,h1,h2⟩:=k;h2 m _ (h.eval h1)
theorem pY {s t:Nat} {φ ψ:AF} {Γ:Ctx} (h:lk ((s,φ) :: Γ) t=some ψ):(s=t/\φ=ψ)\/(s≠t/\lk Γ t=some ψ):=by
 simp only [lk]at h
 cases hb:Nat.beq s t with
 | true=>simp_all
 | false=>rw [hb]at h;exact .inr ⟨fun e=>by subst e;simp at hb,h⟩
theorem FT.put {n:Nat} {ds:List Deferred} {Γ:Ctx} {m:Mem} {a:Act} (h:FT n ds Γ m a) {d:Nat} (hd:d<n) {v:Value} {φ:AF} (hv:φ.p m v):FT n ds ((d,φ) :: Γ) m (a.put (some d) v):=by
 refine⟨by simp [Act.put,h.size],by simp [Act.put,h.Aa],fun t ψ hu=>?_⟩
 rcases pY hu with⟨rfl,rfl⟩ | ⟨hne,hu⟩
 ·exact⟨v,by simp [Act.put,h.size,hd],hv⟩
 ·obtain⟨u,h1,h2⟩:=h.get t ψ hu
  grind [Act.put]
def jS (Γ:Ctx) (t:Nat) (φ:AF):Prop:=∃ ψ,lk Γ t=some ψ/\Ent ψ φ
theorem cM {Γ:Ctx} {t:Nat} {φ:AF} (h:lk Γ t=some φ):jS Γ t φ:=⟨φ,h, .rfl⟩
theorem hasSE {Γ:Ctx} {t:Nat} {ψ φ:AF} (h:lk Γ t=some ψ) (k:Ent ψ φ):jS Γ t φ:=⟨ψ,h,k⟩
def gC (Γ' Γ:Ctx):Prop:=∀ p∈Γ',jS Γ p.1 p.2
theorem gC.nil {Γ:Ctx}:gC [] Γ:=fun _ h=>by cases h
theorem gC.cons {Γ' Γ:Ctx} {t:Nat} {φ:AF} (h:jS Γ t φ) (k:gC Γ' Γ):gC ((t,φ) :: Γ') Γ:=by grind [gC]
theorem lk_mem {Γ:Ctx} {t:Nat} {φ:AF} (h:lk Γ t=some φ):(t,φ)∈Γ:=by
 induction Γ with
 | nil=>cases h
 | cons p r ih=>
  grind [pY]
theorem FT.sub {n:Nat} {ds:List Deferred} {Γ Γ':Ctx} {m:Mem} {a:Act} (h:FT n ds Γ m a) (hs:gC Γ' Γ):FT n ds Γ' m a:=
 ⟨h.size,h.Aa,fun t φ ht=>by
  obtain⟨ψ,h1,h2⟩:=hs _ (lk_mem ht);obtain⟨v,h3,h4⟩:=h.get t ψ h1;exact⟨v,h3,h2 m v h4⟩⟩
def T (β:bA) (n:Nat) (ds:List Deferred) (Γ:Ctx) (Δ:List Tk) (F:Act->World->Prop):Prop:=
 ∀ m L a w,FT n ds Γ m a->bB Δ m L->St β m L w->F a w
section
variable {β:bA} {n:Nat} {ds:List Deferred} {Γ:Ctx} {Δ:List Tk} {F G:Act->World->Prop}
theorem T.mono (h:T β n ds Γ Δ F) (hf:∀ a w,F a w->G a w):T β n ds Γ Δ G:=by grind [T]
theorem jT (t:Nat) {ψ φ:AF} (hl:lk Γ t=some ψ) (he:Ent ψ φ) (h:T β n ds ((t,φ) :: Γ) Δ F):T β n ds Γ Δ F:=fun m L a w x y z=>h m L a w
 ⟨x.size,x.Aa,fun s χ hs=>by
  rcases pY hs with⟨rfl,rfl⟩ | ⟨_,hs⟩
  ·obtain⟨v,h1,h2⟩:=x.get _ _ hl;exact⟨v,h1,he m v h2⟩
  ·exact x.get s χ hs⟩ y z
theorem bB.perm {m:Mem} {Δ Δ':List Tk} (hp:Δ.Perm Δ'):∀ {L:AW},bB Δ m L->∃ L',L.Perm L'/\bB Δ' m L':=by
 induction hp with
 | nil=>grind [List.Perm.refl]
 | cons x _ ih=>
  intro L ⟨H,R,e,h1,h2⟩
  obtain⟨R',hp,h3⟩:=ih h2;exact⟨H++R',by rw [e];exact hp.append_left H,H,R',rfl,h1,h3⟩
 | swap x y l=>
  intro L ⟨H,R,e,h1,H2,R2,e2,h2,h3⟩
  refine⟨H2++(H++R2),?_,H2,_,rfl,h2,H,R2,rfl,h1,h3⟩
  grind [List.Perm.append_right,List.perm_append_comm]
 | trans _ _ ih1 ih2=>
  intro L h;obtain⟨L1,p1,h1⟩:=ih1 h;obtain⟨L2,p2,h2⟩:=ih2 h1;exact⟨L2,p1.trans p2,h2⟩
theorem qM {Δ':List Tk} (hp:Δ.Perm Δ') (h:T β n ds Γ Δ' F):T β n ds Γ Δ F:=fun m L a w x y z=>by
 obtain⟨L',p,y'⟩:=y.perm hp
 exact h m L' a w x y' (z.perm p)
def tV (Δ:List Tk) (ks:List Nat):List Tk:=ks.filterMap (Δ[·]?)
theorem bB.heaps {m:Mem}:∀ {Δ:List Tk} {L:AW},bB Δ m L->∃ Hs:List AW,Hs.length=Δ.length/\L=Hs.flatten/\∀ (i:Nat) (τ:Tk) (H:AW),Δ[i]? =some τ->Hs[i]? =some H->τ.p m H
 | [],_,h=>⟨[],rfl,by rw [h];rfl,fun i τ H h=>by simp at h⟩
 | τ :: Δ,_,⟨H,R,e,h1,h2⟩=>by
  obtain⟨Hs,hl,hf,hg⟩:=bB.heaps h2;refine⟨H :: Hs,by simp [hl],by rw [e,hf];rfl,fun i τ' H' h3 h4=>?_⟩
  grind
theorem picks {m:Mem} {Δ:List Tk} {Hs:List AW} (hl:Hs.length=Δ.length) (hg:∀ (i:Nat) (τ:Tk) (H:AW),Δ[i]? =some τ->Hs[i]? =some H->τ.p m H):∀ ks:List Nat,bB (tV Δ ks) m (ks.filterMap (Hs[·]?)).flatten
 | []=>rfl
 | k :: ks=>by
  have ih:=picks hl hg ks;unfold tV at ih ⊢
  rw [List.filterMap_cons,List.filterMap_cons];cases h1:Δ[k]? with
  | none=>
   grind
  | some τ=>
   have hlt:=(a0C.1 h1).1;obtain⟨H,hH⟩:∃ H,Hs[k]? =some H:=by simp_all
   rw [hH];exact⟨H,_,rfl,hg k τ H h1 hH,ih⟩
theorem aFr {α:Type} {Hs:List (List α)} {ks:List Nat} {x:α} (h:x∈(ks.filterMap (Hs[·]?)).flatten):x∈Hs.flatten:=by
 grind [List.mem_flatten]
theorem aDB:∀ {Hs:List AW} {ks:List Nat},ks.Nodup->(Hs.flatten.map Prod.fst).Nodup->((ks.filterMap (Hs[·]?)).flatten.map Prod.fst).Nodup:=by
 intro Hs ks hk hn
 have hp:Hs.Pairwise fun A B=>∀ x∈A,∀ y∈B,x.1≠y.1:=by
  grind
 have hi:∀ H∈Hs,(H.map Prod.fst).Nodup:=by grind
 have hp2:∀ (i j:Nat) (A B:AW),i≠j->Hs[i]? =some A->Hs[j]? =some B->∀ x∈A,∀ y∈B,x.1≠y.1:=fun i j A B hne hA hB x hx y hy=>by
  obtain⟨hi,rfl⟩:=a0C.1 hA;obtain⟨hj,rfl⟩:=a0C.1 hB
  grind [List.pairwise_iff_getElem]
 induction ks with
 | nil=>simp
 | cons k ks ih=>
  rw [a1b]at hk;have ih:=ih hk.2;rw [List.filterMap_cons];cases h1:Hs[k]? with
  | none=>exact ih
  | some A=>
   simp only [List.flatten_cons,a0N,a1a];refine⟨hi A (a0X h1),ih,fun a ha b hb=>?_⟩
   obtain⟨x,hx,rfl⟩:=a0V.1 ha;obtain⟨y,hy,rfl⟩:=a0V.1 hb;obtain⟨B,hB,hyB⟩:=List.mem_flatten.1 hy
   grind
theorem aC (ks:List Nat) (hk:ks.Nodup) (h:T β n ds Γ (tV Δ ks) F):T β n ds Γ Δ F:=fun m L a w x y z=>by
 obtain⟨Hs,hl,rfl,hg⟩:=y.heaps
 exact h m _ a w x (picks hl hg ks) (z.of_mem (fun x hx=>aFr hx) (aDB hk z.nodup))
theorem bB.ent {m:Mem}:∀ {Δ Δ':List Tk} {L:AW},bB Δ m L->Δ.length=Δ'.length->(∀ (i:Nat) (τ σ:Tk),Δ[i]? =some τ->Δ'[i]? =some σ->∀ H,τ.p m H->σ.p m H)->bB Δ' m L
 | [],[],_,h,_,_=>h
 | τ :: Δ,σ :: Δ',_,⟨H,R,e,h1,h2⟩,hl,hg=>⟨H,R,e,hg 0 τ σ rfl rfl H h1,bB.ent h2 (by simpa using hl) fun i τ' σ' h3 h4=>hg (i+1) τ' σ' (by simpa using h3) (by simpa using h4)⟩
def AtT (β:bA) (n:Nat) (ds:List Deferred) (Γ:Ctx) (Δ:List Tk) (a:Act) (w:World):Prop:=∃ m L,FT n ds Γ m a/\bB Δ m L/\St β m L w
theorem aEX (h:T β n ds Γ Δ F):∀ a w,AtT β n ds Γ Δ a w->F a w:=fun a w ⟨m,L,x,y,z⟩=>h m L a w x y z
end
section
variable {P:Program} {β:bA} {n:Nat} {ds:List Deferred} {Γ:Ctx} {Δ:List Tk} {r:Option Nat} {Q Q':Exit->Act->World->Prop} {N:Act->World->Prop}
theorem aK {x y:Code} (h:T β n ds Γ Δ (x.wpIn (fw r) 0 P (Exit.then (y.wpIn (fw r) 0 P Q) Q))):T β n ds Γ Δ ((Code.seq x y).wpIn (fw r) 0 P Q):=h.mono fun _ _=>wpIn_seq
theorem T_skip (h:T β n ds Γ Δ (Q .normal)):T β n ds Γ Δ (Code.skip.wpIn (fw r) 0 P Q):=h.mono fun _ _=>wpIn_skip
theorem T_exit {id:Nat} (h:T β n ds Γ Δ (Q (.exit id))):T β n ds Γ Δ ((Code.exit id).wpIn (fw r) 0 P Q):=h.mono fun _ _=>wpIn_exit
theorem T_retc (h:T β n ds Γ Δ (Q .ret)):T β n ds Γ Δ (Code.ret.wpIn (fw r) 0 P Q):=h.mono fun _ _=>wpIn_ret
theorem T_block {id:Nat} {c:Code} (h:T β n ds Γ Δ (c.wpIn (fw r) 0 P (Exit.inBlock id Q))):T β n ds Γ Δ ((Code.block id c).wpIn (fw r) 0 P Q):=h.mono fun _ _=>wpIn_block
theorem T_cond_t {c:Operand} {x y:Code} {t:Bool} (hc:Has Γ c (aL t)) (ht:t=true) (h:T β n ds Γ Δ (x.wpIn (fw r) 0 P Q)):
 T β n ds Γ Δ ((Code.cond c x y).wpIn (fw r) 0 P Q):=fun m L a w hF hL hS=>wpIn_cond_true (by rw [<- ht];exact hF.has hc) (h m L a w hF hL hS)
theorem T_cond_f {c:Operand} {x y:Code} {t:Bool} (hc:Has Γ c (aL t)) (ht:t=false) (h:T β n ds Γ Δ (y.wpIn (fw r) 0 P Q)):
 T β n ds Γ Δ ((Code.cond c x y).wpIn (fw r) 0 P Q):=fun m L a w hF hL hS=>wpIn_cond_false (by rw [<- ht];exact hF.has hc) (h m L a w hF hL hS)
theorem aDF {id:Nat} {l:List Oper} (h:T β n ds Γ Δ (wpListIn (fw r) 0 P l.toArray Q l)):T β n ds Γ Δ ((Code.region id l.toArray false).wpIn (fw r) 0 P Q):=h.mono fun _ _=>wpIn_region_lit
theorem T_nil {ops:Array Oper} (h:T β n ds Γ Δ (Q .normal)):T β n ds Γ Δ (wpListIn (fw r) 0 P ops Q []):=h
theorem aEq (h:T β n ds Γ Δ N):T β n ds Γ Δ (Exit.then N Q .normal):=h
theorem aHD {id:Nat} (h:T β n ds Γ Δ (Q (.exit id))):T β n ds Γ Δ (Exit.then N Q (.exit id)):=h
theorem aDJ (h:T β n ds Γ Δ (Q .ret)):T β n ds Γ Δ (Exit.then N Q .ret):=h
theorem aIx {c:List PanicEntry} (h:T β n ds Γ Δ (Q (.panic c))):T β n ds Γ Δ (Exit.then N Q (.panic c)):=h
theorem T_in_n {id:Nat} (h:T β n ds Γ Δ (Q .normal)):T β n ds Γ Δ (Exit.inBlock id Q .normal):=h
theorem T_in_ret {id:Nat} (h:T β n ds Γ Δ (Q .ret)):T β n ds Γ Δ (Exit.inBlock id Q .ret):=h
theorem aHv {id:Nat} {c:List PanicEntry} (h:T β n ds Γ Δ (Q (.panic c))):T β n ds Γ Δ (Exit.inBlock id Q (.panic c)):=h
theorem T_in_hit {id:Nat} (h:T β n ds Γ Δ (Q .normal)):T β n ds Γ Δ (Exit.inBlock id Q (.exit id)):=by
 refine h.mono fun a w q=>?_;simp only [Exit.inBlock,if_true];exact q
theorem aGK {id id':Nat} (hne:Nat.beq id' id=false) (h:T β n ds Γ Δ (Q (.exit id'))):T β n ds Γ Δ (Exit.inBlock id Q (.exit id')):=by
 have:id'≠id:=fun e=>by subst e;simp at hne
 refine h.mono fun a w q=>?_;simp only [Exit.inBlock,a1G this];exact q
theorem aO {ι:Type} {x y:Code} (ok:ι->Prop) (Γf:ι->Ctx) (Δf:ι->List Tk) (h:T β n ds Γ Δ (x.wpIn (fw r) 0 P (Exit.then (fun a w=>∃ i,ok i/\AtT β n ds (Γf i) (Δf i) a w) Q)))
 (k:∀ i,ok i->T β n ds (Γf i) (Δf i) (y.wpIn (fw r) 0 P Q)):T β n ds Γ Δ ((Code.seq x y).wpIn (fw r) 0 P Q):=
 aK (h.mono fun a w hx=>Code.wpIn_mono (fun e a w q=>by
  cases e <;> first
   | exact q
   | grind [aEX,Exit.then]) hx)
theorem T_meet {ι:Type} {ok:ι->Prop} {Γf:ι->Ctx} {Δf:ι->List Tk} (i:ι) (h:ok i) (hs:gC (Γf i) Γ) (hd:Δ=Δf i):T β n ds Γ Δ (fun a w=>∃ i,ok i/\AtT β n ds (Γf i) (Δf i) a w):=
 fun m L a w x y z=>⟨i,h,m,L,x.sub hs,hd ▸ y,z⟩
theorem T_loop {ι:Type} {c:Code} (ok:ι->Prop) (μ:ι->Nat) (Γf:ι->Ctx) (Δf:ι->List Tk) (i₀:ι) (h₀:ok i₀) (hs:gC (Γf i₀) Γ) (hd:Δ=Δf i₀)
 (round:∀ i,ok i->T β n ds (Γf i) (Δf i) (c.wpIn (fw r) 0 P (Exit.then (fun a w=>∃ j,(ok j/\μ j<μ i)/\AtT β n ds (Γf j) (Δf j) a w) Q))):
 T β n ds Γ Δ ((Code.loop c).wpIn (fw r) 0 P Q):=by
 intro m L a w hF hL hS
 let J:Act->World->Nat->Prop:=fun a w k=>∃ i,μ i=k/\ok i/\AtT β n ds (Γf i) (Δf i) a w
 let f:Act->World->Nat:=fun a w=>open Classical in if h:∃ k,J a w k then Classical.choose (wV h) else 0
 refine wpIn_loop (fun a w=>∃ k,J a w k) f ⟨_,i₀,rfl,h₀,m,L,hF.sub hs,hd ▸ hL,hS⟩ ?_
 intro a w hex
 have hf:f a w=Classical.choose (wV hex):=by grind
 obtain⟨⟨i,hi,hok,hat⟩,hmin⟩:=Classical.choose_spec (wV hex)
 rw [<- hf]at hi hmin
 refine Code.wpIn_mono ?_ (aEX (round i hok) a w hat)
 intro e a' w' q
 cases e with
 | normal=>
  obtain⟨j,⟨hj,hlt⟩,hat'⟩:=q;have hex':∃ k,J a' w' k:=⟨_,j,rfl,hj,hat'⟩;refine⟨hex',?_⟩;have hf':f a' w'=Classical.choose (wV hex'):=by grind
  have:=(Classical.choose_spec (wV hex')).2 (μ j) ⟨j,rfl,hj,hat'⟩;omega
 | _=>exact q
def bX (ops:Array Oper) (Γ:Ctx) (o:Oper):Prop:=match o.guard with
 | none=>True
 | some (j,want)=>∃ d c,(ops[j]?).bind (·.dst)=some d/\lk Γ d=some (aL c)/\c=want
def Never (ψ:AF) (want:Bool):Prop:=∀ m v,ψ.p m v->SX.asB v≠some want
theorem nb {c want:Bool} (h:c≠want):Never (aL c) want:=fun _ _ e=>by cases e;intro h2;cases h2;exact h rfl
theorem nu {want:Bool}:Never (fEq undef) want:=fun _ _ e=>by cases e;intro h;cases h
def tH (ops:Array Oper) (Γ:Ctx) (o:Oper):Prop:=∃ j want d ψ,o.guard=some (j,want)/\(ops[j]?).bind (·.dst)=some d/\lk Γ d=some ψ/\Never ψ want
theorem FT.yielded {m:Mem} {a:Act} (h:FT n ds Γ m a) {ops:Array Oper} {j d:Nat} {c:Bool} (hd:(ops[j]?).bind (·.dst)=some d) (hl:lk Γ d=some (aL c)):Go.yielded ops a.tmps j=some c:=by
 obtain⟨v,h1,h2⟩:=h.get d _ hl
 have h2:v= .bool c:=h2
 grind [Go.yielded]
theorem bX.wanted {m:Mem} {a:Act} (h:FT n ds Γ m a) {ops:Array Oper} {o:Oper} (hw:bX ops Γ o):Region.wanted o (Go.yielded ops a.tmps)=true:=by
 unfold bX at hw
 unfold Region.wanted
 grind [FT.yielded]
theorem tH.wanted {m:Mem} {a:Act} (h:FT n ds Γ m a) {ops:Array Oper} {o:Oper} (hw:tH ops Γ o):Region.wanted o (Go.yielded ops a.tmps)=false:=by
 obtain⟨j,want,d,ψ,hg,h1,h2,h3⟩:=hw
 obtain⟨v,h4,h5⟩:=h.get d _ h2
 have h6:=h3 m v h5
 have h7:Go.yielded ops a.tmps j=SX.asB v:=by
  simp only [Go.yielded,h1,Option.bind_some,h4];cases v <;> rfl
 grind [Region.wanted]
structure OpT (P:Program) (Γ:Ctx) (Δr:List Tk) (o:Oper) (φ:AF):Prop where
 nd:iH o.op=false
 run:∀ β m L a w,Evs Γ m a o->St β m L w->bB Δr m L->∃ v,(execOp a.eval o).run P w= .ok (.value v) w/\φ.p m v
variable {ops:Array Oper} {o:Oper} {rest:List Oper}
theorem bB.pick {m:Mem} {L:AW} {w:World} (y:bB Δ m L) (z:St β m L w) (ks:List Nat) (hk:ks.Nodup):∃ L',bB (tV Δ ks) m L'/\St β m L' w:=by
 obtain⟨Hs,hl,rfl,hg⟩:=y.heaps
 exact⟨_,picks hl hg ks,z.of_mem (fun x hx=>aFr hx) (aDB hk z.nodup)⟩
theorem T_op {d:Nat} {φ:AF} (ks:List Nat) (hw:bX ops Γ o) (hk:ks.Nodup) (hd:o.dst=some d) (hn:Nat.ble (d+1) n=true) (h:OpT P Γ (tV Δ ks) o φ)
 (k:T β n ds ((d,φ) :: Γ) Δ (wpListIn (fw r) 0 P ops Q rest)):T β n ds Γ Δ (wpListIn (fw r) 0 P ops Q (o :: rest)):=fun m L a w x y z=>by
 obtain⟨L',y',z'⟩:=y.pick z ks hk
 obtain⟨v,h2,h3⟩:=h.run β m L' a w (x.evs o) z' y'
 have h1:o.semAt (fw r).round a.eval=execOp a.eval o:=Oper.semAt_eq _ _ _ fun c hc=>by have:=h.nd;rw [hc]at this;cases this
 simp only [wpListIn,hw.wanted x,if_true]
 refine⟨fun _ _=>a1I,?_⟩
 rw [h1,h2,Oper.uponIn_value,hd]
 exact k m L _ w (x.put (a1k hn) h3) y z
theorem T_y {d:Nat} {φ:AF} (hw:bX ops Γ o) (hd:o.dst=some d) (hn:Nat.ble (d+1) n=true) (h:OpT P Γ [] o φ)
 (k:T β n ds ((d,φ) :: Γ) Δ (wpListIn (fw r) 0 P ops Q rest)):T β n ds Γ Δ (wpListIn (fw r) 0 P ops Q (o :: rest)):=T_op [] hw .nil hd hn h k
theorem bF (hw:tH ops Γ o) {d:Nat} (hd:o.dst=some d) (hn:Nat.ble (d+1) n=true) (k:T β n ds ((d,fEq undef) :: Γ) Δ (wpListIn (fw r) 0 P ops Q rest)):
 T β n ds Γ Δ (wpListIn (fw r) 0 P ops Q (o :: rest)):=fun m L a w x y z=>by
 simp only [wpListIn,hw.wanted x]
 exact⟨fun _ _=>trivial,by rw [hd];exact k m L _ w (x.put (a1k hn) rfl) y z⟩
end
open Go.SX
def eU (φ:AF):Prop:=∀ m v,φ.p m v->cO v
theorem aD {v:Value} (h:cO v):eU (fEq v):=fun _ _ e=>by cases e;exact h
def aU:List AF->Mem->List Value->Prop
 | [],_,cs=>cs=[]
 | φ :: φs,m,cs=>∃ c r,cs=c :: r/\φ.p m c/\aU φs m r
theorem aU.mono {m m':Mem} (h:Mem.le m m'):∀ {φs:List AF} {cs:List Value},aU φs m cs->aU φs m' cs
 | [],_,k=>k
 | φ :: _,_,⟨c,r,e,h1,h2⟩=>⟨c,r,e,φ.mono h h1,aU.mono h h2⟩
theorem aU.length {m:Mem}:∀ {φs:List AF} {cs:List Value},aU φs m cs->cs.length=φs.length
 | [],_,k=>by rw [k];rfl
 | _ :: _,_,⟨c,r,e,_,h2⟩=>by rw [e];simp [aU.length h2]
theorem aU.get {m:Mem}:∀ {φs:List AF} {cs:List Value},aU φs m cs->∀ {i:Nat} {φ:AF},φs[i]? =some φ->∃ c,cs[i]? =some c/\φ.p m c
 | φ :: _,_,⟨c,r,e,h1,h2⟩,0,ψ,h=>by grind
 | _ :: _,_,⟨c,r,e,h1,h2⟩,i+1,ψ,h=>by
  obtain⟨u,h3,h4⟩:=aU.get h2 (i:=i) (by simpa using h)
  grind
theorem aU.append {m:Mem}:∀ {φs ψs:List AF} {cs ds:List Value},aU φs m cs->aU ψs m ds->aU (φs++ψs) m (cs++ds)
 | [],_,_,_,h,k=>by rw [h];exact k
 | _ :: _,_,_,_,⟨c,r,e,h1,h2⟩,k=>⟨c,r++_,by rw [e];rfl,h1,aU.append h2 k⟩
theorem aU.drop {m:Mem}:∀ {φs:List AF} {cs:List Value} (k:Nat),aU φs m cs->aU (φs.drop k) m (cs.drop k)
 | _,_,0,h=>h
 | [],_,k+1,h=>by rw [h];simp;rfl
 | _ :: _,_,k+1,⟨c,r,e,h1,h2⟩=>by rw [e];exact aU.drop k h2
theorem aU.take {m:Mem}:∀ {φs:List AF} {cs:List Value} (k:Nat),aU φs m cs->aU (φs.take k) m (cs.take k)
 | _,_,0,h=>by simp;rfl
 | [],_,k+1,h=>by rw [h];simp;rfl
 | _ :: _,_,k+1,⟨c,r,e,h1,h2⟩=>by rw [e];exact⟨c,_,rfl,h1,aU.take k h2⟩
theorem aU.set {m:Mem}:∀ {φs:List AF} {cs:List Value} {k:Nat} {φ:AF} {v:Value},aU φs m cs->φ.p m v->aU (φs.set k φ) m (cs.set k v)
 | [],_,k,_,_,h,_=>by rw [h];simp;rfl
 | _ :: _,_,0,_,_,⟨c,r,e,h1,h2⟩,hv=>by grind [aU]
 | _ :: _,_,k+1,_,_,⟨c,r,e,h1,h2⟩,hv=>by rw [e];exact⟨c,_,rfl,h1,aU.set h2 hv⟩
theorem aU.cells {m:Mem}:∀ {φs:List AF} {cs:List Value},aU φs m cs->(∀ φ∈φs,eU φ)->∀ c∈cs,cO c
 | [],_,h,_,c,hc=>by rw [h]at hc;cases hc
 | φ :: _,_,⟨u,r,e,h1,h2⟩,hl,c,hc=>by
  rw [e]at hc;cases hc with
  | head=>exact hl φ (.head _) m _ h1
  | tail _ hc=>exact aU.cells h2 (by grind) c hc
def aG:List AF->List AF->Prop
 | [],φs=>φs=[]
 | ψ :: ψs,φs=>∃ φ r,φs=φ :: r/\Ent ψ φ/\aG ψs r
theorem aG.all {m:Mem}:∀ {ψs φs:List AF} {cs:List Value},aG ψs φs->aU ψs m cs->aU φs m cs
 | [],_,_,h,k=>by rw [h];exact k
 | _ :: _,_,_,⟨φ,r,e,h1,h2⟩,⟨c,s,e2,h3,h4⟩=>by rw [e];exact⟨c,s,e2,h1 m c h3,aG.all h2 h4⟩
theorem aG.rfl:∀ {φs:List AF},aG φs φs
 | []=>by simp [aG]
 | φ :: φs=>⟨φ,φs,by simp, .rfl,aG.rfl⟩
theorem aG.nil:aG [] []:=by simp [aG]
theorem aG.cons {ψ φ:AF} {ψs φs:List AF} (h:Ent ψ φ) (k:aG ψs φs):aG (ψ :: ψs) (φ :: φs):=⟨φ,φs,by simp,h,k⟩
structure Ty (α:Type) where
 sz:Nat
 AY:α->List AF
 len:∀ x,(AY x).length=sz
 cell:∀ x,∀ φ∈AY x,eU φ
def Ty.at {α:Type} (t:Ty α) (m:Mem) (p:Addr) (x:α):Prop:=∃ cs,aU (t.AY x) m cs/\∀ (j:Nat) c,cs[j]? =some c->m.cell (p.add j)=some c
theorem Ty.at_mono {α:Type} {t:Ty α} {m m':Mem} (h:Mem.le m m') {p:Addr} {x:α} (k:t.at m p x):t.at m' p x:=
 let ⟨cs,h1,h2⟩:=k;⟨cs,h1.mono h,(by grind [Mem.cell_mono])⟩
def fSl {α:Type} (t:Ty α) (xs:List α):AF:=⟨fun m v=>∃ q,Sl v xs.length t.sz q/\xs.length<=1000000000/\∀ (i:Nat) x,xs[i]? =some x->t.at m (q i) x,
 (by grind [Ty.at_mono])⟩
def bV {α:Type} (t:Ty α) (x:α):AF:=⟨fun m v=>∃ p,v= .pointer (some p)/\t.at m p x,(by grind [Ty.at_mono])⟩
def dW (φs:List AF):AF:=⟨fun m v=>∃ cs:List Value,v= .agg cs.toArray/\aU φs m cs,(by grind [aU.mono])⟩
def dI (φs:List AF):AF:=⟨fun m v=>∃ cs:List Value,v= .tuple cs.toArray/\aU φs m cs,(by grind [aU.mono])⟩
abbrev fSt {α:Type} (t:Ty α) (x:α):AF:=dW (t.AY x)
theorem cA {α:Type} {t:Ty α} {xs:List α}:eU (fSl t xs):=fun _ _ ⟨_,h,_⟩=>h.isCell
theorem cF {α:Type} {t:Ty α}:Ent (fEq (.slice none 0 0)) (fSl t []):=fun _ _ h=>by
 cases h;exact⟨fun _=>default,(by grind [Sl]),by simp,fun i x h=>by simp at h⟩
theorem gV {ψs φs:List AF} (h:aG ψs φs):Ent (dW ψs) (dW φs):=fun m v hv=>by
 obtain⟨cs,h1,h2⟩:=hv
 exact⟨cs,h1,h.all h2⟩
def aJ (k:IntKind):Ty Int:=⟨1,fun x=>[aT k x],fun _=>rfl,fun _ φ h=>by simp at h;subst h;exact aD trivial⟩
def fV:Ty Bool:=⟨1,fun x=>[aL x],fun _=>rfl,fun _ φ h=>by simp at h;subst h;exact aD trivial⟩
def tStr:Ty ByteArray:=⟨1,fun x=>[fStr x],fun _=>rfl,fun _ φ h=>by simp at h;subst h;exact aD trivial⟩
def tSl {α:Type} (t:Ty α):Ty (List α):=⟨1,fun x=>[fSl t x],fun _=>rfl,(by grind [cA])⟩
def aA (b:Nat) (T:TypeId) (φs:List AF):Tk:=⟨fun m H=>∃ cs,aU φs m cs/\H=[(b, .cells cs.toArray T (0,0))],(by grind [aU.mono])⟩
def aB {α:Type} (v:Value) (e:TypeId) (t:Ty α) (xs:List α):Tk:=⟨fun m H=>∃ cs,fL v t.sz e xs.length cs H/\xs.length<=1000000000/\aU (xs.flatMap t.AY) m cs,
 (by grind [aU.mono])⟩
def pL (v:Value) (es i k:Nat):AF:=⟨fun _ u=>∃ b len cap,v= .slice (some ⟨b,0,none⟩) len cap/\u= .pointer (some ⟨b,i*es+k,none⟩),fun _ h=>h⟩
theorem qU {α:Type} {t:Ty α} {m:Mem}:∀ {xs:List α} {cs:List Value},aU (xs.flatMap t.AY) m cs->∀ {i:Nat} {x:α},xs[i]? =some x->aU (t.AY x) m ((cs.drop (i*t.sz)).take t.sz)
 | y :: ys,cs,h,0,x,hx=>by
  cases hx;rw [a0w]at h;have:=h.take t.sz
  grind [Ty.len]
 | y :: ys,cs,h,i+1,x,hx=>by
  rw [a0w]at h;have h2:=h.drop t.sz;rw [List.drop_append_of_le_length (by grind [Ty.len]),List.drop_of_length_le (by grind [Ty.len]),a0Z]at h2;have:=qU h2 (i:=i) (x:=x) (by simpa using hx)
  grind [List.drop_drop]
theorem oY {α:Type} {t:Ty α}:∀ {xs:List α},(xs.flatMap t.AY).length=xs.length*t.sz
 | []=>by simp
 | y :: ys=>by rw [a0w,a0I,t.len,oY (xs:=ys),a0J,a1h];omega
theorem aGW {α:Type} {t:Ty α} {xs:List α}:∀ φ∈xs.flatMap t.AY,eU φ:=by grind [Ty.cell]
def idx {α:Type} (xs:List α) (i:Int):Option α:=if 0<=i then xs[i.toNat]? else none
def chk (i:Int):Option Int:=if -9223372036854775808<=i/\i<=9223372036854775807 then some i else none
theorem aAT {i z:Int} (h:chk i=some z):z=i/\IntKind.i64.wrap i=i:=by
 unfold chk at h
 grind [wrap64_id]
theorem aAm {α:Type} {xs:List α} {i:Int} {x:α} (h:idx xs i=some x):∃ j:Nat,i=(j:Int)/\xs[j]? =some x/\j<xs.length:=by
 unfold idx at h
 grind
section
variable {P:Program} {Γ:Ctx} {o:Oper}
theorem dL {φ:AF} (nd:iH o.op=false) (h:∀ β m a w,Evs Γ m a o->St β m [] w->∃ v,(execOp a.eval o).run P w= .ok (.value v) w/\φ.p m v):OpT P Γ [] o φ:=
 ⟨nd,fun β m L a w he hS hL=>by have:L=[]:=hL;subst this;exact h β m a w he hS⟩
theorem o_val {x:Operand} {φ:AF} (ho:o.op= .move x\/o.op= .assign x) (hx:Has Γ x φ):OpT P Γ [] o φ:=
 dL (by rcases ho with ho | ho <;> rw [ho] <;> rfl) fun β m a w he _=>
  ⟨a.eval x,by rcases ho with ho | ho <;> simp [execOp,ho,Sem.run,pure],he.get hx (by grind [Op.operands])⟩
theorem o_move {x:Operand} {φ:AF} (ho:o.op= .move x) (hx:Has Γ x φ):OpT P Γ [] o φ:=o_val (.inl ho) hx
theorem tQ {x:Operand} {φ:AF} (ho:o.op= .assign x) (hx:Has Γ x φ):OpT P Γ [] o φ:=o_val (.inr ho) hx
theorem o_pick_t {c x y:Operand} {b:Bool} {φ:AF} (ho:o.op= .pick c x y) (hc:Has Γ c (aL b)) (hb:b=true) (hx:Has Γ x φ):OpT P Γ [] o φ:=
 dL (by rw [ho];rfl) fun β m a w he _=>by
  have h1:a.eval c= .bool b:=he.get hc (by rw [ho];simp [Op.operands])
  have h2:=he.get hx (by rw [ho];simp [Op.operands])
  subst hb;exact⟨_,by simp [execOp,ho,h1,asBool,a1B,Sem.run,pure],h2⟩
theorem o_pick_f {c x y:Operand} {b:Bool} {φ:AF} (ho:o.op= .pick c x y) (hc:Has Γ c (aL b)) (hb:b=false) (hx:Has Γ y φ):OpT P Γ [] o φ:=
 dL (by rw [ho];rfl) fun β m a w he _=>by
  have h1:a.eval c= .bool b:=he.get hc (by rw [ho];simp [Op.operands])
  have h2:=he.get hx (by rw [ho];simp [Op.operands])
  subst hb;exact⟨_,by simp [execOp,ho,h1,asBool,a1B,Sem.run,pure],h2⟩
theorem o_load {α:Type} {t:Ty α} {y:α} {T:TypeId} {x:Operand} {φ:AF} (ho:o.op= .load T x) (hx:Has Γ x (bV t y)) (hT:iX P T) (hl:t.AY y=[φ]):OpT P Γ [] o φ:=
 dL (by rw [ho];rfl) fun β m a w he hS=>by
  obtain⟨p,h1,cs,h2,h3⟩:=he.get hx (by rw [ho];simp [Op.operands])
  rw [hl]at h2;obtain⟨c,r,rfl,h4,_⟩:=h2;have h5:m.cell p=some c:=h3 0 c rfl;exact⟨c,by simp [execOp,ho,h1,a1B,Sem.run,pure,aCa hT (hS.cell h5)],h4⟩
theorem o_loadS {α:Type} {t:Ty α} {y:α} {T:TypeId} {x:Operand} (ho:o.op= .load T x) (hx:Has Γ x (bV t y)) (hT:jA P T t.sz):OpT P Γ [] o (fSt t y):=
 dL (by rw [ho];rfl) fun β m a w he hS=>by
  obtain⟨p,h1,cs,h2,h3⟩:=he.get hx (by rw [ho];simp [Op.operands])
  have hlen:cs.length=t.sz:=by rw [h2.length,t.len]
  exact⟨.agg cs.toArray,by simp [execOp,ho,h1,a1B,Sem.run,pure,aCl cs (by rw [hlen];exact hT) (fun j v hj=>hS.cell (h3 j v hj))],cs,rfl,h2⟩
theorem aBb {β:bA} {m:Mem} {L:AW} {w:World} {b:Nat} {T':TypeId} {φs:List AF} (hL:bB [aA b T' φs] m L) (hS:St β m L w):∃ cs,aU φs m cs/\∀ (j:Nat) c,cs[j]? =some c->w.cell? ⟨b,j,none⟩=some c:=by
 obtain⟨H,R,rfl,⟨cs,h1,rfl⟩,h2⟩:=hL
 exact⟨cs,h1,fun j c hc=>hS.own_cell (k:=0) (b:=b) (c:=cs.toArray) (T:=T') (fz:=(0,0)) rfl rfl rfl (by simpa using hc)⟩
theorem o_loadB {b k:Nat} {T' T:TypeId} {φs:List AF} {x:Operand} {ψ φ:AF} (ho:o.op= .load T x) (hx:Has Γ x (fEq (.pointer (some ⟨b,k,none⟩)))) (hT:iX P T) (hl:φs[k]? =some ψ) (he:Ent ψ φ):OpT P Γ [aA b T' φs] o φ:=
 ⟨by rw [ho];rfl,fun β m L a w hev hS hL=>by
  have h1:a.eval x=_:=hev.get hx (by rw [ho];simp [Op.operands])
  obtain⟨cs,h2,h3⟩:=aBb hL hS;obtain⟨c,h4,h5⟩:=h2.get hl;exact⟨c,by simp [execOp,ho,h1,a1B,Sem.run,pure,aCa hT (h3 k c h4)],he m c h5⟩⟩
theorem uS (b k j:Nat):Addr.add ⟨b,k,none⟩ j=⟨b,k+j,none⟩:=by grind [Addr.add]
theorem o_loadBS {b k sz:Nat} {T' T:TypeId} {φs ψs:List AF} {x:Operand} (ho:o.op= .load T x) (hx:Has Γ x (fEq (.pointer (some ⟨b,k,none⟩)))) (hT:jA P T sz) (hl:(φs.drop k).take sz=ψs) (hz:ψs.length=sz):OpT P Γ [aA b T' φs] o (dW ψs):=
 ⟨by rw [ho];rfl,fun β m L a w hev hS hL=>by
  have h1:a.eval x=_:=hev.get hx (by rw [ho];simp [Op.operands])
  obtain⟨cs,h2,h3⟩:=aBb hL hS;have h4:=(h2.drop k).take sz;rw [hl]at h4;have h5:=h4.length;refine⟨.agg ((cs.drop k).take sz).toArray,?_,_,rfl,h4⟩;have:=aCl (P:=P) (w:=w) (p:=⟨b,k,none⟩) ((cs.drop k).take sz) (T:=T) (by rw [h5,hz];exact hT) (fun j v hj=>by
   grind [uS])
  simp_all [execOp]⟩
theorem zZ {α:Type} {t:Ty α} {β:bA} {m:Mem} {L:AW} {w:World} {v:Value} {e:TypeId} {xs:List α} (hL:bB [aB v e t xs] m L) (hS:St β m L w):
 ∃ cs,aU (xs.flatMap t.AY) m cs/\xs.length<=1000000000/\((v= .slice none 0 0/\xs=[])\/∃ b cap,v= .slice (some ⟨b,0,none⟩) xs.length cap/\∀ (j:Nat) c,cs[j]? =some c->w.cell? ⟨b,j,none⟩=some c):=by
 obtain⟨H,R,rfl,⟨cs,⟨h0,h1⟩,hb,h2⟩,h3⟩:=hL
 have:R=[]:=h3
 subst this
 refine⟨cs,h2,hb,?_⟩
 rcases h1 with⟨rfl,h4,rfl⟩ | ⟨b,c,cap,rfl,rfl,h5,h6,h7⟩
 ·grind
 ·refine .inr ⟨b,cap,rfl,fun j u hu=>hS.own_cell (k:=0) (b:=b) (c:=c) (T:=e) (fz:=(0,0)) rfl rfl rfl ?_⟩
  grind
theorem aGo {T es len j:Nat} {w:World} {b cap:Nat} {kd:IntKind} (hT:kI P T es) (hlt:j<len):
 (Instr.indexAt T (.slice (some ⟨b,0,none⟩) len cap) (.int kd (j:Int))).run P w= .ok (.pointer (some ⟨b,j*es,none⟩)) w:=by
 unfold kI qD at hT
 cases hu:P.underlying T with
 | none=>rw [hu]at hT;cases hT
 | some d=>
  rw [hu]at hT;cases d <;> try (simp at hT;done)
  rename_i e;simp only [a1v]at hT;obtain⟨inf,hinf,rfl⟩:=hT;have h1:(0:Int)<=(j:Int)/\(j:Int)<(len:Int):=by omega
  simp [Instr.indexAt,asIntOf,a1B,run_underlying hu,Sem.run,pure,h1,run_sizeOf hinf,uS,hlt]
theorem rX {α:Type} {t:Ty α} {T e:TypeId} {x ix:Operand} {v:Value} {xs:List α} {kd:IntKind} {i:Int} {y:α} (ho:o.op= .indexAddr T x ix) (hx:Has Γ x (fEq v)) (hi:Has Γ ix (aT kd i)) (hT:kI P T t.sz) (hy:idx xs i=some y):
 OpT P Γ [aB v e t xs] o (pL v t.sz i.toNat 0):=
 ⟨by rw [ho];rfl,fun β m L a w hev hS hL=>by
  have h1:a.eval x=v:=hev.get hx (by rw [ho];simp [Op.operands])
  have h2:a.eval ix=_:=hev.get hi (by rw [ho];simp [Op.operands])
  obtain⟨j,rfl,hj,hlt⟩:=aAm hy;obtain⟨cs,_,_,h3⟩:=zZ hL hS;rcases h3 with⟨_,rfl⟩ | ⟨b,cap,rfl,_⟩
  ·simp at hlt
  ·exact⟨.pointer (some ⟨b,j*t.sz,none⟩),by simp [execOp,ho,h1,h2,aGo hT hlt,a1B,Sem.run,pure],b,_,cap,rfl,by simp⟩⟩
theorem aHl {α:Type} {t:Ty α} {m:Mem} {xs:List α} {cs:List Value} (h:aU (xs.flatMap t.AY) m cs) {i k:Nat} {x:α} {φ:AF} (hx:xs[i]? =some x) (hk:(t.AY x)[k]? =some φ):∃ c,cs[i*t.sz+k]? =some c/\φ.p m c:=by
 have h1:=qU h hx
 obtain⟨c,h2,h3⟩:=h1.get hk
 grind
theorem kC {α:Type} {t:Ty α} {T e:TypeId} {x:Operand} {v:Value} {xs:List α} {es i k:Nat} {y:α} {φ:AF} (ho:o.op= .load T x) (hes:es=t.sz) (hx:Has Γ x (pL v es i k)) (hT:iX P T) (hy:xs[i]? =some y) (hk:(t.AY y)[k]? =some φ):
 OpT P Γ [aB v e t xs] o φ:=
 ⟨by rw [ho];rfl,fun β m L a w hev hS hL=>by
  subst hes;obtain⟨b,len,cap,rfl,h1⟩:=hev.get hx (by rw [ho];simp [Op.operands])
  obtain⟨cs,h2,_,h3⟩:=zZ hL hS;obtain⟨c,h4,h5⟩:=aHl h2 hy hk;rcases h3 with⟨h,_⟩ | ⟨b',cap',h6,h7⟩
  ·cases h
  ·cases h6;exact⟨c,by simp [execOp,ho,h1,a1B,Sem.run,pure,aCa hT (h7 _ c h4)],h5⟩⟩
theorem o_loadRS {α:Type} {t:Ty α} {T e:TypeId} {x:Operand} {v:Value} {xs:List α} {es i:Nat} {y:α} (ho:o.op= .load T x) (hes:es=t.sz) (hx:Has Γ x (pL v es i 0)) (hT:jA P T t.sz) (hy:xs[i]? =some y):
 OpT P Γ [aB v e t xs] o (fSt t y):=
 ⟨by rw [ho];rfl,fun β m L a w hev hS hL=>by
  subst hes;obtain⟨b,len,cap,rfl,h1⟩:=hev.get hx (by rw [ho];simp [Op.operands])
  obtain⟨cs,h2,_,h3⟩:=zZ hL hS;have h4:=qU h2 hy;have h5:=h4.length;rw [t.len]at h5;rcases h3 with⟨h,_⟩ | ⟨b',cap',h6,h7⟩
  ·cases h
  ·cases h6;rw [Nat.add_zero]at h1;have:=aCl (P:=P) (w:=w) (p:=⟨b,i*t.sz,none⟩) _ (T:=T) (by rw [h5];exact hT) (fun j v hj=>by
    grind [uS])
   exact⟨_,by simp_all [execOp],_,rfl,h4⟩⟩
theorem aD4 {x:Operand} {φ:AF} (ho:o.op= .nilCheck x) (hx:Has Γ x φ) (hp:∀ m v,φ.p m v->∃ p,v= .pointer (some p)):OpT P Γ [] o φ:=
 dL (by rw [ho];rfl) fun β m a w he _=>by
  have h1:=he.get hx (by rw [ho];simp [Op.operands])
  obtain⟨p,h2⟩:=hp m _ h1
  simp_all [execOp]
theorem aCo {S f k:Nat} {x:Operand} {p:Addr} {w:World} (hf:qG P S f k) (ho:o.op= .fieldAddr S x f) {a:Act} (hx:a.eval x= .pointer (some p)):(execOp a.eval o).run P w= .ok (.value (.pointer (some (p.add k)))) w:=by
 unfold qG aAw at hf
 cases hu:P.underlying S with
 | none=>rw [hu]at hf;cases hf
 | some d=>
  rw [hu]at hf;cases d <;> try (simp at hf;done)
  rename_i fs;simp only at hf
  cases hg:fs[f]? with
  | none=>rw [hg]at hf;cases hf
  | some fd=>
   rw [hg]at hf;simp only at hf
   cases hi:P.info? fd.type with
   | none=>rw [hi]at hf;cases hf
   | some i=>
    rw [hi]at hf;simp only at hf
    by_cases hz:i.size=0
    ·simp [hz]at hf
    ·simp only [hz,if_false,a1z]at hf;subst hf;simp [execOp,ho,hx,Instr.fieldAt,Instr.sureAddr,fieldPlace,a1B,run_underlying hu,hg,run_sizeOf hi,hz,Sem.run,pure]
theorem aBi (p:Addr) (i j:Nat):(p.add i).add j=p.add (i+j):=by
 grind [Addr.add]
theorem yF {α γ:Type} {t:Ty α} {t':Ty γ} {y:α} {z:γ} {S f k:Nat} {x:Operand} (ho:o.op= .fieldAddr S x f) (hx:Has Γ x (bV t y)) (hf:qG P S f k) (hs:((t.AY y).drop k).take t'.sz=t'.AY z):OpT P Γ [] o (bV t' z):=
 dL (by rw [ho];rfl) fun β m a w he _=>by
  obtain⟨p,h1,cs,h2,h3⟩:=he.get hx (by rw [ho];simp [Op.operands])
  have h4:=(h2.drop k).take t'.sz;rw [hs]at h4;refine⟨_,aCo hf ho h1,_,rfl,_,h4,fun j c hc=>?_⟩
  grind [aBi]
theorem o_fieldB {b j S f k:Nat} {x:Operand} (i:Nat) (ho:o.op= .fieldAddr S x f) (hx:Has Γ x (fEq (.pointer (some ⟨b,j,none⟩)))) (hf:qG P S f k) (hi:j+k=i):OpT P Γ [] o (fEq (.pointer (some ⟨b,i,none⟩))):=
 dL (by rw [ho];rfl) fun β m a w he _=>by
  have h1:a.eval x=_:=he.get hx (by rw [ho];simp [Op.operands])
  exact⟨_,aCo hf ho h1,by rw [uS,hi];rfl⟩
theorem aAy {v:Value} {es j n S f k:Nat} {x:Operand} (i:Nat) (ho:o.op= .fieldAddr S x f) (hx:Has Γ x (pL v es n j)) (hf:qG P S f k) (hi:j+k=i):OpT P Γ [] o (pL v es n i):=
 dL (by rw [ho];rfl) fun β m a w he _=>by
  obtain⟨b,len,cap,rfl,h1⟩:=he.get hx (by rw [ho];simp [Op.operands])
  exact⟨_,aCo hf ho h1,b,len,cap,rfl,by grind [Addr.add]⟩
theorem eF {α:Type} {t:Ty α} {T:TypeId} {x ix:Operand} {xs:List α} {kd:IntKind} {i:Int} {y:α} (ho:o.op= .indexAddr T x ix) (hx:Has Γ x (fSl t xs)) (hi:Has Γ ix (aT kd i)) (hT:kI P T t.sz) (hy:idx xs i=some y):OpT P Γ [] o (bV t y):=
 dL (by rw [ho];rfl) fun β m a w he _=>by
  obtain⟨q,⟨b,cap,h1,_,hq⟩,_,h3⟩:=he.get hx (by rw [ho];simp [Op.operands])
  have h2:a.eval ix=_:=he.get hi (by rw [ho];simp [Op.operands])
  obtain⟨j,rfl,hj,hlt⟩:=aAm hy;obtain⟨p,rfl,hp⟩:=hq j hlt;refine⟨.pointer (some (q j)),?_,q j,rfl,h3 j y hj⟩;unfold kI qD at hT;cases hu:P.underlying T with
  | none=>rw [hu]at hT;cases hT
  | some d=>
   rw [hu]at hT;cases d <;> try (simp at hT;done)
   rename_i e;simp only [a1v]at hT;obtain⟨inf,hinf,he⟩:=hT;have h5:(0:Int)<=(j:Int)/\(j:Int)<(xs.length:Int):=by omega
   rw [<- hp,<- he];simp [execOp,ho,h1,h2,Instr.indexAt,asIntOf,a1B,run_underlying hu,Sem.run,pure,h5,run_sizeOf hinf,hlt]
theorem o_len {α:Type} {t:Ty α} {T e:TypeId} {x:Operand} {xs:List α} (ho:o.op= .call { callee:= .builtin .len,args:=#[x],argTypes:=#[T] }) (hx:Has Γ x (fSl t xs)) (hT:pU P T (.slice e)):OpT P Γ [] o (aT .i64 xs.length):=
 dL (by rw [ho];rfl) fun β m a w he _=>by
  obtain⟨q,⟨b,cap,h1,_,hq⟩,_,h3⟩:=he.get hx (by rw [ho];simp [Op.operands,Call.operands])
  exact⟨_,by simp [execOp,ho,resolve,invoke,builtin,Builtin.len_,h1,a1B,run_underlying hT,Sem.run,pure,goInt],rfl⟩
theorem o_lenR {α:Type} {t:Ty α} {T e e':TypeId} {x:Operand} {v:Value} {xs:List α} (ho:o.op= .call { callee:= .builtin .len,args:=#[x],argTypes:=#[T] }) (hx:Has Γ x (fEq v)) (hT:pU P T (.slice e)):OpT P Γ [aB v e' t xs] o (aT .i64 xs.length):=
 ⟨by rw [ho];rfl,fun β m L a w hev hS hL=>by
  have h1:a.eval x=v:=hev.get hx (by rw [ho];simp [Op.operands,Call.operands])
  obtain⟨cs,_,_,h3⟩:=zZ hL hS;rcases h3 with⟨rfl,rfl⟩ | ⟨b,cap,rfl,_⟩
  ·exact⟨_,by simp [execOp,ho,resolve,invoke,builtin,Builtin.len_,h1,a1B,run_underlying hT,Sem.run,pure,goInt],rfl⟩
  ·exact⟨_,by simp [execOp,ho,resolve,invoke,builtin,Builtin.len_,h1,a1B,run_underlying hT,Sem.run,pure,goInt],rfl⟩⟩
theorem gR {op:BinOp} {T U:TypeId} {x y:Operand} {u v z:Value} (ho:o.op= .binOp op T x y U) (hx:Has Γ x (fEq u)) (hy:Has Γ y (fEq v)) (hg:∀ w,(eqGuard op T x y u v).run P w= .ok () w)
 (h:∀ w,(binOp op T u v).run P w= .ok z w):OpT P Γ [] o (fEq z):=
 dL (by rw [ho];rfl) fun β m a w he _=>by
  have h1:a.eval x=u:=he.get hx (by rw [ho];simp [Op.operands])
  have h2:a.eval y=v:=he.get hy (by rw [ho];simp [Op.operands])
  refine⟨z,?_,rfl⟩
  simp_all [execOp]
theorem gY {op:BinOp} {T:TypeId} {x y:Operand} {k:IntKind} {i j:Int} (w:World):(eqGuard op T x y (.int k i) (.int k j)).run P w= .ok () w:=by simp_all [eqGuard]
theorem mE {T U:TypeId} {x y:Operand} {i j z:Int} (ho:o.op= .binOp .add T x y U) (hx:Has Γ x (aT .i64 i)) (hy:Has Γ y (aT .i64 j)) (h:chk (i+j)=some z):OpT P Γ [] o (aT .i64 z):=by
 obtain⟨rfl,hz⟩:=aAT h
 exact gR ho hx hy gY fun w=>by simp [binOp,Op.intArith,Sem.run,pure,hz]
theorem xJ {T U:TypeId} {x y:Operand} {i j z:Int} (ho:o.op= .binOp .sub T x y U) (hx:Has Γ x (aT .i64 i)) (hy:Has Γ y (aT .i64 j)) (h:chk (i - j)=some z):OpT P Γ [] o (aT .i64 z):=by
 obtain⟨rfl,hz⟩:=aAT h
 exact gR ho hx hy gY fun w=>by simp [binOp,Op.intArith,Sem.run,pure,hz]
theorem o_mul {T U:TypeId} {x y:Operand} {i j z:Int} (ho:o.op= .binOp .mul T x y U) (hx:Has Γ x (aT .i64 i)) (hy:Has Γ y (aT .i64 j)) (h:chk (i*j)=some z):OpT P Γ [] o (aT .i64 z):=by
 obtain⟨rfl,hz⟩:=aAT h
 exact gR ho hx hy gY fun w=>by simp [binOp,Op.intArith,Sem.run,pure,hz]
theorem o_lss {T U:TypeId} {x y:Operand} {k:IntKind} {i j:Int} (ho:o.op= .binOp .lss T x y U) (hx:Has Γ x (aT k i)) (hy:Has Γ y (aT k j)):OpT P Γ [] o (aL (decide (i<j))):=
 gR ho hx hy gY fun w=>by simp [binOp,Op.intCmp,Sem.run,pure]
theorem o_leq {T U:TypeId} {x y:Operand} {k:IntKind} {i j:Int} (ho:o.op= .binOp .leq T x y U) (hx:Has Γ x (aT k i)) (hy:Has Γ y (aT k j)):OpT P Γ [] o (aL (decide (i<=j))):=
 gR ho hx hy gY fun w=>by simp [binOp,Op.intCmp,Sem.run,pure]
theorem o_gtr {T U:TypeId} {x y:Operand} {k:IntKind} {i j:Int} (ho:o.op= .binOp .gtr T x y U) (hx:Has Γ x (aT k i)) (hy:Has Γ y (aT k j)):OpT P Γ [] o (aL (decide (j<i))):=
 gR ho hx hy gY fun w=>by simp [binOp,Op.intCmp,Sem.run,pure]
theorem o_geq {T U:TypeId} {x y:Operand} {k:IntKind} {i j:Int} (ho:o.op= .binOp .geq T x y U) (hx:Has Γ x (aT k i)) (hy:Has Γ y (aT k j)):OpT P Γ [] o (aL (decide (j<=i))):=
 gR ho hx hy gY fun w=>by simp [binOp,Op.intCmp,Sem.run,pure]
theorem o_eql {T U:TypeId} {x y:Operand} {k:IntKind} {i j:Int} (ho:o.op= .binOp .eql T x y U) (hx:Has Γ x (aT k i)) (hy:Has Γ y (aT k j)):OpT P Γ [] o (aL (decide (i=j))):=
 gR ho hx hy gY fun w=>by
  have:(i==j)=decide (i=j):=by grind
  simp [binOp,Op.intCmp,Sem.run,pure,this]
theorem o_neq {T U:TypeId} {x y:Operand} {k:IntKind} {i j:Int} (ho:o.op= .binOp .neq T x y U) (hx:Has Γ x (aT k i)) (hy:Has Γ y (aT k j)):OpT P Γ [] o (aL (decide (i≠j))):=
 gR ho hx hy gY fun w=>by
  have:(i != j)=decide (i≠j):=by grind
  simp [binOp,Op.intCmp,Sem.run,pure,this]
theorem o_not {T:TypeId} {x:Operand} {b:Bool} (ho:o.op= .unOp .not T x) (hx:Has Γ x (aL b)):OpT P Γ [] o (aL (!b)):=
 dL (by rw [ho];rfl) fun β m a w he _=>by
  have h1:a.eval x=_:=he.get hx (by rw [ho];simp [Op.operands])
  exact⟨_,by simp [execOp,ho,h1,Op.unary,a1B,Sem.run,pure],rfl⟩
theorem o_min {ts:Array TypeId} {x y:Operand} {k:IntKind} {i j:Int} (ho:o.op= .call { callee:= .builtin .min,args:=#[x,y],argTypes:=ts }) (hx:Has Γ x (aT k i)) (hy:Has Γ y (aT k j)):OpT P Γ [] o (aT k (min i j)):=
 dL (by rw [ho];rfl) fun β m a w he _=>by
  have h1:a.eval x=_:=he.get hx (by rw [ho];simp [Op.operands,Call.operands])
  have h2:a.eval y=_:=he.get hy (by rw [ho];simp [Op.operands,Call.operands])
  have:(if j<i then j else i)=min i j:=by omega
  exact⟨.int k (min i j),by simp [execOp,ho,resolve,invoke,builtin,Builtin.min_,Builtin.min2,h1,h2,a1B,Sem.run,pure,this],rfl⟩
def kR (Γ:Ctx):List Operand->List Value->Prop
 | [],vs=>vs=[]
 | x :: xs,vs=>∃ v r,vs=v :: r/\Has Γ x (fEq v)/\kR Γ xs r
theorem kR.nil {Γ:Ctx}:kR Γ [] []:=by simp [kR]
theorem kR.cons {Γ:Ctx} {x:Operand} {v:Value} {xs:List Operand} {vs:List Value} (h:Has Γ x (fEq v)) (k:kR Γ xs vs):kR Γ (x :: xs) (v :: vs):=⟨v,vs,by simp,h,k⟩
theorem kR.eval {m:Mem} {a:Act} (he:Evs Γ m a o):∀ {xs:List Operand} {vs:List Value},kR Γ xs vs->(∀ x∈xs,x∈o.op.operands)->xs.map a.eval=vs
 | [],_,h,_=>by rw [h];rfl
 | x :: xs,_,⟨v,r,e,h1,h2⟩,hm=>by
  rw [e,a0O,kR.eval he h2 fun y hy=>hm y (.tail _ hy)];have:a.eval x=v:=he.get h1 (hm x (.head _));rw [this]
theorem aGA {x:Operand} {φs:List AF} {i:Nat} {φ:AF} (ho:o.op= .extract x i) (hx:Has Γ x (dI φs)) (hi:φs[i]? =some φ):OpT P Γ [] o φ:=
 dL (by rw [ho];rfl) fun β m a w he _=>by
  obtain⟨cs,h1,h2⟩:=he.get hx (by rw [ho];simp [Op.operands])
  obtain⟨c,h3,h4⟩:=h2.get hi;exact⟨c,by simp [execOp,ho,h1,Instr.extract,h3,a1B,Sem.run,pure],h4⟩
def yA (pl:List (Nat × Nat)):List AF->List (Nat × List AF)->Option (List AF)
 | φs,[]=>some φs
 | φs,(i,ψs) :: r=>match pl[i]? with
  | none=>none
  | some (off,size)=>if ψs.length=size/\off+size<=φs.length then yA pl (φs.take off++ψs++φs.drop (off+size)) r else none
def pK (φ:AF) (ψs:List AF):Prop:=∀ m v,φ.p m v->aU ψs m v.cells.toList
theorem bO {φ:AF} (h:eU φ):pK φ [φ]:=fun m v hv=>by rw [(h m v hv).cells];exact⟨v,[],rfl,hv,rfl⟩
theorem bW {φs:List AF}:pK (dW φs) φs:=fun m v ⟨cs,h1,h2⟩=>by grind [Value.cells]
def bE (Γ:Ctx):List (Nat × Operand)->List (Nat × List AF)->Prop
 | [],ps=>ps=[]
 | (i,x) :: xs,ps=>∃ φ ψs r,ps=(i,ψs) :: r/\Has Γ x φ/\pK φ ψs/\bE Γ xs r
theorem bE.nil {Γ:Ctx}:bE Γ [] []:=by simp [bE]
theorem bE.cons {Γ:Ctx} {i:Nat} {x:Operand} {φ:AF} {ψs:List AF} {xs:List (Nat × Operand)} {ps:List (Nat × List AF)} (h:Has Γ x φ) (hp:pK φ ψs) (k:bE Γ xs ps):bE Γ ((i,x) :: xs) ((i,ψs) :: ps):=⟨φ,ψs,ps,by simp,h,hp,k⟩
theorem rI {m:Mem} {a:Act} {pl:List (Nat × Nat)}:∀ {xs:List (Nat × Operand)} {ps:List (Nat × List AF)} {φs ψs:List AF} {c:Array Value},bE Γ xs ps->(∀ p∈xs,∀ φ,Has Γ p.2 φ->φ.p m (a.eval p.2))->aU φs m c.toList->yA pl φs ps=some ψs ->
 ∃ c',Instr.fill (pl.toArray[·]?) c (xs.map fun y=>(y.1,a.eval y.2))=some c'/\aU ψs m c'.toList
 | [],ps,φs,ψs,c,hp,_,hc,hf=>by
  have:ps=[]:=hp
  grind [yA,Instr.fill]
 | (i,x) :: xs,ps,φs,ψs,c,⟨φ,χs,r,e,h1,h2,h3⟩,he,hc,hf=>by
  subst e;simp only [yA]at hf;cases hpl:pl[i]? with
  | none=>rw [hpl]at hf;cases hf
  | some os=>
   obtain⟨off,size⟩:=os;rw [hpl]at hf;simp only at hf
   split at hf
   ·rename_i hsz;have h4:=h2 m _ (he (i,x) (.head _) φ h1);have hl4:=h4.length;have hlc:=hc.length;simp only [a0e]at hl4 hlc;have hc':aU (φs.take off++χs++φs.drop (off+size)) m (c.toList.take off++(a.eval x).cells.toList++c.toList.drop (off+size)):=((hc.take off).append h4).append (hc.drop (off+size));obtain⟨c',h5,h6⟩:=rI (c:=(c.toList.take off++(a.eval x).cells.toList++c.toList.drop (off+size)).toArray) h3 (fun p hp=>he p (.tail _ hp)) (by simpa using hc') hf
    refine⟨c',?_,h6⟩;simp only [a0O,Instr.fill];rw [show(pl.toArray)[i]? =some (off,size)from by simpa using hpl];simp only
    have hA:(a.eval x).cells.size=size:=by omega
    rw [a1G (by rw [hA];simp;omega)];rw [<- Array.foldl_toList,Array.toList_zipIdx];have hgo:∀ (l:List Value) (k:Nat) (c:Array Value),off+k+l.length<=c.size->(l.zipIdx k).foldl (fun cs (x:Value × Nat)=>cs.setIfInBounds (off+x.2) x.1) c=(c.toList.take (off+k)++l++c.toList.drop (off+k+l.length)).toArray:=by
     intro l;induction l with
     | nil=>intro k c _;simp
     | cons v l ih=>
      intro k c hk;have hk':off+k<c.size:=by simp at hk;omega
      rw [List.zipIdx_cons,List.foldl_cons,ih (k+1) _ (by simp at hk ⊢;omega)]
      grind [aBQ]
    grind
   ·cases hf
theorem dJ {T:TypeId} {parts:List (Nat × Operand)} {pl:List (Nat × Nat)} {z:Value} {ps:List (Nat × List AF)} {φs ψs:List AF} (ho:o.op= .build T parts.toArray) (hT:jI P T pl z) (hz:z.cells.toList.map fEq=φs) (hp:bE Γ parts ps) (hf:yA pl φs ps=some ψs):OpT P Γ [] o (dW ψs):=
 dL (by rw [ho];rfl) fun β m a w he _=>by
  have hz0:∀ (l:List Value),aU (l.map fEq) m l:=fun l=>by
   induction l with
   | nil=>rfl
   | cons v l ih=>exact⟨v,l,rfl,rfl,ih⟩
  obtain⟨c',h5,h6⟩:=rI (c:=z.cells) hp (fun p hp φ hφ=>he.get hφ (by grind [Op.operands])) (hz ▸ hz0 _) hf
  refine⟨.agg c',?_,c'.toList,by simp,h6⟩
  obtain⟨h1,h2⟩:=hT;have hz:=lA (P:=P) h2 w;unfold iT at h1;cases hu:P.underlying T with
  | none=>rw [hu]at h1;cases h1
  | some d=>
   rw [hu]at h1;cases d <;> try (simp at h1;done)
   rename_i fs;simp only at h1
   have h3:(fs.mapM fun f=>do pure (f.offset,<- sizeOf f.type):Sem (Array (Nat × Nat))).run P w= .ok pl.toArray w:=by
    have:=aDp (P:=P) w fs.toList pl h1;rw [Array.mapM_eq_mapM_toList]
    simp_all
   have h4:parts.toArray.map (fun (i,x)=>(i,a.eval x))=(parts.map fun y=>(y.1,a.eval y.2)).toArray:=by simp
   simp only [execOp,ho,Instr.build,a1B,hz,a1A,run_underlying hu,h3,h4,h5];rfl
end
open Go.SX
section
variable {P:Program} {β:bA} {n:Nat} {ds:List Deferred} {Γ:Ctx} {Δ:List Tk} {r:Option Nat} {Q Q':Exit->Act->World->Prop} {F:Act->World->Prop} {ops:Array Oper} {o:Oper} {rest:List Oper}
structure OpN (P:Program) (Γ:Ctx) (o:Oper) (f:Nat->Value) (τ:Nat->Tk):Prop where
 nd:iH o.op=false
 run:∀ β m a w,Evs Γ m a o->St β m [] w->∃ x,(execOp a.eval o).run P w= .ok (.value (f w.heap.size)) (w.alloc x)/\(τ w.heap.size).p m [(w.heap.size,x)]
theorem T_new {d:Nat} {f:Nat->Value} {τ:Nat->Tk} (hw:bX ops Γ o) (hd:o.dst=some d) (hn:Nat.ble (d+1) n=true) (h:OpN P Γ o f τ)
 (k:∀ b,T β n ds ((d,fEq (f b)) :: Γ) (τ b :: Δ) (wpListIn (fw r) 0 P ops Q rest)):T β n ds Γ Δ (wpListIn (fw r) 0 P ops Q (o :: rest)):=fun m L a w x y z=>by
 obtain⟨ob,h2,h3⟩:=h.run β m a w (x.evs o) (z.drop (List.nil_sublist _))
 have h1:o.semAt (fw r).round a.eval=execOp a.eval o:=Oper.semAt_eq _ _ _ fun c hc=>by have:=h.nd;rw [hc]at this;cases this
 simp only [wpListIn,hw.wanted x,if_true]
 refine⟨fun _ _=>a1I,?_⟩
 rw [h1,h2,Oper.uponIn_value,hd]
 exact k w.heap.size m ((w.heap.size,ob) :: L) _ _ (x.put (a1k hn) rfl) ⟨_,_,rfl,h3,y⟩ (z.alloc ob)
theorem cG {T:TypeId} {x:Operand} {φ:AF} {φs:List AF} (ho:o.op= .box T x) (hx:Has Γ x φ) (hp:pK φ φs):OpN P Γ o ptr (fun b=>aA b T φs):=
 ⟨by rw [ho];rfl,fun β m a w he _=>by
  have h1:=hp m _ (he.get hx (by rw [ho];simp [Op.operands]))
  exact⟨.cells (a.eval x).cells T,by simp [execOp,ho,Instr.box,a1B,newVar,newRow,newObj,Sem.run,pure,ptr],_,h1,by simp⟩⟩
theorem iW {m:Mem}:∀ l:List Value,aU (l.map fEq) m l
 | []=>rfl
 | v :: l=>⟨v,l,rfl,rfl,iW l⟩
theorem bU {T:TypeId} {z:Value} {φs:List AF} (ho:o.op= .alloc T) (hz:SX.Zero P T z) (hp:z.cells.toList.map fEq=φs):OpN P Γ o ptr (fun b=>aA b T φs):=
 ⟨by rw [ho];rfl,fun β m a w he _=>⟨.cells z.cells T,by simp [execOp,ho,Instr.alloc,a1B,lA hz,newVar,newRow,newObj,Sem.run,pure,ptr],z.cells.toList,hp ▸ iW _,by simp⟩⟩
def jK:AF:=⟨fun _ _=>True,fun _ h=>h⟩
def nV (es:Nat):List AF->List (Nat × List AF)->Option (List AF)
 | φs,[]=>some φs
 | φs,(i,ψs) :: r=>if ψs.length=es/\i*es+es<=φs.length then nV es (φs.take (i*es)++ψs++φs.drop (i*es+es)) r else none
theorem aB2 {m:Mem} {a:Act} {es:Nat}:∀ {xs:List (Nat × Operand)} {ps:List (Nat × List AF)} {φs ψs:List AF} {c:Array Value},bE Γ xs ps->(∀ p∈xs,∀ φ,Has Γ p.2 φ->φ.p m (a.eval p.2))->aU φs m c.toList->nV es φs ps=some ψs ->
 ∃ c',Instr.fill (fun i=>some (i*es,es)) c (xs.map fun y=>(y.1,a.eval y.2))=some c'/\aU ψs m c'.toList
 | [],ps,φs,ψs,c,hp,_,hc,hf=>by
  have:ps=[]:=hp
  grind [nV,Instr.fill]
 | (i,x) :: xs,ps,φs,ψs,c,⟨φ,χs,r,e,h1,h2,h3⟩,he,hc,hf=>by
  subst e;simp only [nV]at hf;split at hf
  ·rename_i hsz;have h4:=h2 m _ (he (i,x) (.head _) φ h1);have hl4:=h4.length;have hlc:=hc.length;simp only [a0e]at hl4 hlc;have hA:(a.eval x).cells.size=es:=by omega
   have hc':aU (φs.take (i*es)++χs++φs.drop (i*es+es)) m (c.toList.take (i*es)++(a.eval x).cells.toList++c.toList.drop (i*es+es)):=((hc.take _).append h4).append (hc.drop _);obtain⟨c',h5,h6⟩:=aB2 (es:=es) (c:=(c.toList.take (i*es)++(a.eval x).cells.toList++c.toList.drop (i*es+es)).toArray) h3 (fun p hp=>he p (.tail _ hp)) (by simpa using hc') hf
   refine⟨c',?_,h6⟩;simp only [a0O,Instr.fill];rw [a1G (by rw [hA];simp;omega)];rw [<- Array.foldl_toList,Array.toList_zipIdx];have hgo:∀ (l:List Value) (k:Nat) (c:Array Value),i*es+k+l.length<=c.size->(l.zipIdx k).foldl (fun cs (x:Value × Nat)=>cs.setIfInBounds (i*es+x.2) x.1) c=(c.toList.take (i*es+k)++l++c.toList.drop (i*es+k+l.length)).toArray:=by
    intro l;induction l with
    | nil=>intro k c _;simp
    | cons v l ih=>
     intro k c hk;have hk':i*es+k<c.size:=by simp at hk;omega
     rw [List.zipIdx_cons,List.foldl_cons,ih (k+1) _ (by simp at hk ⊢;omega)]
     grind [aBQ]
   grind
  ·cases hf
theorem aFH {m:Mem}:∀ l:List Value,aU (List.replicate l.length jK) m l
 | []=>rfl
 | v :: l=>⟨v,l,rfl,trivial,aFH l⟩
theorem aF4 {α:Type} {t:Ty α} {xs:List α} {T e by' len:Nat} {parts:List (Nat × Operand)} {ps:List (Nat × List AF)} (ho:o.op= .buildSlice T len parts.toArray) (hT:ElT P T e t.sz by') (hp:bE Γ parts ps)
 (hf:nV t.sz (List.replicate (len*t.sz) jK) ps=some (xs.flatMap t.AY)) (hn:xs.length=len) (hs:Nat.ble (len*t.sz) 16777216=true) (hB:Nat.ble len 1000000000=true):
 OpN P Γ o (fun b=> .slice (some ⟨b,0,none⟩) len len) (fun b=>aB (.slice (some ⟨b,0,none⟩) len len) e t xs):=
 ⟨by rw [ho];rfl,fun β m a w he _=>by
  obtain⟨ht,i,z,hi,h1,h2,hz,hzs⟩:=hT.spell;have hs:=a1k hs;have hB:=a1k hB;have hmap:(parts.toArray.map fun (i,y)=>(i,a.eval y))=(parts.map fun y=>(y.1,a.eval y.2)).toArray:=by simp
  have hfin:∀ c:Array Value,aU (xs.flatMap t.AY) m c.toList->(aB (.slice (some ⟨w.heap.size,0,none⟩) len len) e t xs).p m [(w.heap.size, .cells c e)]:=fun c h6=>by
   have hl:=h6.length;rw [oY,hn]at hl;refine⟨c.toList,(by grind [fL]),by omega,h6⟩
  by_cases h0:len*t.sz=0
  ·obtain⟨c',h5,h6⟩:=aB2 (es:=t.sz) (m:=m) (a:=a) (c:=#[]) hp (fun p hp φ hφ=>he.get hφ (by grind [Op.operands])) (by rfl) (h0 ▸ hf)
   refine⟨.cells c' e,?_,hfin c' h6⟩;rw [<- h1]at h0 h5;have h7:¬ len*i.size > 2 ^ 24:=by omega
   have hr:(Instr.buildSlice T len (parts.map fun y=>(y.1,a.eval y.2)).toArray).run P w= .ok (.slice (some ⟨w.heap.size,0,none⟩) len len) (w.alloc (.cells c' e)):=by
    simp only [Instr.buildSlice,a1B,run_underlying ht,run_sizeOf hi,a1A,a1G h7,h0,if_true];have h8:Array.range 0=#[]:=rfl;simp [a1B,Sem.run,pure,h5,newRow,newObj,h8]
   simp_all [execOp]
  ·obtain⟨c',h5,h6⟩:=aB2 (es:=t.sz) (m:=m) (a:=a) (c:=(Array.range (len*t.sz)).map (z.cells[· % z.cells.size]!)) hp (fun p hp φ hφ=>he.get hφ (by grind [Op.operands]))
    (by have:=aFH (m:=m) ((Array.range (len*t.sz)).map (z.cells[· % z.cells.size]!)).toList;simpa using this) hf
   refine⟨.cells c' e,?_,hfin c' h6⟩;have hr:=run_buildSlice (P:=P) w T e len (parts.map fun y=>(y.1,a.eval y.2)).toArray c' i z ht hi hz (by rw [h1];omega) (by rw [h1];exact h0) (by rw [h1];exact h5)
   simp_all [execOp]⟩
def mk {α:Type} (z:α) (k:Int):Option (List α):=if 0<=k/\k<=1000000000 then some (List.replicate k.toNat z) else none
theorem aFK {m:Mem} {zs:List Value} {φs:List AF} (h:aU φs m zs):∀ k:Nat,aU (List.replicate k φs).flatten m (madeCells zs.toArray (k*zs.length)).toList
 | 0=>by simp [madeCells];rfl
 | k+1=>by
  have e:(madeCells zs.toArray ((k+1)*zs.length)).toList=(madeCells zs.toArray (k*zs.length)).toList++zs:=by
   apply List.ext_getElem
   ·simp [madeCells,a1h]
   ·intro i h1 h2;by_cases hi:i<k*zs.length
    ·grind [madeCells]
    ·have hlt:i<(k+1)*zs.length:=by simpa [madeCells] using h1
     rw [a1h,Nat.one_mul]at hlt;rw [List.getElem_append_right (by simp [madeCells];omega)];have hmod:i % zs.length=i - k*zs.length:=by
      have h3:i=(i - k*zs.length)+zs.length*k:=by grind
      conv=>lhs;rw [h3]
      rw [Nat.add_mul_mod_self_left,Nat.mod_eq_of_lt (by omega)]
     grind [madeCells]
  rw [e,List.replicate_succ',List.flatten_concat];exact(aFK h k).append h
theorem aD7 {α:Type} {t:Ty α} {z:α}:∀ k:Nat,(List.replicate k z).flatMap t.AY=(List.replicate k (t.AY z)).flatten
 | 0=>rfl
 | k+1=>by rw [List.replicate_succ,a0w,aD7 k,List.replicate_succ,List.flatten_cons]
theorem aAb {α:Type} {t:Ty α} {z:α} {zs:List α} {T e by':Nat} {x:Operand} {kd:IntKind} {k:Int} {zv:Value} (ho:o.op= .makeSlice T x x) (hx:Has Γ x (aT kd k)) (hT:ElT P T e t.sz by') (hb:Nat.ble by' 1000=true) (hz:SX.Zero P e zv) (hzz:zv.cells.toList.map fEq=t.AY z) (h:mk z k=some zs):
 OpN P Γ o (fun b=> .slice (some ⟨b,0,none⟩) zs.length zs.length) (fun b=>aB (.slice (some ⟨b,0,none⟩) zs.length zs.length) e t zs):=
 ⟨by rw [ho];rfl,fun β m a w he _=>by
  obtain⟨ht,i,z',hi,h1,h2,hz',hzs⟩:=hT.spell;have hb:=a1k hb;have:z'=zv:=by
   unfold SX.Zero cT at hz
   grind
  subst this;unfold mk at h;split at h
  ·rename_i hk;cases h;obtain⟨j,rfl⟩:∃ j:Nat,k=(j:Int):=⟨k.toNat,by omega⟩
   have hj:j<=1000000000:=by omega
   have hx:a.eval x=_:=he.get hx (by rw [ho];simp [Op.operands])
   have hr:=run_make (P:=P) w T e i z' ht hi hz' kd kd j j (by omega) (by omega) (by
    rw [h2];have:by'*j<=1000*1000000000:=Nat.mul_le_mul hb hj
    omega) (by omega)
   simp only [a0n]at hr ⊢;rw [h1]at hr;refine⟨.cells (madeCells z'.cells (j*t.sz)) e,?_,?_⟩
   ·simp_all [execOp]
   ·have hmade:=aFK (m:=m) (iW z'.cells.toList) j;rw [hzz,<- aD7]at hmade;have hzl:z'.cells.toList.length=t.sz:=by simpa using hzs
    rw [hzl]at hmade;simp only [Array.toArray_toList]at hmade;have hl:=hmade.length;rw [oY]at hl;refine⟨_,(by grind [fL]),by simpa using hj,hmade⟩
  ·cases h⟩
theorem tA {m:Mem} {b:Nat} {T:TypeId} {φs:List AF} {Δ:List Tk} {L:AW} (h:bB (aA b T φs :: Δ) m L):∃ cs R,L=(b, .cells cs.toArray T (0,0)) :: R/\aU φs m cs/\bB Δ m R:=by
 obtain⟨H,R,rfl,⟨cs,h1,rfl⟩,h2⟩:=h
 grind
theorem bJ {ty ty':TypeId} {x y:Operand} {b k:Nat} {φs φs':List AF} {φ:AF} (hw:bX ops Γ o) (ho:o.op= .store ty x y) (hd:o.dst=none) (hx:Has Γ x (fEq (.pointer (some ⟨b,k,none⟩)))) (hy:Has Γ y φ) (hl:eU φ)
 (hT:jJ P ty 1) (hk:Nat.ble (k+1) φs.length=true) (hs:φs.set k φ=φs') (kk:T β n ds Γ (aA b ty' φs' :: Δ) (wpListIn (fw r) 0 P ops Q rest)):T β n ds Γ (aA b ty' φs :: Δ) (wpListIn (fw r) 0 P ops Q (o :: rest)):=fun m L a w hF hL hS=>by
 obtain⟨cs,R,rfl,h1,h2⟩:=tA hL
 have hlt:k<cs.length:=by rw [h1.length];exact a1k hk
 have hv:=hF.has hy
 have hxe:a.eval x=_:=hF.has hx
 have hnd:iH o.op=false:=by rw [ho];rfl
 have h3:o.semAt (fw r).round a.eval=execOp a.eval o:=Oper.semAt_eq _ _ _ fun c hc=>by rw [hc]at hnd;cases hnd
 simp only [wpListIn,hw.wanted hF,if_true]
 refine⟨fun _ _=>a1I,?_⟩
 unfold jJ oI at hT
 simp only [a1v]at hT
 obtain⟨i,hi,h4⟩:=hT
 have hk0:((b,Obj.cells cs.toArray ty' (0,0)) :: R)[0]? =some (b, .cells cs.toArray ty' (0,0)):=rfl
 have hrun:=aGz (P:=P) (T:=ty) (p:=⟨b,k,none⟩) (v:=a.eval y) hi h4 (hl m _ hv) (hS.own_cell hk0 rfl rfl (v:=cs[k]) (by simp [hlt])) (hS.unfrozen (p:=⟨b,k,none⟩) hk0)
 have e:(execOp a.eval o).run P w= .ok .skip (w.setCell ⟨b,k,none⟩ (a.eval y)):=by
  simp [execOp,ho,hxe,Instr.storeAt,Instr.sureAddr,a1B,hrun,Sem.run,pure]
 rw [h3,e,Oper.uponIn_skip,hd]
 have hS':=hS.setCell (p:=⟨b,k,none⟩) hk0 rfl (a.eval y)
 refine kk m ((b, .cells (cs.set k (a.eval y)).toArray ty' (0,0)) :: R) _ _ hF ⟨[_],R,rfl,⟨_,hs ▸ h1.set hv,rfl⟩,h2⟩ (by simpa using hS')
theorem bT {ty ty':TypeId} {x y:Operand} {b k sz:Nat} {φs φs' ψs:List AF} (hw:bX ops Γ o) (ho:o.op= .store ty x y) (hd:o.dst=none) (hx:Has Γ x (fEq (.pointer (some ⟨b,k,none⟩)))) (hy:Has Γ y (dW ψs)) (hl:∀ φ∈ψs,eU φ)
 (hT:jJ P ty sz) (hz:ψs.length=sz) (hk:Nat.ble (k+sz) φs.length=true) (hs:φs.take k++ψs++φs.drop (k+sz)=φs') (kk:T β n ds Γ (aA b ty' φs' :: Δ) (wpListIn (fw r) 0 P ops Q rest)):T β n ds Γ (aA b ty' φs :: Δ) (wpListIn (fw r) 0 P ops Q (o :: rest)):=fun m L a w hF hL hS=>by
 obtain⟨cs,R,rfl,h1,h2⟩:=tA hL
 have hle:k+sz<=cs.length:=by rw [h1.length];exact a1k hk
 obtain⟨vs,hv,hvs⟩:=hF.has hy
 have hxe:a.eval x=_:=hF.has hx
 have hnd:iH o.op=false:=by rw [ho];rfl
 have h3:o.semAt (fw r).round a.eval=execOp a.eval o:=Oper.semAt_eq _ _ _ fun c hc=>by rw [hc]at hnd;cases hnd
 simp only [wpListIn,hw.wanted hF,if_true]
 refine⟨fun _ _=>a1I,?_⟩
 unfold jJ oI at hT
 simp only [a1v]at hT
 obtain⟨i,hi,h4⟩:=hT
 have hk0:((b,Obj.cells cs.toArray ty' (0,0)) :: R)[0]? =some (b, .cells cs.toArray ty' (0,0)):=rfl
 have hlen:vs.length=sz:=by rw [hvs.length,hz]
 obtain⟨w',hr,hSt⟩:=zJ (P:=P) (T:=ty') vs k cs.toArray _ w hS hk0 (hvs.cells hl) (by simp;omega)
 have hr':(storeCells ⟨b,k,none⟩ vs).run P w= .ok () w':=by
  rw [<- hr];exact congrArg (fun s:Sem Unit=>s.run P w) (shift vs 0 k)
 have e:(execOp a.eval o).run P w= .ok .skip w':=by
  simp [execOp,ho,hxe,hv,Instr.storeAt,Instr.sureAddr,storeVar,run_sizeOf hi,h4,Value.cells,hlen,hr',a1B,Sem.run,pure]
 rw [h3,e,Oper.uponIn_skip,hd]
 refine kk m ((b, .cells (cs.take k++vs++cs.drop (k+sz)).toArray ty' (0,0)) :: R) _ _ hF ⟨[_],R,rfl,⟨_,hs ▸ ((h1.take k).append hvs).append (h1.drop (k+sz)),rfl⟩,h2⟩ (by simpa [hlen] using hSt)
where
 shift {b:Nat}:∀ (vs:List Value) (i k:Nat),storeCells ⟨b,k,none⟩ vs i=storeCells ⟨b,0,none⟩ vs (k+i)
  | [],_,_=>rfl
  | v :: vs,i,k=>by simp only [storeCells,uS,a1q,shift vs (i+1) k,Nat.add_assoc]
theorem xC {α:Type} {t:Ty α} {m:Mem} {v:Value} {e:TypeId} {xs:List α} {Δ:List Tk} {L:AW} (h:bB (aB v e t xs :: Δ) m L):∃ cs H R,L=H++R/\fL v t.sz e xs.length cs H/\xs.length<=1000000000/\aU (xs.flatMap t.AY) m cs/\bB Δ m R:=by
 obtain⟨H,R,rfl,⟨cs,h1,h2,h3⟩,h4⟩:=h
 grind
theorem aDS {γ:Type} {A B:List γ} {s k:Nat} (h:A.length=s):(A++B).take (s+k)=A++B.take k:=by
 grind
theorem aFR {γ:Type} {A B:List γ} {s k:Nat} (h:A.length=s):(A++B).drop (s+k)=B.drop k:=by
 simp_all [List.drop_append]
theorem aA4 {α:Type} {t:Ty α} {y:α}:∀ {xs:List α} {i:Nat},i<xs.length->(xs.set i y).flatMap t.AY=(xs.flatMap t.AY).take (i*t.sz)++t.AY y++(xs.flatMap t.AY).drop (i*t.sz+t.sz)
 | x :: xs,0,_=>by
  simp only [List.set_cons_zero,a0w,Nat.zero_mul,a1q,List.take_zero,a0Z]
  grind [Ty.len]
 | x :: xs,i+1,h=>by
  simp only [List.set_cons_succ,a0w];rw [aA4 (xs:=xs) (by simpa using h)];have e1:(i+1)*t.sz=t.sz+i*t.sz:=by rw [a1h];omega
  rw [e1,aDS (t.len x),Nat.add_assoc,aFR (t.len x)];simp
theorem uW {α:Type} {t:Ty α} {m:Mem} {R:AW} {w:World} {v:Value} {e:TypeId} {xs:List α} {cs vs:List Value} {H:AW} {b len cap off:Nat} (hS:St β m (H++R) w) (hR:fL v t.sz e xs.length cs H) (hv:v= .slice (some ⟨b,0,none⟩) len cap)
 (hoff:off+vs.length<=cs.length) (hc:∀ u∈vs,cO u):
 ∃ w' H',(storeCells ⟨b,off,none⟩ vs 0).run P w= .ok () w'/\St β m (H'++R) w'/\fL v t.sz e xs.length (cs.take off++vs++cs.drop (off+vs.length)) H':=by
 obtain⟨h0,h1⟩:=hR
 rcases h1 with⟨rfl,_,_⟩ | ⟨b',c,cap',rfl,rfl,h5,h6,h7⟩
 ·cases hv
 ·cases hv;have hk0:([(b,Obj.cells c e (0,0))]++R)[0]? =some (b, .cells c e (0,0)):=rfl;have hcs:cs.length<=c.size:=by grind
  obtain⟨w',hr,hSt⟩:=zJ (P:=P) (T:=e) vs off c _ w hS hk0 hc (by omega)
  refine⟨w',[(b, .cells (c.toList.take off++vs++c.toList.drop (off+vs.length)).toArray e (0,0))],?_,by simpa using hSt,?_⟩
  ·rw [<- hr];exact congrArg (fun s:Sem Unit=>s.run P w) (bT.shift vs 0 off)
  ·have hl:(cs.take off++vs++cs.drop (off+vs.length)).length=cs.length:=by simp;omega
   refine⟨by rw [hl,h0], .inr ⟨b,_,cap,rfl,rfl,by simp;omega,h6,?_⟩⟩
   rw [hl];simp only [List.toList_toArray];rw [List.take_append,List.take_of_length_le (l:=c.toList.take off++vs) (by simp;omega)];have e1:c.toList.take off=cs.take off:=by grind
   rw [e1];congr 1
   have e2:(cs.take off++vs).length=off+vs.length:=by simp;omega
   grind [List.drop_take]
theorem row_set {α:Type} {t:Ty α} {m:Mem} {xs:List α} {cs:List Value} {i k:Nat} {z z':α} {φ:AF} {v:Value} (h2:aU (xs.flatMap t.AY) m cs) (hz:xs[i]? =some z) (hlt:i<xs.length) (hmul:i*t.sz+t.sz<=xs.length*t.sz) (hcl:cs.length=xs.length*t.sz) (hk:k+1<=t.sz) (hye:φ.p m v)
 (hs:(t.AY z).set k φ=t.AY z'):aU ((xs.set i z').flatMap t.AY) m (cs.take (i*t.sz+k)++[v]++cs.drop (i*t.sz+k+[v].length)):=by
 rw [aA4 hlt,<- hs]
 have hz2:=qU h2 hz
 have h7:=((h2.take (i*t.sz)).append (hz2.set (k:=k) hye)).append (h2.drop (i*t.sz+t.sz))
 have e3:cs.take (i*t.sz)++((cs.drop (i*t.sz)).take t.sz).set k (v)++cs.drop (i*t.sz+t.sz)=cs.take (i*t.sz+k)++[v]++cs.drop (i*t.sz+k+[v].length):=by
  apply a0v
  intro j;simp only [List.getElem?_append,a0I,a0M,List.length_set,List.length_drop,a0F,List.getElem?_drop,a0E,a0J,a0L,List.getElem?_cons,List.getElem?_nil]
  grind
 rw [<- e3];exact h7
theorem aAJ {α:Type} {t:Ty α} {ty e:TypeId} {x y:Operand} {v:Value} {xs:List α} {es i k:Nat} {z z':α} {φ:AF} (hw:bX ops Γ o) (ho:o.op= .store ty x y) (hd:o.dst=none) (hes:es=t.sz) (hx:Has Γ x (pL v es i k)) (hy:Has Γ y φ) (hl:eU φ)
 (hT:jJ P ty 1) (hz:xs[i]? =some z) (hk:Nat.ble (k+1) t.sz=true) (hs:(t.AY z).set k φ=t.AY z') (kk:T β n ds Γ (aB v e t (xs.set i z') :: Δ) (wpListIn (fw r) 0 P ops Q rest)):T β n ds Γ (aB v e t xs :: Δ) (wpListIn (fw r) 0 P ops Q (o :: rest)):=fun m L a w hF hL hS=>by
 subst hes
 obtain⟨cs,H,R,rfl,h1,hB,h2,h4⟩:=xC hL
 obtain⟨b,len,cap,hv,hxe⟩:=hF.has hx
 have hye:=hF.has hy
 have hk:=a1k hk
 have hlt:=(a0C.1 hz).1
 have hcl:cs.length=xs.length*t.sz:=by rw [h2.length,oY]
 have hmul:(i+1)*t.sz<=xs.length*t.sz:=a1p _ hlt
 rw [a1h,Nat.one_mul]at hmul
 obtain⟨w',H',hr,hS',hR'⟩:=uW (P:=P) (vs:=[a.eval y]) (off:=i*t.sz+k) hS h1 hv (by simp;omega) (fun u hu=>by simp at hu;subst hu;exact hl m _ hye)
 have hnd:iH o.op=false:=by rw [ho];rfl
 have h3:o.semAt (fw r).round a.eval=execOp a.eval o:=by grind [Oper.semAt_eq]
 simp only [wpListIn,hw.wanted hF,if_true]
 refine⟨fun _ _=>a1I,?_⟩
 unfold jJ oI at hT
 simp only [a1v]at hT
 obtain⟨inf,hi,h6⟩:=hT
 have e:(execOp a.eval o).run P w= .ok .skip w':=by
  simp [execOp,ho,hxe,Instr.storeAt,Instr.sureAddr,storeVar,run_sizeOf hi,h6,(hl m _ hye).cells,hr,a1B,Sem.run,pure]
 rw [h3,e,Oper.uponIn_skip,hd]
 refine kk m _ _ _ hF ⟨H',R,rfl,⟨_,by rw [List.length_set];exact hR',by grind,?_⟩,h4⟩ hS'
 grind [row_set]
theorem aHT {α:Type} {t:Ty α} {ty e:TypeId} {x y:Operand} {v:Value} {xs:List α} {es i:Nat} {z:α} (hw:bX ops Γ o) (ho:o.op= .store ty x y) (hd:o.dst=none) (hes:es=t.sz) (hx:Has Γ x (pL v es i 0)) (hy:Has Γ y (fSt t z))
 (hT:jJ P ty t.sz) (hlt:i<xs.length) (kk:T β n ds Γ (aB v e t (xs.set i z) :: Δ) (wpListIn (fw r) 0 P ops Q rest)):T β n ds Γ (aB v e t xs :: Δ) (wpListIn (fw r) 0 P ops Q (o :: rest)):=fun m L a w hF hL hS=>by
 subst hes
 obtain⟨cs,H,R,rfl,h1,hB,h2,h4⟩:=xC hL
 obtain⟨b,len,cap,hv,hxe⟩:=hF.has hx
 obtain⟨vs,hye,hvs⟩:=hF.has hy
 have hvl:vs.length=t.sz:=by rw [hvs.length,t.len]
 have hcl:cs.length=xs.length*t.sz:=by rw [h2.length,oY]
 have hmul:(i+1)*t.sz<=xs.length*t.sz:=a1p _ hlt
 rw [a1h,Nat.one_mul]at hmul
 obtain⟨w',H',hr,hS',hR'⟩:=uW (P:=P) (vs:=vs) (off:=i*t.sz+0) hS h1 hv (by omega) (hvs.cells (t.cell z))
 have hnd:iH o.op=false:=by rw [ho];rfl
 have h3:o.semAt (fw r).round a.eval=execOp a.eval o:=by grind [Oper.semAt_eq]
 simp only [wpListIn,hw.wanted hF,if_true]
 refine⟨fun _ _=>a1I,?_⟩
 unfold jJ oI at hT
 simp only [a1v]at hT
 obtain⟨inf,hi,h6⟩:=hT
 rw [Nat.add_zero]at hxe hr hR'
 have e:(execOp a.eval o).run P w= .ok .skip w':=by
  simp [execOp,ho,hxe,hye,Instr.storeAt,Instr.sureAddr,storeVar,run_sizeOf hi,h6,Value.cells,hvl,hr,a1B,Sem.run,pure]
 rw [h3,e,Oper.uponIn_skip,hd]
 refine kk m _ _ _ hF ⟨H',R,rfl,⟨_,by rw [List.length_set];exact hR',by grind,?_⟩,h4⟩ hS'
 rw [aA4 hlt,hvl]
 exact((h2.take _).append hvs).append (h2.drop _)
end
open Go.SX
section
variable {P:Program} {β:bA} {n:Nat} {ds:List Deferred} {Γ:Ctx} {Δ:List Tk} {r:Option Nat} {Q Q':Exit->Act->World->Prop} {F:Act->World->Prop} {ops:Array Oper} {o:Oper} {rest:List Oper}
theorem aGn {w:World} {t t' ty e:TypeId} {i:TypeInfo} (ht:P.underlying t=some (.slice e)) (ht':P.underlying t'=some (.slice e)) (hi:P.info? e=some i) {base a:Option Addr} {len cap cap':Nat} (hc:len<=cap) (hb:base=none->len=0):
 (Builtin.append_ #[t,t'] ty #[.slice base len cap, .slice a 0 cap']).run P w= .ok (.slice base len cap) w:=by
 have h1:len+0<=cap:=by omega
 have h0:(Builtin.firstCells i.size 0 (.slice a 0 cap')).run P w= .ok #[] w:=by
  cases a with
  | none=>simp [Builtin.firstCells,Sem.run,pure]
  | some a=>
   have:=SX.run_loadCellsFrom (P:=P) (w:=w) (p:=a) [] 0 #[] (fun j v h=>by simp at h)
   simpa [Builtin.firstCells,loadCells] using this
 cases base <;> simp [Builtin.append_,a1B,run_underlying ht,run_underlying ht',run_sizeOf hi,Builtin.lenOf,Sem.run,pure,hc,h0,storeCells]
theorem aHV {m:Mem} {A R B:AW} {w:World} {t ty e es by' len k capx:Nat} {v:Value} {cs xs:List Value} {src:Option Addr} (hS:St β m (A++(R++B)) w) (hR:fL v es e len cs R) (hT:ElT P t e es by') (hxs:xs.length=k*es) (hcell:∀ x∈xs,cO x)
 (hsrc:0<k->∃ a,src=some a/\∀ (j:Nat) u,xs[j]? =some u->w.cell? (a.add j)=some u) (hlen:(len+k)*by'<=140737488355328) (h63:len+k<=9223372036854775807):
 ∃ v' R' w',(Builtin.append_ #[t,t] ty #[v, .slice src k capx]).run P w= .ok v' w'/\fL v' es e (len+k) (cs++xs) R'/\St β m (A++(R'++B)) w':=by
 obtain⟨ht,i,z,hi,h1,h2,hz,hzs⟩:=hT.spell
 by_cases h0:k=0
 ·subst h0;have hx0:xs=[]:=by grind
  subst hx0;rw [a0q];refine⟨v,R,w,?_,hR,hS⟩;obtain⟨hcs,hR⟩:=hR
  grind [aGn]
 ·obtain⟨a,rfl,hnews⟩:=hsrc (by omega)
  have hl1:xs.length=k*i.size:=by rw [h1];exact hxs
  obtain⟨hcs,hR⟩:=hR;have hfin:∀ (cap':Nat) (olds:List Value) (b':Nat),olds=cs->len+k<=cap'->fL (.slice (some ⟨b',0,none⟩) (len+k) cap') es e (len+k) (cs++xs)
   [(b', .cells (olds.toArray++xs.toArray++Builtin.zeroCells z.cells (cap' - (len+k))) e (0,0))]:=fun cap' olds b' ho hcap=>by
   subst ho;refine⟨by grind, .inr ⟨_,_,_,rfl,rfl,?_,hcap,?_⟩⟩
   ·simp [Builtin.zeroCells,hcs,hxs,hzs];have:cap'=(len+k)+(cap' - (len+k)):=by omega
    grind
   grind
  have hcapge:∀ s:Nat,len+k<=grownCap w (len+k) s e:=by grind [grownCap,Question.cut]
  rcases hR with⟨rfl,rfl,rfl⟩ | ⟨b,c,cap,rfl,rfl,hc,hcap,htk⟩
  ·have hcs0:cs=[]:=by grind
   subst hcs0;have hrun:=run_append_nil (P:=P) w t ty e i z ht hi hz a k capx xs hl1 hnews (by omega) (by omega) (by rw [h2];rw [a1q]at hlen;omega)
   rw [a1q]at hfin hcapge;have hfit:=hfin (grownCap w k 0 e) [] w.drew.heap.size rfl (hcapge 0);rw [show([]:List Value).toArray++xs.toArray=xs.toArray from by simp]at hfit
   refine⟨_,[(w.drew.heap.size, .cells (xs.toArray++Builtin.zeroCells z.cells (grownCap w k 0 e - k)) e (0,0))],_,hrun,by simp_all,?_⟩
   have h:=(hS.drawn.alloc (.cells (xs.toArray++Builtin.zeroCells z.cells (grownCap w k 0 e - k)) e));exact grown' h
  ·have hb:(b,Obj.cells c e (0,0))∈(A++([(b,Obj.cells c e (0,0))]++B)):=by simp
   by_cases hroom:len+k<=cap
   ·have hsz:len*es+xs.length<=c.size:=by
     rw [hc,hxs];have:(len+k)*es<=cap*es:=a1p _ hroom
     grind
    obtain⟨k0,hk0⟩:=a0U.1 hb;have hrun:=run_append_room_cells (P:=P) w t ty e i ht hi b 0 len cap a k capx xs hl1 hnews (fun u hu=>(hcell u hu).one) hroom (by grind [aBS]) (fun j hj=>hS.unfrozen hk0)
    have hSt:=St.setCells xs (0+len*i.size) c _ _ hS hk0 (by rw [h1];omega)
    have hk1:k0=A.length:=by
     have hnd:=hS.nodup;have hmid:((A++([(b,Obj.cells c e (0,0))]++B)))[A.length]? =some (b, .cells c e (0,0)):=by simp
     have e1:(((A++([(b,Obj.cells c e (0,0))]++B))).map Prod.fst)[k0]? =some b:=by grind
     have e2:(((A++([(b,Obj.cells c e (0,0))]++B))).map Prod.fst)[A.length]? =some b:=by grind
     grind [List.getElem?_inj]
    subst hk1;refine⟨_,[(b, .cells (c.toList.take (0+len*i.size)++xs++c.toList.drop (0+len*i.size+xs.length)).toArray e (0,0))],_,hrun,⟨by grind, .inr ⟨b,_,cap,rfl,rfl,?_,hroom,?_⟩⟩,?_⟩
    ·grind
    ·grind
    ·simpa using hSt
   ·have hrun:=run_append_grow (P:=P) w t ty e i z ht hi hz ⟨b,0,none⟩ len cap cs (by rw [hcs,h1]) (fun j u hu=>by rw [tG];exact aBS hS hb (aEf htk hu)) a k capx xs hl1 hnews (by omega) (by omega)
     (by simp_all [growslice_fits])
    refine⟨_,[(w.drew.heap.size, .cells (cs.toArray++xs.toArray++Builtin.zeroCells z.cells (grownCap w (len+k) cap e - (len+k))) e (0,0))],_,hrun,(by simp_all),?_⟩
    have h:=(hS.drawn.alloc (.cells (cs.toArray++xs.toArray++Builtin.zeroCells z.cells (grownCap w (len+k) cap e - (len+k))) e));exact grown' h
where
 grown' {m:Mem} {y:Nat × Obj} {A M B:AW} {w:World} (h:St β m (y :: (A++(M++B))) w):St β m (A++([y]++B)) w:=by
  refine(h.drop (L':=y :: (A++B)) (by grind)).perm ?_
  grind [List.Perm.symm,_root_.List.perm_middle]
def cY {α:Type} (xs:List α):Option (List α):=if xs.length<=1000000000 then some xs else none
theorem wR {α:Type} {xs zs:List α} (h:cY xs=some zs):zs=xs/\xs.length<=1000000000:=by
 unfold cY at h
 grind
theorem aFa {α:Type} {t:Ty α} {ty e by' d:Nat} {s x:Operand} {v u:Value} {xs ys zs:List α} {m:Mem} {L A R B:AW} {cs ns:List Value} {a:Act} {w:World} {K:Act->World->Prop}
 (ho:o.op= .call { callee:= .builtin .append,args:=#[s,x],argTypes:=#[ty,ty] }) (hd:o.dst=some d) (hT:ElT P ty e t.sz by') (hby:Nat.ble by' 1000=true) (hz:cY (xs++ys)=some zs) (hs:a.eval s=v) (hx:a.eval x=u) (hS:St β m L w) (hL:L=A++(R++B))
 (hR:fL v t.sz e xs.length cs R) (hcs:aU (xs.flatMap t.AY) m cs) (hns:aU (ys.flatMap t.AY) m ns) (hu:∃ src cap,u= .slice src ys.length cap/\(0<ys.length->∃ a,src=some a/\∀ (j:Nat) c,ns[j]? =some c->w.cell? (a.add j)=some c))
 (k:∀ v' R' cs' w',fL v' t.sz e zs.length cs' R'->aU (zs.flatMap t.AY) m cs'->St β m (A++(R'++B)) w'->K (a.put (some d) v') w'):o.wpIn (fw r) 0 P a w K Q:=by
 subst hL
 obtain⟨rfl,hB⟩:=wR hz
 obtain⟨src,cap,rfl,hsrc⟩:=hu
 have hnd:iH o.op=false:=by rw [ho];rfl
 have h3:o.semAt (fw r).round a.eval=execOp a.eval o:=by grind [Oper.semAt_eq]
 rw [a0I]at hB
 have hmul:(xs.length+ys.length)*by'<=1000000000*1000:=Nat.mul_le_mul hB (a1k hby)
 obtain⟨v',R',w',h4,h5,h6⟩:=aHV (P:=P) (ty:=o.type) (capx:=cap) (xs:=ns) hS hR hT (by rw [hns.length,oY]) (hns.cells aGW) hsrc (by omega) (by omega)
 refine⟨fun _ _=>a1I,?_⟩
 have e:(execOp a.eval o).run P w= .ok (.value v') w':=by
  simp [execOp,ho,resolve,invoke,builtin,hs,hx,a1B,h4,Sem.run,pure]
 grind [Oper.uponIn_value,aU.append]
theorem lI {α:Type} {t:Ty α} {ty e by' d:Nat} {s x:Operand} {v:Value} {xs ys zs:List α} (hw:bX ops Γ o) (ho:o.op= .call { callee:= .builtin .append,args:=#[s,x],argTypes:=#[ty,ty] }) (hd:o.dst=some d) (hn:Nat.ble (d+1) n=true)
 (hs:Has Γ s (fEq v)) (hx:Has Γ x (fSl t ys)) (hT:ElT P ty e t.sz by') (hby:Nat.ble by' 1000=true) (hz:cY (xs++ys)=some zs) (k:∀ v',T β n ds ((d,fEq v') :: Γ) (aB v' e t zs :: Δ) (wpListIn (fw r) 0 P ops Q rest)):
 T β n ds Γ (aB v e t xs :: Δ) (wpListIn (fw r) 0 P ops Q (o :: rest)):=fun m L a w hF hL hS=>by
 obtain⟨cs,H,R,rfl,h1,hB,h2,h4⟩:=xC hL
 obtain⟨q,⟨src,cap,hue,_,hq⟩,hyB,hel⟩:=hF.has hx
 simp only [wpListIn,hw.wanted hF,if_true]
 have hcells:∀ (l:List α) (f:Nat->Addr),(∀ (i:Nat) y,l[i]? =some y->t.at m (f i) y)->∃ ns,aU (l.flatMap t.AY) m ns/\∀ (i j:Nat) c,i<l.length->j<t.sz->ns[i*t.sz+j]? =some c->w.cell? ((f i).add j)=some c:=by
  intro l;induction l with
  | nil=>intro f _;exact⟨[],rfl,fun i j c h=>by simp at h⟩
  | cons y l ih=>
   intro f hf;obtain⟨ns,h5,h6⟩:=ih (fun i=>f (i+1)) (by grind)
   obtain⟨cy,h7,h8⟩:=hf 0 y rfl;have hcy:cy.length=t.sz:=by rw [h7.length,t.len]
   refine⟨cy++ns,by grind [aU.append],fun i j c hi hj hc=>?_⟩
   cases i with
   | zero=>
    grind [St.cell]
   | succ i=>
    grind
 obtain⟨ns,hns,hnc⟩:=hcells ys q hel
 refine aFa (A:=[]) (R:=H) (B:=R) ho hd hT hby hz (hF.has hs) hue hS rfl h1 h2 hns ⟨src,cap,rfl,fun hpos=>?_⟩ fun v' R' cs' w' h5 h6 h7=>?_
 ·obtain⟨p,rfl,hp⟩:=hq 0 hpos;refine⟨p,rfl,fun j c hc=>?_⟩
  have hlt:=(a0C.1 hc).1;rw [hns.length,oY]at hlt;have hsz:0<t.sz:=by
   grind
  have hi:j / t.sz<ys.length:=(Nat.div_lt_iff_lt_mul hsz).2 hlt;have hdm:j / t.sz*t.sz+j % t.sz=j:=by grind [Nat.div_add_mod]
  have h9:=hnc (j / t.sz) (j % t.sz) c hi (Nat.mod_lt _ hsz) (by rw [hdm];exact hc)
  grind [aBi]
 ·exact k v' m _ _ _ (hF.put (a1k hn) rfl) ⟨R',R,rfl,⟨cs',h5,(wR hz).1 ▸ (wR hz).2,h6⟩,h4⟩ h7
theorem gJ {α:Type} {t:Ty α} {ty e e' by' d:Nat} {s x:Operand} {v u:Value} {xs ys zs:List α} (hw:bX ops Γ o) (ho:o.op= .call { callee:= .builtin .append,args:=#[s,x],argTypes:=#[ty,ty] }) (hd:o.dst=some d) (hn:Nat.ble (d+1) n=true)
 (hs:Has Γ s (fEq v)) (hx:Has Γ x (fEq u)) (hT:ElT P ty e t.sz by') (hby:Nat.ble by' 1000=true) (hz:cY (xs++ys)=some zs) (k:∀ v',T β n ds ((d,fEq v') :: Γ) (aB v' e t zs :: Δ) (wpListIn (fw r) 0 P ops Q rest)):
 T β n ds Γ (aB u e' t ys :: aB v e t xs :: Δ) (wpListIn (fw r) 0 P ops Q (o :: rest)):=fun m L a w hF hL hS=>by
 obtain⟨ns,Hu,R0,rfl,g1,gB,g2,hL⟩:=xC hL
 obtain⟨cs,H,R,rfl,h1,hB,h2,h4⟩:=xC hL
 simp only [wpListIn,hw.wanted hF,if_true]
 refine aFa (A:=Hu) (R:=H) (B:=R) ho hd hT hby hz (hF.has hs) (hF.has hx) hS rfl h1 h2 g2 ?_ fun v' R' cs' w' h5 h6 h7=>?_
 ·rcases g1.2 with⟨rfl,g3,_⟩ | ⟨b,c,cap,rfl,rfl,g3,g4,g5⟩
  ·grind
  ·exact⟨_,cap,rfl,fun _=>⟨_,rfl,(by grind [tG,aBS])⟩⟩
 ·exact k v' m _ _ _ (hF.put (a1k hn) rfl) ⟨R',R,rfl,⟨cs',h5,(wR hz).1 ▸ (wR hz).2,h6⟩,h4⟩ (by grind [St.drop])
theorem dQ {α:Type} (t:Ty α) (e:TypeId) (h:T β n ds Γ (aB (.slice none 0 0) e t [] :: Δ) F):T β n ds Γ Δ F:=fun m L a w hF hL hS=>
 h m L a w hF ⟨[],L,rfl,⟨[],by grind [fL],by simp,rfl⟩,hL⟩ hS
def vB (φ:AF) (v:Value):Tk:=⟨fun m H=>H=[]/\φ.p m v,(by grind [AF.mono])⟩
def Frz (τ:Tk) (φ:AF) (v:Value):Prop:=∀ m H,τ.p m H->∀ m',Mem.le m m'->(∀ x∈H,m' x.1=some x.2)->φ.p m' v
def frozen (v:Value) (φ:AF):List Nat->Ctx->Ctx
 | [],Γ=>Γ
 | s :: ss,Γ=>(s,φ) :: frozen v φ ss Γ
theorem zC:∀ {H R:AW} {m:Mem} {w:World},St β m (H++R) w->∃ m',Mem.le m m'/\St β m' R w/\∀ x∈H,m' x.1=some x.2
 | [],R,m,w,h=>by grind [Mem.le]
 | (b,o) :: H,R,m,w,h=>by
  obtain⟨h1,h2⟩:=St.persist h;obtain⟨m',h3,h4,h5⟩:=zC h1;exact⟨m',Mem.le_trans h2 h3,h4,fun x hx=>by
   cases hx with
   | head=>exact h3 _ _ Mem.ins_self
   | tail _ hx=>exact h5 x hx⟩
theorem aFV {v:Value} {φ:AF} {t:Nat} {ψ:AF}:∀ {ss:List Nat} {Γ:Ctx},lk (frozen v φ ss Γ) t=some ψ->(t∈ss/\ψ=φ)\/lk Γ t=some ψ
 | [],_,h=> .inr h
 | s :: ss,Γ,h=>by
  rcases pY h with⟨rfl,rfl⟩ | ⟨_,h⟩
  ·grind
  ·rcases aFV h with⟨h1,h2⟩ | h
   ·grind
   ·exact .inr h
theorem cP {τ:Tk} {φ:AF} {v:Value} (ss:List Nat) (hf:Frz τ φ v) (hs:∀ s∈ss,lk Γ s=some (fEq v)) (k:T β n ds (frozen v φ ss Γ) (vB φ v :: Δ) F):T β n ds Γ (τ :: Δ) F:=fun m L a w x y z=>by
 obtain⟨H,R,rfl,h1,h2⟩:=y
 obtain⟨m',h3,h4,h5⟩:=zC z
 have h6:=hf m H h1 m' h3 h5
 have x':=x.mono h3
 refine k m' R a w ⟨x.size,x.Aa,fun t ψ ht=>?_⟩ ⟨[],R,rfl,⟨rfl,h6⟩,h2.mono h3⟩ h4
 rcases aFV ht with⟨h7,rfl⟩ | ht
 ·obtain⟨u,h8,h9⟩:=x'.get t _ (hs t h7);cases h9;exact⟨v,h8,h6⟩
 ·exact x'.get t ψ ht
theorem cL {τ:Tk} (k:T β n ds Γ Δ F):T β n ds Γ (τ :: Δ) F:=fun m L a w x ⟨H,R,e,_,h2⟩ z=>k m R a w x h2 (by grind [St.drop])
theorem eX {φ:AF} {v:Value} {b:Nat} {ty:TypeId} {φs φs':List AF} {i:Nat} (hi:φs[i]? =some (fEq v)) (hs:φs.set i φ=φs') (k:T β n ds Γ (vB φ v :: aA b ty φs' :: Δ) F):T β n ds Γ (vB φ v :: aA b ty φs :: Δ) F:=fun m L a w x y z=>by
 obtain⟨H,R,rfl,⟨rfl,h1⟩,H2,R2,rfl,⟨cs,h3,rfl⟩,h4⟩:=y
 refine k m _ a w x ⟨[],_,rfl,⟨rfl,h1⟩,[_],R2,rfl,⟨cs,?_,rfl⟩,h4⟩ z
 obtain⟨c,h5,h6⟩:=h3.get hi
 cases h6
 have:=h3.set (k:=i) h1
 rw [hs]at this
 have e:cs.set i v=cs:=by
  apply a0v;intro j;rw [a0E]
  split
  ·subst_vars;split
   ·exact h5.symm
   ·have:=(a0C.1 h5).1;omega
  ·rfl
 rwa [e]at this
theorem cD {α:Type} {t:Ty α} {v:Value} {e:TypeId} {xs:List α}:Frz (aB v e t xs) (fSl t xs) v:=fun m H ⟨cs,⟨h0,h1⟩,hB,h2⟩ m' hle hm=>by
 rcases h1 with⟨rfl,h3,rfl⟩ | ⟨b,c,cap,rfl,rfl,h5,h6,h7⟩
 ·exact⟨fun _=>default,(by grind [Sl]),hB,fun i x hx=>by grind⟩
 ·refine⟨fun i=>⟨b,i*t.sz,none⟩,⟨_,cap,rfl,h6,(by grind [Addr.add])⟩,hB,fun i x hx=>⟨_,(qU h2 hx).mono hle,fun j u hu=>?_⟩⟩
  rw [a0F]at hu;split at hu
  ·rw [List.getElem?_drop]at hu;have h8:=hm _ (.head _);simp only at h8
   have h9:=aEf h7 hu;unfold Mem.cell sD
   grind [Addr.add]
  ·cases hu
theorem yO {α:Type} {t:Ty α} {b:Nat} {ty:TypeId} {x:α} {φs:List AF} (h:aG φs (t.AY x)):Frz (aA b ty φs) (bV t x) (ptr b):=fun m H ⟨cs,h1,h2⟩ m' hle hm=>by
 subst h2
 refine⟨_,rfl,cs,(h.all h1).mono hle,fun j c hc=>?_⟩
 have h8:=hm _ (.head _)
 simp only at h8
 unfold Mem.cell sD
 grind [Addr.add]
def FnX (P:Program) (f:FuncId) (args:List Value) (m:Mem) (L:AW) (post:Mem->AW->Ending->Prop):Prop:=
 ∀ w,St ⟨w,m,L.map Prod.fst⟩ m L w->Calls P f args.toArray w fun e w'=>∃ m' L',St ⟨w,m,L.map Prod.fst⟩ m' L' w'/\post m' L' e
theorem back {m m':Mem} {L₀ L₁ R:AW} {w w':World} (h:St β m (L₀++R) w) (h':St ⟨w,m,L₀.map Prod.fst⟩ m' L₁ w'):St β m' (L₁++R) w':=by
 have hnd:=h.nodup
 rw [a0N]at hnd
 have hsz:=h'.size
 simp only at hsz
 have hR:∀ x∈R,x.1<w.heap.size:=fun x hx=>h.lt_own (a0R _ hx)
 have hR0:∀ x∈R,x.1 ∉ L₀.map Prod.fst:=fun x hx hin=>(a1a.1 hnd).2.2 _ hin _ (a0W hx) rfl
 refine⟨h'.mem,fun x hx=>?_,fun x hx=>?_,?_,Mem.le_trans h.mle h'.mle,fun b hb=>?_,fun x hx hlt=>?_,a1m h.size hsz,fun b hb hf=>?_,
  h'.os.trans h.os,h'.output.trans h.output,h'.tape.trans h.tape⟩
 ·rcases a0P.1 hx with hx | hx
  ·exact h'.own x hx
  ·rw [h'.frame x.1 (hR x hx) (hR0 x hx)];exact h.own x (a0R _ hx)
 ·rcases a0P.1 hx with hx | hx
  ·exact h'.apart x hx
  ·have h0:=h.apart x (a0R _ hx);cases hm:m' x.1 with
   | none=>rfl
   | some y=>
    have h1:=h'.Ag x.1 (by simp only [h0,hm];simp)
    have h2:=hR x hx;rcases h1 with h1 | h1
    ·simp only at *;omega
    ·exact absurd h1 (hR0 x hx)
 ·rw [a0N];refine a1a.2 ⟨h'.nodup,(a1a.1 hnd).2.1,fun a ha b hb e=>?_⟩
  obtain⟨x,hx,rfl⟩:=a0V.1 ha;obtain⟨y,hy,rfl⟩:=a0V.1 hb;have hlt:x.1<w.heap.size:=e ▸ hR y hy;exact hR0 y hy (e ▸ h'.keys x hx hlt)
 ·by_cases he:m' b=m b
  ·exact h.Ag b (fun e=>hb (he.trans e))
  ·rcases h'.Ag b he with h1 | h1
   ·exact .inl (a1m h.size h1)
   ·obtain⟨y,hy,hye⟩:=a0V.1 h1;rcases Nat.lt_or_ge b β.w.heap.size with hlt | hge
    ·exact .inr (hye ▸ h.keys y (a0Q _ hy) (by rw [hye];exact hlt))
    ·exact .inl hge
 ·rcases a0P.1 hx with hx | hx
  ·have hin:=h'.keys x hx (a1n hlt h.size);obtain⟨y,hy,he⟩:=a0V.1 hin;rw [<- he];exact h.keys y (a0Q _ hy) (by rw [he];exact hlt)
  ·exact h.keys x (a0R _ hx) hlt
 ·have hbw:b<w.heap.size:=a1n hb h.size;have hnin:b ∉ L₀.map Prod.fst:=fun hin=>by
   obtain⟨y,hy,he⟩:=a0V.1 hin;exact hf (he ▸ h.keys y (a0Q _ hy) (by rw [he];exact hb))
  exact(h'.frame b hbw hnin).trans (h.frame b hb hf)
def FnS (P:Program) (f:FuncId) (args:List AF) (Δ:List Tk) (Φ:AF) (Δ':Value->List Tk):Prop:=
 ∀ m L vs,aU args m vs->bB Δ m L->FnX P f vs m L fun m' L' e=>∃ v,e= .returned v/\Φ.p m' v/\bB (Δ' v) m' L'
def FnP (P:Program) (f:FuncId) (args:List AF) (Δ:List Tk) (c:List PanicEntry):Prop:=
 ∀ m L vs,aU args m vs->bB Δ m L->FnX P f vs m L fun _ _ e=>e= .panicked c
def aM (Γ:Ctx):List Operand->List AF->Prop
 | [],φs=>φs=[]
 | x :: xs,φs=>∃ φ r,φs=φ :: r/\Has Γ x φ/\aM Γ xs r
theorem aM.nil {Γ:Ctx}:aM Γ [] []:=by simp [aM]
theorem aM.cons {Γ:Ctx} {x:Operand} {φ:AF} {xs:List Operand} {φs:List AF} (h:Has Γ x φ) (k:aM Γ xs φs):aM Γ (x :: xs) (φ :: φs):=⟨φ,φs,by simp,h,k⟩
theorem aM.all {m:Mem} {a:Act} (hF:FT n ds Γ m a):∀ {xs:List Operand} {φs:List AF},aM Γ xs φs->aU φs m (xs.map a.eval)
 | [],_,h=>by rw [h];rfl
 | x :: xs,_,⟨φ,r,e,h1,h2⟩=>by rw [e];exact⟨_,_,rfl,hF.has h1,aM.all hF h2⟩
def putG (d:Option Nat) (φ:AF) (Γ:Ctx):Ctx:=match d with
 | some t=>(t,φ) :: Γ
 | none=>Γ
def dstOk (d:Option Nat) (n:Nat):Bool:=match d with
 | some t=>Nat.ble (t+1) n
 | none=>true
theorem lW {g:Operand} {args:List Operand} {ts:Array TypeId} {f:FuncId} {first captured:Array Value} {vs:List Value} {post:Mem->AW->Ending->Prop} {m:Mem} {L R:AW} {a:Act} {w:World} {K:Act->World->Prop}
 (ho:o.op= .call { callee:= .value g,args:=args.toArray,argTypes:=ts }) (hg:a.eval g= .func (.func f) first captured) (hall:first.toList++args.map a.eval++captured.toList=vs) (hf:Af P f) (hc:FnX P f vs m L post) (hS:St β m (L++R) w)
 (kret:∀ m' L' v w',Mem.le m m'->post m' L' (.returned v)->St β m' (L'++R) w'->K (a.put o.dst v) w')
 (kpan:∀ m' L' c w',Mem.le m m'->post m' L' (.panicked c)->St β m' (L'++R) w'->Q (.panic c) a w') (kout:∀ m' L',post m' L' .outgrown->False):o.wpIn (fw r) 0 P a w K Q:=by
 have hnd:iH o.op=false:=by rw [ho];rfl
 have h3:o.semAt (fw r).round a.eval=execOp a.eval o:=by grind [Oper.semAt_eq]
 refine⟨fun _ _=>a1I,?_⟩
 have hrun:(execOp a.eval o).run P w= .ok (.enter f vs.toArray) w:=by
  have h2:first++((args.map a.eval).toArray++captured)=vs.toArray:=by rw [<- hall];simp
  have h4:args.toArray.map a.eval=(args.map a.eval).toArray:=by simp
  simp [execOp,ho,resolve,hg,Deferred.ofValue,invoke,a1B,Sem.run,pure,run_callFunc hf]
  grind
 rw [h3,hrun,Oper.uponIn_enter]
 refine⟨(fun h=>by cases h),calls_in ((hc w hS.start).mono fun e w' ⟨m',L',hS',hp⟩=>?_)⟩
 have hb:=back hS hS'
 cases e with
 | returned v=>exact kret m' L' v w' hS'.mle hp hb
 | panicked c=>exact kpan m' L' c w' hS'.mle hp hb
 | outgrown=>grind
theorem aBw {m:Mem} {a:Act} (hF:FT n ds Γ m a) {args:List Operand} {φs ψs:List AF} {first captured:Array Value} (hargs:aM Γ args φs) (hall:first.toList.map fEq++φs++captured.toList.map fEq=ψs):aU ψs m (first.toList++args.map a.eval++captured.toList):=
 (by grind [aU.append,iW,aM.all])
theorem T_call {g:Operand} {args:List Operand} {ts:Array TypeId} {f:FuncId} {first captured:Array Value} {φs ψs:List AF} {Δi Δr Δo:List Tk} {Φ:AF} {d:Option Nat} (hw:bX ops Γ o) (ho:o.op= .call { callee:= .value g,args:=args.toArray,argTypes:=ts }) (hd:o.dst=d)
 (hn:dstOk d n=true) (hg:Has Γ g (fEq (.func (.func f) first captured))) (hargs:aM Γ args φs) (hall:first.toList.map fEq++φs++captured.toList.map fEq=ψs) (hf:Af P f) (hc:FnS P f ψs Δi Φ (fun _=>Δo)) (hΔ:Δ=Δi++Δr)
 (k:T β n ds (putG d Φ Γ) (Δo++Δr) (wpListIn (fw r) 0 P ops Q rest)):T β n ds Γ Δ (wpListIn (fw r) 0 P ops Q (o :: rest)):=fun m L a w hF hL hS=>by
 subst hΔ
 obtain⟨A,B,rfl,h1,h2⟩:=hL.split
 simp only [wpListIn,hw.wanted hF,if_true]
 refine lW ho (hF.has hg) rfl hf (hc m A _ (aBw hF hargs hall) h1) hS (fun m' L' v w' hle ⟨u,he,h3,h4⟩ hS'=>?_) (by grind) (by grind)
 cases he
 refine k m' _ _ _ ?_ (h4.append (h2.mono hle)) hS'
 subst hd
 cases hdd:o.dst with
 | none=>exact hF.mono hle
 | some t=>rw [hdd]at hn;exact(hF.mono hle).put (a1k hn) h3
theorem kX {g:Operand} {args:List Operand} {ts:Array TypeId} {f:FuncId} {first captured:Array Value} {φs ψs:List AF} {Δi Δr:List Tk} {Δo:Value->List Tk} {Φ:AF} {d:Nat} (hw:bX ops Γ o) (ho:o.op= .call { callee:= .value g,args:=args.toArray,argTypes:=ts }) (hd:o.dst=some d)
 (hn:Nat.ble (d+1) n=true) (hg:Has Γ g (fEq (.func (.func f) first captured))) (hargs:aM Γ args φs) (hall:first.toList.map fEq++φs++captured.toList.map fEq=ψs) (hf:Af P f) (hc:FnS P f ψs Δi Φ Δo) (hΔ:Δ=Δi++Δr)
 (k:∀ v,T β n ds ((d,fEq v) :: Γ) (Δo v++Δr) (wpListIn (fw r) 0 P ops Q rest)):T β n ds Γ Δ (wpListIn (fw r) 0 P ops Q (o :: rest)):=fun m L a w hF hL hS=>by
 subst hΔ
 obtain⟨A,B,rfl,h1,h2⟩:=hL.split
 simp only [wpListIn,hw.wanted hF,if_true]
 refine lW ho (hF.has hg) rfl hf (hc m A _ (aBw hF hargs hall) h1) hS (fun m' L' v w' hle ⟨u,he,h3,h4⟩ hS'=>?_) (by grind) (by grind)
 cases he
 rw [hd]
 exact k v m' _ _ _ ((hF.mono hle).put (a1k hn) rfl) (h4.append (h2.mono hle)) hS'
theorem T_callP {g:Operand} {args:List Operand} {ts:Array TypeId} {f:FuncId} {first captured:Array Value} {φs ψs:List AF} {Δi Δr:List Tk} {c:List PanicEntry} (hw:bX ops Γ o) (ho:o.op= .call { callee:= .value g,args:=args.toArray,argTypes:=ts })
 (hg:Has Γ g (fEq (.func (.func f) first captured))) (hargs:aM Γ args φs) (hall:first.toList.map fEq++φs++captured.toList.map fEq=ψs) (hf:Af P f) (hc:FnP P f ψs Δi c) (hΔ:Δ=Δi++Δr)
 (k:T β n ds Γ Δr (Q (.panic c))):T β n ds Γ Δ (wpListIn (fw r) 0 P ops Q (o :: rest)):=fun m L a w hF hL hS=>by
 subst hΔ
 obtain⟨A,B,rfl,h1,h2⟩:=hL.split
 simp only [wpListIn,hw.wanted hF,if_true]
 refine lW ho (hF.has hg) rfl hf (hc m A _ (aBw hF hargs hall) h1) hS (by grind) (fun m' L' c' w' hle he hS'=>?_) (fun m' L' he=>by cases he)
 cases he
 exact k m' B a w' (hF.mono hle) (h2.mono hle) (by grind [St.drop])
def lG:List AF->Nat->Ctx
 | [],_=>[]
 | φ :: φs,i=>(i,φ) :: lG φs (i+1)
theorem yV:∀ (φs:List AF) (i t:Nat) (φ:AF),lk (lG φs i) t=some φ->i<=t/\φs[t - i]? =some φ
 | [],_,_,_,h=>by cases h
 | ψ :: φs,i,t,φ,h=>by
  rcases pY h with⟨rfl,rfl⟩ | ⟨hne,h⟩
  ·simp
  ·obtain⟨h1,h2⟩:=yV φs (i+1) t φ h
   grind
def eE (β:bA) (Φ:AF) (Δ':Value->List Tk) (e:Ending) (w':World):Prop:=∃ m' L',St β m' L' w'/\∃ v,e= .returned v/\Φ.p m' v/\bB (Δ' v) m' L'
def PostP (β:bA) (c:List PanicEntry) (e:Ending) (w':World):Prop:=∃ m' L',St β m' L' w'/\e= .panicked c
theorem FnX_of {f:FuncId} {fn:Func} {c:Code} {N:Nat} {args:List AF} {post:Mem->AW->Ending->Prop} (hf:P.funcs[f]? =some fn) (hb:fn.body=some c) (hN:fn.ntmps=N) (hle:Nat.ble args.length N=true)
 (k:∀ w m fp,T ⟨w,m,fp⟩ N [] (lG args 0) Δ (c.wpIn (fw none) 0 P (bodyPost P fn fun e w'=>∃ m' L',St ⟨w,m,fp⟩ m' L' w'/\post m' L' e))):
 ∀ m L vs,aU args m vs->bB Δ m L->FnX P f vs m L post:=fun m L vs hv hL w hS=>by
 refine calls_of_wp hf hb ?_
 refine(wpIn_wide (n:=0)).1 (k w m _ m L _ w ⟨?_,rfl,fun t φ h=>?_⟩ hL hS)
 ·have:=a1k hle
  grind [aU.length]
 ·obtain⟨_,h2⟩:=yV args 0 t φ h
  grind [aU.get]
theorem bY {f:FuncId} {fn:Func} {c:Code} {N:Nat} {args:List AF} {Φ:AF} {Δ':Value->List Tk} (hf:P.funcs[f]? =some fn) (hb:fn.body=some c) (hN:fn.ntmps=N) (hle:Nat.ble args.length N=true)
 (k:∀ β,T β N [] (lG args 0) Δ (c.wpIn (fw none) 0 P (bodyPost P fn (eE β Φ Δ')))):FnS P f args Δ Φ Δ':=FnX_of hf hb hN hle fun w m fp=>k ⟨w,m,fp⟩
theorem FnP_of {f:FuncId} {fn:Func} {c:Code} {N:Nat} {args:List AF} {ch:List PanicEntry} (hf:P.funcs[f]? =some fn) (hb:fn.body=some c) (hN:fn.ntmps=N) (hle:Nat.ble args.length N=true)
 (k:∀ β,T β N [] (lG args 0) Δ (c.wpIn (fw none) 0 P (bodyPost P fn (PostP β ch)))):FnP P f args Δ ch:=FnX_of hf hb hN hle fun w m fp=>k ⟨w,m,fp⟩
theorem cV {fn:Func} {Δ':Value->List Tk} {e:Exit} (he:e= .ret\/e= .normal) (hr:fn.results=#[]) (hd:Δ=Δ' (.tuple #[])):T β n [] Γ Δ (bodyPost P fn (eE β (dI []) Δ') e):=fun m L a w hF hL hS=>by
 subst hd
 have:a.defers=[]/\∃ v,(results fn a.tmps).run P w= .ok v w/\eE β (dI []) Δ' (.returned v) w:=
  ⟨hF.Aa, .tuple #[],by simp_all [results],m,L,hS,_,rfl,⟨[],rfl,rfl⟩,hL⟩
 rcases he with rfl | rfl <;> exact this
theorem T_out1 {fn:Func} {Φ:AF} {Δ':List Tk} {t:Nat} (hr:fn.results=#[.tmp t]) (hv:jS Γ t Φ) (hd:Δ=Δ'):T β n [] Γ Δ (bodyPost P fn (eE β Φ (fun _=>Δ')) .ret):=fun m L a w hF hL hS=>by
 subst hd
 obtain⟨ψ,h1,h2⟩:=hv
 obtain⟨v,h3,h4⟩:=hF.get t ψ h1
 exact⟨hF.Aa,v,by simp [results,hr,a0a,h3,Sem.run,pure],m,L,hS,v,rfl,h2 m v h4,hL⟩
theorem aAK {fn:Func} {Φ:AF} {Δ':Value->List Tk} {t:Nat} {v:Value} (hr:fn.results=#[.tmp t]) (hv:jS Γ t (fEq v)) (hΦ:Ent (fEq v) Φ) (hd:Δ=Δ' v):T β n [] Γ Δ (bodyPost P fn (eE β Φ Δ') .ret):=fun m L a w hF hL hS=>by
 subst hd
 obtain⟨ψ,h1,h2⟩:=hv
 obtain⟨u,h3,h4⟩:=hF.get t ψ h1
 have h5:u=v:=h2 m u h4
 subst h5
 exact⟨hF.Aa,u,by simp [results,hr,a0a,h3,Sem.run,pure],m,L,hS,u,rfl,hΦ m u rfl,hL⟩
theorem qN {fn:Func} {φ ψ:AF} {Δ':List Tk} {t u:Nat} (hr:fn.results=#[.tmp t, .tmp u]) (hv:jS Γ t φ) (hz:jS Γ u ψ) (hd:Δ=Δ'):T β n [] Γ Δ (bodyPost P fn (eE β (dI [φ,ψ]) (fun _=>Δ')) .ret):=fun m L a w hF hL hS=>by
 subst hd
 obtain⟨_,h1,h2⟩:=hv
 obtain⟨v,h3,h4⟩:=hF.get t _ h1
 obtain⟨_,g1,g2⟩:=hz
 obtain⟨z,g3,g4⟩:=hF.get u _ g1
 exact⟨hF.Aa, .tuple #[v,z],by simp [results,hr,a0a,h3,g3,a1B,Sem.run,pure],m,L,hS,_,rfl,⟨[v,z],rfl,v,[z],rfl,h2 m v h4,z,[],rfl,g2 m z g4,rfl⟩,hL⟩
theorem T_outP {fn:Func} {c:List PanicEntry}:T β n [] Γ Δ (bodyPost P fn (PostP β c) (.panic c)):=fun m L a w hF hL hS=>⟨hF.Aa,m,L,hS,rfl⟩
theorem aA2 {x:Operand} {T':TypeId} {v:Value} (hw:bX ops Γ o) (ho:o.op= .panic x) (hx:Has Γ x (fEq (.iface T' v))) (k:T β n ds Γ Δ (Q (.panic [{ v:= .iface T' v,recovered:=false }]))):
 T β n ds Γ Δ (wpListIn (fw r) 0 P ops Q (o :: rest)):=fun m L a w hF hL hS=>by
 have hnd:iH o.op=false:=by rw [ho];rfl
 have h3:o.semAt (fw r).round a.eval=execOp a.eval o:=by grind [Oper.semAt_eq]
 simp only [wpListIn,hw.wanted hF,if_true]
 refine⟨fun _ _=>a1I,?_⟩
 have hxe:a.eval x=_:=hF.has hx
 have:(execOp a.eval o).run P w= .halt (.panic (.iface T' v)) w:=by
  simp [execOp,ho,hxe,Instr.panic,goPanic,a1B,Sem.run]
 rw [h3,this,Oper.uponIn_panic]
 exact k m L a w hF hL hS
end
open Go.SX
theorem bind_some {α γ:Type} {o:Option α} {f:α->Option γ} {r:γ} (h:o.bind f=some r):∃ x,o=some x/\f x=some r:=a1s.1 h
theorem ne_tf {c:Bool} (h:c=false):c≠true:=by grind
theorem ne_ft {c:Bool} (h:c=true):c≠false:=by grind
theorem bL:∀ φ∈([]:List AF),eU φ:=fun _ h=>nomatch h
theorem aH {φ:AF} {l:List AF} (h:eU φ) (k:∀ ψ∈l,eU ψ):∀ ψ∈φ :: l,eU ψ:=by grind
theorem ll_app {l l':List AF} (h:∀ ψ∈l,eU ψ) (k:∀ ψ∈l',eU ψ):∀ ψ∈l++l',eU ψ:=by grind
theorem AF.ext' {φ ψ:AF} (h:∀ m v,φ.p m v ↔ ψ.p m v):φ=ψ:=by
 obtain⟨p,hp⟩:=φ
 obtain⟨q,hq⟩:=ψ
 have:p=q:=by grind
 subst this
 rfl
def eC (x:Value):AF:=⟨fun _ v=>v=x/\cO v,fun _ h=>h⟩
theorem aBv {x:Value}:eU (eC x):=fun _ _ h=>h.2
def tRaw:Ty Value:=⟨1,fun x=>[eC x],fun _=>rfl,(by grind [aBv])⟩
section
variable {P:Program} {β:bA} {n:Nat} {ds:List Deferred} {Γ:Ctx} {Δ:List Tk} {r:Option Nat} {Q Q':Exit->Act->World->Prop} {F:Act->World->Prop} {ops:Array Oper} {o:Oper} {rest:List Oper}
theorem T_o1 {d:Nat} {φ:AF} {τ:Tk} (i:Nat) (hw:bX ops Γ o) (hτ:Δ[i]? =some τ) (hd:o.dst=some d) (hn:Nat.ble (d+1) n=true) (h:OpT P Γ [τ] o φ)
 (k:T β n ds ((d,φ) :: Γ) Δ (wpListIn (fw r) 0 P ops Q rest)):T β n ds Γ Δ (wpListIn (fw r) 0 P ops Q (o :: rest)):=
 T_op [i] hw (List.pairwise_singleton _ _) hd hn (by grind [tV]) k
theorem dU {α:Type} {xs:List α} {i:Int} {x:α} (h:idx xs i=some x):xs[i.toNat]? =some x:=by
 unfold idx at h;split at h
 ·exact h
 ·cases h
theorem not_t {c:Bool} (h:c=true):(!c)=false:=by rw [h];rfl
theorem not_f {c:Bool} (h:c=false):(!c)=true:=by rw [h];rfl
end
open Go.SX
abbrev Cf:=Nat->Option AF
def updC (γ:Cf) (d:Option Nat) (φ:AF):Cf:=match d with
 | some t=>fun s=>bif Nat.beq t s then some φ else γ s
 | none=>γ
def jY (D:Nat->Tk) (ps:List Nat) (Δo:List Tk):Nat->Tk:=fun q=>((ps.zip Δo).lookup q).getD (D q)
structure Oc where
 n:Nat
 v:Value
instance:Inhabited Oc:=⟨⟨0,undef⟩⟩
abbrev Env':=Nat->Oc
def Env'.set (e:Env') (i:Nat) (b:Oc):Env':=fun j=>bif Nat.beq i j then b else e j
theorem aBV {e:Env'} {i:Nat} {b:Oc}:e.set i b i=b:=by simp [Env'.set]
theorem wG {e:Env'} {i j:Nat} {b:Oc} (h:i≠j):e.set i b j=e j:=by
 grind [_root_.Nat.eq_of_beq_eq_true,Env'.set]
theorem set_comm {e:Env'} {i j:Nat} {b c:Oc} (h:i≠j):(e.set i b).set j c=(e.set j c).set i b:=by
 funext k
 by_cases hi:i=k
 ·subst hi;rw [wG (fun e=>h e.symm),aBV,aBV]
 grind [aBV,wG]
inductive OD where
 | skip
 | op (ps:List Nat) (wr:Bool) (φ:Oc->AF) (Δo:Oc->List Tk)
def OD.ps:OD->List Nat
 | .skip=>[]
 | .op ps _ _ _=>ps
def OD.wr:OD->Bool
 | .skip=>false
 | .op _ wr _ _=>wr
structure FC (n:Nat) (ds:List Deferred) (γ:Cf) (m:Mem) (a:Act):Prop where
 size:a.tmps.size=n
 Aa:a.defers=ds
 get:∀ t φ,γ t=some φ->∃ v,a.tmps[t]? =some v/\φ.p m v
def Stp (P:Program) (r:Option Nat) (γ:Cf) (o:Oper) (Δi:List Tk) (φ:Oc->AF) (Δo:Oc->List Tk):Prop:=
 ∀ (β:bA) (n:Nat) (ds:List Deferred) (m:Mem) (L R:AW) (a:Act) (w:World) (K:Act->World->Prop) (Q:Exit->Act->World->Prop),FC n ds (fun t=>if t∈o.op.operands.toList.filterMap (fun | .tmp t=>some t | _=>none)then γ t else none) m a ->
  bB Δi m L->St β m (L++R) w->(∀ b m' L' v w',Mem.le m m'->(φ b).p m' v->bB (Δo b) m' L'->St β m' (L'++R) w'->K (a.put o.dst v) w')->o.wpIn (fw r) 0 P a w K Q
def uA (ops:Array Oper) (γ:Cf) (o:Oper):Prop:=match o.guard with
 | none=>True
 | some (j,want)=>∃ d c,(ops[j]?).bind (·.dst)=some d/\γ d=some (aL c)/\c=want
def aEP (ops:Array Oper) (γ:Cf) (o:Oper):Prop:=∃ j want d ψ,o.guard=some (j,want)/\(ops[j]?).bind (·.dst)=some d/\γ d=some ψ/\Never ψ want
section
variable (P:Program) (r:Option Nat) (ops:Array Oper)
def Pre (γ:Cf) (D:Nat->Tk) (x:Oper × OD):Prop:=match x.2 with
 | .skip=>aEP ops γ x.1
 | .op ps _ φ Δo=>uA ops γ x.1/\Stp P r γ x.1 (ps.map D) φ (fun b=>if x.2.wr then Δo b else ps.map D)/\∀ b,(Δo b).length=ps.length
def fA (γ:Cf) (x:Oper × OD) (b:Oc):Cf:=match x.2 with
 | .skip=>updC γ x.1.dst (fEq undef)
 | .op _ _ φ _=>updC γ x.1.dst (φ b)
def eJ (D:Nat->Tk) (x:Oper × OD) (b:Oc):Nat->Tk:=match x.2 with
 | .skip=>D
 | .op ps wr _ Δo=>if wr then jY D ps (Δo b) else D
abbrev NO:=Nat × Oper × (Env'->OD)
def NC (G:Env'->Cf->(Nat->Tk)->Prop):List NO->Env'->Cf->(Nat->Tk)->Prop
 | [],e,γ,D=>G e γ D
 | x :: l,e,γ,D=>Pre P r ops γ D (x.2.1,x.2.2 e)/\∀ b,NC G l (e.set x.1 b) (fA γ (x.2.1,x.2.2 e) b) (eJ D (x.2.1,x.2.2 e) b)
end
structure Ind (ops:Array Oper) (x y:Oper × OD):Prop where
 xy:∀ d,x.1.dst=some d->d ∉ y.1.looksAt ops
 yx:∀ d,y.1.dst=some d->d ∉ x.1.looksAt ops
 ne:∀ d,x.1.dst=some d->y.1.dst≠some d
 touch:(x.2.wr || y.2.wr)=true->∀ p∈x.2.ps,p ∉ y.2.ps
section
variable {P:Program} {r:Option Nat} {ops:Array Oper}
theorem updC_ne {γ:Cf} {d:Option Nat} {φ:AF} {t:Nat} (h:d≠some t):updC γ d φ t=γ t:=by
 cases d with
 | none=>rfl
 | some s=>
  have:Nat.beq s t=false:=by
   grind [_root_.Nat.eq_of_beq_eq_true]
  grind [updC]
theorem oP {γ:Cf} {x:Oper × OD} {b:Oc} {t:Nat} (h:x.1.dst≠some t):fA γ x b t=γ t:=by
 obtain⟨o,od⟩:=x
 cases od <;> exact updC_ne h
theorem aEg {γ γ':Cf} {x:Oper × OD} {b:Oc} {t:Nat} (h:x.1.dst=some t):fA γ x b t=fA γ' x b t:=by
 obtain⟨o,od⟩:=x
 simp only at h
 cases od <;> simp [fA,updC,h]
theorem aDG {D:Nat->Tk} {ps:List Nat} {Δo:List Tk} {q:Nat} (h:q ∉ ps):jY D ps Δo q=D q:=by
 have:(ps.zip Δo).lookup q=none:=by
  rw [List.lookup_eq_none_iff];intro p hp;have:=(List.of_mem_zip hp).1
  grind
 simp [jY,this]
theorem aAr {D:Nat->Tk} {x:Oper × OD} {b:Oc} {q:Nat} (h:x.2.wr=true->q ∉ x.2.ps):eJ D x b q=D q:=by
 obtain⟨o,od⟩:=x
 cases od with
 | skip=>rfl
 | op ps wr φ Δo=>
  cases wr with
  | false=>rfl
  | true=>exact aDG (h rfl)
theorem aA7 {o:Oper} {g:Nat} {want:Bool} {d:Nat} (hg:o.guard=some (g,want)) (hd:(ops[g]?).bind (·.dst)=some d):d∈o.looksAt ops:=by
 grind [Oper.looksAt]
theorem aDW {o:Oper} {t:Nat} (h:t∈o.op.operands.toList.filterMap (fun | .tmp t=>some t | _=>none)):t∈o.looksAt ops:=a0Q _ h
theorem Pre.congr {γ γ':Cf} {D D':Nat->Tk} {x:Oper × OD} (hγ:∀ t∈x.1.looksAt ops,γ' t=γ t) (hD:∀ p∈x.2.ps,D' p=D p) (h:Pre P r ops γ D x):Pre P r ops γ' D' x:=by
 obtain⟨o,od⟩:=x
 cases od with
 | skip=>
  obtain⟨j,want,d,c,h1,h2,h3,h4⟩:=h;exact⟨j,want,d,c,h1,h2,by grind [aA7],h4⟩
 | op ps wr φ Δo=>
  obtain⟨h1,h2,h3⟩:=h;have hmap:ps.map D'=ps.map D:=List.map_congr_left fun p hp=>hD p hp
  refine⟨?_,?_,h3⟩
  ·unfold uA at h1 ⊢
   grind [aA7]
  ·rw [hmap];intro β n ds m L R a w K Q hF hL hS hk;refine h2 β n ds m L R a w K Q ⟨hF.size,hF.Aa,fun t φ ht=>hF.get t φ ?_⟩ hL hS hk
   grind [aDW]
theorem aIl {γ:Cf} {x y:Oper × OD} (h:∀ d,x.1.dst=some d->y.1.dst≠some d) (b c:Oc):fA (fA γ x b) y c=fA (fA γ y c) x b:=by
 funext t
 by_cases hx:x.1.dst=some t
 ·grind [oP,aEg]
 ·by_cases hy:y.1.dst=some t
  ·grind [oP,aEg]
  grind [oP]
theorem aCT {D D':Nat->Tk} {x:Oper × OD} {b:Oc} {q:Nat} (hl:∀ ps wr φ Δo,x.2= .op ps wr φ Δo->(Δo b).length=ps.length) (h:x.2.wr=true) (hq:q∈x.2.ps):eJ D x b q=eJ D' x b q:=by
 obtain⟨o,od⟩:=x
 cases od with
 | skip=>cases h
 | op ps wr φ Δo=>
  simp only [OD.wr]at h;subst h;simp only [eJ,if_true,jY];have hlen:=hl ps true φ Δo rfl;simp only [OD.ps]at hq;have:∃ v,(ps.zip (Δo b)).lookup q=some v:=by
   generalize Δo b=l at hlen
   clear hl;induction ps generalizing l with
   | nil=>cases hq
   | cons p ps ih=>
    cases l with
    | nil=>simp at hlen
    | cons v l=>
     simp only [List.zip_cons_cons,List.lookup_cons];by_cases hpq:q==p
     ·simp_all
     grind
  grind
theorem aG4 {D:Nat->Tk} {x y:Oper × OD} (h:(x.2.wr || y.2.wr)=true->∀ p∈x.2.ps,p ∉ y.2.ps) {b c:Oc} (hlx:∀ ps wr φ Δo,x.2= .op ps wr φ Δo->(Δo b).length=ps.length) (hly:∀ ps wr φ Δo,y.2= .op ps wr φ Δo->(Δo c).length=ps.length):
 eJ (eJ D x b) y c=eJ (eJ D y c) x b:=by
 funext q
 by_cases hx:x.2.wr=true/\q∈x.2.ps
 ·grind [aAr,aCT]
 grind [OD.ps,eJ,aAr,aCT]
theorem Pre.len {γ:Cf} {D:Nat->Tk} {x:Oper × OD} (h:Pre P r ops γ D x) (b:Oc):∀ ps wr φ Δo,x.2= .op ps wr φ Δo->(Δo b).length=ps.length:=fun ps wr φ Δo e=>by
 obtain⟨o,od⟩:=x
 simp only at e
 subst e
 exact h.2.2 b
structure IndN (ops:Array Oper) (x y:NO):Prop where
 num:x.1≠y.1
 xd:∀ (e:Env') b,x.2.2 (e.set y.1 b)=x.2.2 e
 yd:∀ (e:Env') b,y.2.2 (e.set x.1 b)=y.2.2 e
 ind:∀ e,Ind ops (x.2.1,x.2.2 e) (y.2.1,y.2.2 e)
theorem NC.swap {G:Env'->Cf->(Nat->Tk)->Prop} {x y:NO} {l:List NO} {e:Env'} {γ:Cf} {D:Nat->Tk} (hn:IndN ops x y) (h:NC P r ops G (x :: y :: l) e γ D):NC P r ops G (y :: x :: l) e γ D:=by
 obtain⟨h1,h2⟩:=h
 have hi:=hn.ind e
 have hy:Pre P r ops γ D (y.2.1,y.2.2 e):=by
  have h3:=(h2 default).1;rw [hn.yd]at h3;exact h3.congr (fun t ht=>(oP fun e=>hi.xy t e ht).symm) fun p hp=>(aAr fun hw hpx=>hi.touch (by simp [hw]) p hpx hp).symm
 refine⟨hy,fun c=>⟨?_,fun b=>?_⟩⟩
 ·rw [hn.xd];exact h1.congr (fun t ht=>oP fun e=>hi.yx t e ht) fun p hp=>aAr fun hw hpy=>hi.touch (by simp [hw]) p hp hpy
 ·have h3:=(h2 b).2 c;rw [hn.yd]at h3;rw [hn.xd,<- aIl hi.ne b c,<- aG4 hi.touch (h1.len b) (hy.len c),set_comm (fun e=>hn.num e.symm)];exact h3
theorem NC.front {G:Env'->Cf->(Nat->Tk)->Prop} {y:NO} {l2:List NO}:∀ {l1:List NO} {e:Env'} {γ:Cf} {D:Nat->Tk},(∀ x∈l1,IndN ops x y)->NC P r ops G (l1++y :: l2) e γ D->NC P r ops G (y :: (l1++l2)) e γ D
 | [],_,_,_,_,h=>h
 | x :: l1,e,γ,D,hi,h=>by
  have h':NC P r ops G (x :: y :: (l1++l2)) e γ D:=⟨h.1,fun b=>NC.front (by grind) (h.2 b)⟩
  grind [NC.swap]
structure aBc (ops:Array Oper) (h:Nat) (ods:List (Env'->OD)):Prop where
 back:∀ (i:Nat) (o:Oper),ops[i]? =some o->∀ e∈o.after,Region.binds .any e=true->e.on<i
 tail:∀ (i j:Nat) (oi oj:Oper),ops[i]? =some oi->ops[j]? =some oj->h<=i->j<i->eP ops ops.size i j=true
 ind:∀ (i j:Nat) (oi oj:Oper) (x y:Env'->OD),ops[i]? =some oi->ops[j]? =some oj->i<h->j<i->ods[i]? =some x->ods[j]? =some y->IndN ops (j,oj,y) (i,oi,x)\/eP ops ops.size i j=true
theorem aD2 {head tail:List Oper} {Q:Exit->Act->World->Prop} {ods:List (Env'->OD)} (hops:ops=(head++tail).toArray) (hsh:aBc ops head.length ods):∀ (AA k:Nat) (listed:Array Bool) (a:Act) (w:World),(∀ i:Nat,i<head.length+k->listed.getD i false=true) ->
 (∀ i:Nat,head.length+k<=i->listed.getD i false=false)->listed.size=ops.size->k<=tail.length->tail.length - k<=AA->wpListIn (fw r) 0 P ops Q (tail.drop k) a w->wpAnyIn (fw r) 0 P .any ops Q AA listed a w:=by
 have hsz:ops.size=head.length+tail.length:=by rw [hops];simp
 have hnotready:∀ (k:Nat) (listed:Array Bool),(∀ i:Nat,i<head.length+k->listed.getD i false=true)->listed.size=ops.size->tail.length<=k->Region.ready .any ops listed=[]:=fun k listed h1 hls hk=>by
  cases hr:Region.ready .any ops listed with
  | nil=>rfl
  | cons i l=>
   have:i∈Region.ready .any ops listed:=by rw [hr];exact .head _
   obtain⟨h2,o,ho,_⟩:=mem_ready.1 this;have hlt:=(a0b.1 ho).1;rw [nC (by omega),h1 i (by omega)]at h2;cases h2
 intro AA
 induction AA with
 | zero=>
  intro k listed a w h1 h2 hls hk hf hw;have hd:tail.drop k=[]:=a0t (by omega)
  rw [hd]at hw;exact⟨hnotready k listed h1 hls (by omega),hw⟩
 | succ AA ih=>
  intro k listed a w h1 h2 hls hk hf hw;by_cases hend:tail.length<=k
  ·have hd:tail.drop k=[]:=a0t hend;rw [hd]at hw;have hnr:=hnotready k listed h1 hls hend;exact⟨fun _=>hw,fun i hi=>by rw [hnr]at hi;cases hi⟩
  ·have hklt:k<tail.length:=by omega
   have hok:ops[head.length+k]? =some tail[k]:=by
    rw [hops];simp [List.getElem?_append_right,hklt]
   have hunk:listed.getD (head.length+k) false=false:=h2 _ (a1l _);have hready:head.length+k∈Region.ready .any ops listed:=mem_ready.2 ⟨by rw [nC (by omega)];exact hunk,_,hok,fun e he hb=>h1 _ (hsh.back _ _ hok e he hb)⟩
   have hcl:kH ops listed:=fun i o ho hl e he hb=>by
    have:e.on<i:=hsh.back i o ho e he hb;have hi:i<head.length+k:=Nat.lt_of_not_le fun hge=>by rw [h2 i hge]at hl;cases hl
    exact h1 _ (by omega)
   refine⟨(fun hnil=>by rw [hnil]at hready;cases hready),fun i hi=>?_⟩
   obtain⟨h3,o,ho,hdep⟩:=mem_ready.1 hi;have hlt:=(a0b.1 ho).1;rw [nC (by omega)]at h3;have hge:head.length+k<=i:=Nat.le_of_not_lt fun hl=>by rw [h1 i hl]at h3;cases h3
   have hik:i=head.length+k:=by
    by_cases he:i=head.length+k
    ·exact he
    ·have hr:=hsh.tail i (head.length+k) o _ ho hok (by omega) (by omega)
     have:=pG hcl _ _ _ o ho hdep hr;rw [hunk]at this;cases this
   subst hik;rw [hok]at ho;cases ho;have hdrop:tail.drop k=tail[k] :: tail.drop (k+1):=a0s hklt;rw [hdrop]at hw;have hnext:∀ a w,wpListIn (fw r) 0 P ops Q (tail.drop (k+1)) a w->wpAnyIn (fw r) 0 P .any ops Q AA (listed.setIfInBounds (head.length+k) true) a w:=fun a w hw=>
    ih (k+1) _ a w (fun i hi=>by
        rw [jL (by omega)];split
        ·rfl
        ·exact h1 i (by omega)) (fun i hi=>by rw [jL (by omega),a1G (by omega)];exact h2 i (by omega)) (by simpa using hls) (by omega) (by omega) hw
   unfold wpOpIn;simp only [hok];simp only [wpListIn]at hw;split at hw
   ·rename_i hwt;rw [a1H hwt];exact Oper.wpIn_mono hnext hw
   ·rename_i hwt;rw [a1G hwt];exact⟨hw.1,hnext _ _ hw.2⟩
theorem FC.put {n:Nat} {ds:List Deferred} {γ:Cf} {m:Mem} {a:Act} (h:FC n ds γ m a) {d:Option Nat} (hd:∀ t,d=some t->t<n) {v:Value} {φ:AF} (hv:φ.p m v):FC n ds (updC γ d φ) m (a.put d v):=by
 cases d with
 | none=>exact h
 | some d=>
  refine⟨by simp [Act.put,h.size],by simp [Act.put,h.Aa],fun t ψ hu=>?_⟩
  simp only [updC]at hu;cases hb:Nat.beq d t with
  | true=>
   rw [hb]at hu;have:=a1j hb;subst this;cases hu;exact⟨v,by simp [Act.put,h.size,hd d rfl],hv⟩
  | false=>
   rw [hb]at hu;have hne:d≠t:=fun e=>by subst e;simp at hb
   obtain⟨u,h1,h2⟩:=h.get t ψ hu
   grind [Act.put]
theorem FC.mono {n:Nat} {ds:List Deferred} {γ:Cf} {m m':Mem} {a:Act} (h:FC n ds γ m a) (hle:Mem.le m m'):FC n ds γ m' a:=
 ⟨h.size,h.Aa,fun t φ ht=>let ⟨v,h1,h2⟩:=h.get t φ ht;⟨v,h1,φ.mono hle h2⟩⟩
theorem aBM {n:Nat} {ds:List Deferred} {γ:Cf} {m:Mem} {a:Act} (h:FC n ds γ m a) {o:Oper} (hw:uA ops γ o):Region.wanted o (Go.yielded ops a.tmps)=true:=by
 unfold uA at hw
 unfold Region.wanted
 cases hg:o.guard with
 | none=>rfl
 | some p=>
  obtain⟨j,want⟩:=p;rw [hg]at hw;obtain⟨d,c,h1,h2,rfl⟩:=hw;obtain⟨v,h3,h4⟩:=h.get d _ h2;have h4:v= .bool c:=h4
  grind [yielded]
theorem aDq {n:Nat} {ds:List Deferred} {γ:Cf} {m:Mem} {a:Act} (h:FC n ds γ m a) {o:Oper} (hw:aEP ops γ o):Region.wanted o (Go.yielded ops a.tmps)=false:=by
 obtain⟨j,want,d,ψ,hg,h1,h2,h3⟩:=hw
 obtain⟨v,h4,h5⟩:=h.get d _ h2
 have h6:=h3 m v h5
 have h7:Go.yielded ops a.tmps j=SX.asB v:=by
  simp only [Go.yielded,h1,Option.bind_some,h4];cases v <;> rfl
 grind [Region.wanted]
theorem aFb {D:Nat->Tk} {q:Nat} {ps:List Nat} (hn:ps.Nodup) (hq:∀ p∈ps,p<q):∃ rest:List Nat,(List.range q).Perm (ps++rest)/\∀ p∈rest,p ∉ ps:=by
 refine⟨(List.range q).filter (fun p=>!ps.contains p),?_,(by grind)⟩
 have h1:=List.filter_append_perm (fun p=>ps.contains p) (List.range q)
 refine h1.symm.trans (List.Perm.append_right _ ?_)
 refine(List.perm_ext_iff_of_nodup (List.nodup_range.filter _) hn).2 fun p=>?_
 grind
theorem net_put {D:Nat->Tk} {ps rest:List Nat} {Δo:List Tk} (hn:ps.Nodup) (hl:Δo.length=ps.length) (hr:∀ p∈rest,p ∉ ps):(ps++rest).map (jY D ps Δo)=Δo++rest.map D:=by
 rw [a0N]
 congr 1
 ·induction ps generalizing Δo D with
  | nil=>cases Δo with
   | nil=>rfl
   | cons=>simp at hl
  | cons p ps ih=>
   cases Δo with
   | nil=>simp at hl
   | cons v l=>
    rw [a1b]at hn;rw [a0O];congr 1
    ·simp [jY]
    ·refine Eq.trans (List.map_congr_left ?_) (ih (D:=D) (Δo:=l) hn.2 (by simpa using hl) (fun p hp=>fun h=>hr p hp (.tail _ h)))
     intro s hs;have hne:(s==p)=false:=by
      simp only [beq_eq_false_iff_ne,ne_eq];exact fun e=>hn.1 (e ▸ hs)
     simp [jY,List.lookup_cons,hne]
 ·exact List.map_congr_left fun p hp=>aDG (hr p hp)
def wfO (n q:Nat) (o:Oper) (od:OD):Prop:=(∀ t,o.dst=some t->t<n)/\(∀ p∈od.ps,p<q)/\od.ps.Nodup
theorem net_run {β:bA} {n:Nat} {ds:List Deferred} {Q:Exit->Act->World->Prop} {head tail:List Oper} {ods:List (Env'->OD)} {q:Nat} {G:Env'->Cf->(Nat->Tk)->Prop} (hops:ops=(head++tail).toArray) (hol:ods.length=head.length) (hsh:aBc ops head.length ods)
 (hG:∀ e γ D m L a w,G e γ D->FC n ds γ m a->bB ((List.range q).map D) m L->St β m L w->wpListIn (fw r) 0 P ops Q tail a w):
 ∀ (AA:Nat) (rem:List NO) (listed:Array Bool) (e:Env') (γ:Cf) (D:Nat->Tk) (m:Mem) (L:AW) (a:Act) (w:World),
  NC P r ops G rem e γ D->FC n ds γ m a->bB ((List.range q).map D) m L->St β m L w->(∀ x∈rem,head[x.1]? =some x.2.1/\ods[x.1]? =some x.2.2/\∀ e,wfO n q x.2.1 (x.2.2 e))->(rem.Pairwise fun x y=>x.1<y.1) ->
  kH ops listed->(∀ i:Nat,i<head.length->(listed.getD i false=false ↔ ∃ x∈rem,x.1=i))->(∀ i:Nat,head.length<=i->listed.getD i false=false)->listed.size=ops.size->rem.length+tail.length<=AA->wpAnyIn (fw r) 0 P .any ops Q AA listed a w:=by
 have hsz:ops.size=head.length+tail.length:=by rw [hops];simp
 have hho:∀ j:Nat,j<head.length->head[j]? =ops[j]?:=fun j hj=>by rw [hops];simp [a0y hj]
 intro AA
 induction AA with
 | zero=>
  intro rem listed e γ D m L a w hN hF hL hS hrem hsrt hcl h1 h2 hls hf;have:rem=[]:=a0u (by omega)
  subst this;refine aD2 hops hsh 0 0 listed a w (fun i hi=>?_) (by simpa using h2) hls (a1r _) (by omega) (hG e γ D m L a w hN hF hL hS)
  cases hb:listed.getD i false with
  | true=>rfl
  | false=>obtain⟨x,hx,_⟩:=(h1 i (by omega)).1 hb;cases hx
 | succ AA ih=>
  intro rem listed e γ D m L a w hN hF hL hS hrem hsrt hcl h1 h2 hls hf;by_cases hemp:rem=[]
  ·subst hemp;refine aD2 hops hsh (AA+1) 0 listed a w (fun i hi=>?_) (by simpa using h2) hls (a1r _) (by simp at hf;omega) (hG e γ D m L a w hN hF hL hS)
   cases hb:listed.getD i false with
   | true=>rfl
   | false=>obtain⟨x,hx,_⟩:=(h1 i (by omega)).1 hb;cases hx
  ·obtain⟨x0,rem',rfl⟩:∃ x l,rem=x :: l:=by
    cases rem with
    | nil=>exact absurd rfl hemp
    | cons x l=>exact⟨x,l,rfl⟩
   have hx0:=hrem x0 (.head _);have hx0l:x0.1<head.length:=(a0C.1 hx0.1).1;have hun0:listed.getD x0.1 false=false:=(h1 x0.1 hx0l).2 ⟨x0, .head _,rfl⟩;refine⟨fun hnil=>?_,fun i hi=>?_⟩
   ·
     have:x0.1∈Region.ready .any ops listed:=by
      refine mem_ready.2 ⟨by rw [nC (by omega)];exact hun0,x0.2.1,by rw [<- hho _ hx0l];exact hx0.1,fun e he hb=>?_⟩
      have hlt:=hsh.back x0.1 x0.2.1 (by rw [<- hho _ hx0l];exact hx0.1) e he hb
      cases hbb:listed.getD e.on false with
      | true=>rfl
      | false=>
       obtain⟨y,hy,hye⟩:=(h1 e.on (by omega)).1 hbb
       rcases a0S.1 hy with rfl | hy
       ·omega
       ·have:=(a1d.1 hsrt).1 y hy;omega
     rw [hnil]at this;cases this
   ·obtain⟨h3,o,ho,hdep⟩:=mem_ready.1 hi;have hlt:=(a0b.1 ho).1;rw [nC (by omega)]at h3;have hih:i<head.length:=Nat.lt_of_not_le fun hge=>by
     have hr:=hsh.tail i x0.1 o x0.2.1 ho (by rw [<- hho _ hx0l];exact hx0.1) hge (by omega)
     have:=pG hcl _ i x0.1 o ho hdep hr;rw [hun0]at this;cases this
    obtain⟨x,hx,rfl⟩:=(h1 i hih).1 h3;obtain⟨l1,l2,hsplit⟩:=List.append_of_mem hx;have hxr:=hrem x hx;have hxo:x.2.1=o:=by have:=hxr.1;rw [hho _ hih,ho]at this;exact(a1y this).symm
    have hl1:∀ y∈l1,y.1<x.1:=fun y hy=>by
     rw [hsplit,a1c]at hsrt;exact hsrt.2.2 y hy x (.head _)
    have hind:∀ z∈l1,IndN ops z x:=fun y hy=>by
     have hyr:=hrem y (by rw [hsplit];exact a0Q _ hy)
     have hyl:y.1<head.length:=(a0C.1 hyr.1).1;rcases hsh.ind x.1 y.1 x.2.1 y.2.1 x.2.2 y.2.2 (by rw [<- hho _ hih];exact hxr.1) (by rw [<- hho _ hyl];exact hyr.1) hih (hl1 y hy) hxr.2.1 hyr.2.1 with h | h
     ·exact h
     ·have:=pG hcl _ x.1 y.1 o ho hdep h;rw [(h1 y.1 hyl).2 ⟨y,by rw [hsplit];exact a0Q _ hy,rfl⟩]at this;cases this
    have hN':NC P r ops G (x :: (l1++l2)) e γ D:=NC.front hind (by rw [hsplit]at hN;exact hN)
    obtain⟨hpre,hnext⟩:=hN';have hgo:∀ b m' L' a' w',FC n ds (fA γ (x.2.1,x.2.2 e) b) m' a'->bB ((List.range q).map (eJ D (x.2.1,x.2.2 e) b)) m' L'->St β m' L' w'->wpAnyIn (fw r) 0 P .any ops Q AA (listed.setIfInBounds x.1 true) a' w':=fun b m' L' a' w' hF' hL' hS'=>by
     refine ih (l1++l2) _ _ _ _ m' L' a' w' (hnext b) hF' hL' hS' (fun y hy=>hrem y (by rw [hsplit];rcases a0P.1 hy with h | h <;> simp [h])) ?_ (fun k ok hok hl e he hb=>?_) (fun j hj=>?_) (fun j hj=>?_) (by simpa using hls) (by rw [hsplit]at hf;simp at hf ⊢;omega)
     ·rw [hsplit]at hsrt;exact hsrt.sublist (List.Sublist.append (List.Sublist.refl _) (List.sublist_cons_self _ _))
     ·rw [jL (by omega)]at hl ⊢;split
      ·rfl
      ·by_cases hki:x.1=k
       ·subst hki;rw [ho]at hok;cases hok;exact hdep e he hb
       ·rw [a1G hki]at hl;exact hcl k ok hok hl e he hb
     ·rw [jL (by omega)];by_cases hji:x.1=j
      ·subst hji;rw [a1H rfl];constructor
       ·intro h;cases h
       ·rintro⟨y,hy,hye⟩
        exfalso
        rw [hsplit,a1c,a1d]at hsrt;rcases a0P.1 hy with h | h
        ·have:=hl1 y h;omega
        ·have:=hsrt.2.1.1 y h;omega
      ·rw [a1G hji,h1 j hj,hsplit];constructor
       ·rintro⟨y,hy,hye⟩
        rcases a0P.1 hy with h | h
        ·exact⟨y,a0Q _ h,hye⟩
        ·rcases a0S.1 h with rfl | h
         ·exact absurd hye hji
         ·exact⟨y,a0R _ h,hye⟩
       ·rintro⟨y,hy,hye⟩
        exact⟨y,by rcases a0P.1 hy with h | h <;> simp [h],hye⟩
     ·rw [jL (by omega),a1G (by omega)];exact h2 j hj
    obtain⟨hdn,hlt,hw3⟩:=hxr.2.2 e;unfold wpOpIn;simp only [ho];rw [<- hxo];obtain⟨i,o',odf⟩:=x;dsimp only at hpre hgo hlt hw3 hdn ⊢
    generalize odf e=od at hpre hgo hlt hw3
    cases od with
    | skip=>
     rw [a1G (by rw [aDq hF hpre];simp)];exact⟨fun _ _=>trivial,hgo default m L _ w (hF.put hdn rfl) hL hS⟩
    | op ps wr φ Δo=>
     obtain⟨p1,p2,p3⟩:=hpre;rw [a1H (aBM hF p1)];simp only [OD.ps]at hlt hw3;obtain⟨rest,hperm,hrest⟩:=aFb (D:=D) hw3 hlt;obtain⟨L1,hp1,hL1⟩:=bB.perm (hperm.map D) hL;rw [a0N]at hL1;obtain⟨A,B,rfl,hA,hB⟩:=hL1.split;refine p2 β n ds m A B a w _ Q ⟨hF.size,hF.Aa,fun t φ ht=>?_⟩ hA (hS.perm hp1) fun b m' L' v w' hle hφ hL' hS'=>?_
     ·split at ht
      ·exact hF.get t φ ht
      ·cases ht
     ·have hB':=hB.mono hle;have htok:=hL'.append hB';have hperm2:((List.range q).map (eJ D (o', .op ps wr φ Δo) b)).Perm ((if (OD.op ps wr φ Δo).wr then Δo b else ps.map D)++rest.map D):=by
       cases wr with
       | false=>simp only [eJ,OD.wr];simpa using hperm.map D
       | true=>
        simp only [eJ,OD.wr,if_true];rw [<- net_put (D:=D) hw3 (p3 b) hrest];exact hperm.map _
      obtain⟨L2,hp2,hL2⟩:=bB.perm hperm2.symm htok;exact hgo b m' L2 _ w' ((hF.mono hle).put hdn hφ) hL2 (hS'.perm hp2)
end
open Go.SX
def jQ:Tk:=⟨fun _ H=>H=[],fun _ h=>h⟩
def dOf (Δ:List Tk):Nat->Tk:=fun p=>(Δ[p]?).getD jQ
def indB (ops:Array Oper) (x:Oper) (ux:List Nat × Bool) (y:Oper) (uy:List Nat × Bool):Bool:=
 (match x.dst with
  | some d=>!(y.looksAt ops).contains d && y.dst != some d
  | none=>true) &&
 (match y.dst with
  | some d=>!(x.looksAt ops).contains d
  | none=>true) && (!(ux.2 || uy.2) || ux.1.all fun p=>!uy.1.contains p)
abbrev Us:=List Nat × Bool × List Nat
def netB (ops:Array Oper) (h:Nat) (us:List Us):Bool:=
 (List.range ops.size).all fun i=>match ops[i]? with
  | none=>false
  | some o=>(o.after.all fun e=>!Region.binds .any e || Nat.blt e.on i) &&
   (List.range i).all fun j=>match ops[j]? with
    | none=>false
    | some oj=>if i<h then(match us[i]?,us[j]? with
     | some ui,some uj=>(indB ops oj (uj.1,uj.2.1) o (ui.1,ui.2.1) && !ui.2.2.contains j && !uj.2.2.contains i) || eP ops ops.size i j
     | _,_=>false) else eP ops ops.size i j
def Fits (od:Env'->OD) (u:Us):Prop:=(∀ e,(od e).ps=u.1/\(od e).wr=u.2.1)/\∀ (e:Env') j b,j ∉ u.2.2->od (e.set j b)=od e
def cS:List (Env'->OD)->List Us->Prop
 | [],us=>us=[]
 | od :: ods,us=>∃ u r,us=u :: r/\Fits od u/\cS ods r
theorem cS.nil:cS [] []:=by simp [cS]
theorem cS.cons {od:Env'->OD} {u:Us} {ods:List (Env'->OD)} {us:List Us} (h:Fits od u) (k:cS ods us):cS (od :: ods) (u :: us):=⟨u,us,by simp,h,k⟩
theorem cS.get:∀ {ods:List (Env'->OD)} {us:List Us},cS ods us->∀ {i:Nat} {od:Env'->OD},ods[i]? =some od->∃ u,us[i]? =some u/\Fits od u
 | od :: _,_,⟨u,r,e,h1,h2⟩,0,_,h=>by grind
 | _ :: _,_,⟨u,r,e,h1,h2⟩,i+1,_,h=>by
  obtain⟨u',h3,h4⟩:=cS.get h2 (i:=i) (by simpa using h)
  grind
theorem fits0 {od:OD} {ps:List Nat} {wr:Bool} (h1:od.ps=ps) (h2:od.wr=wr):Fits (fun _=>od) (ps,wr,[]):=by grind [Fits]
theorem fits1 {od:Oc->OD} {ps:List Nat} {wr:Bool} {i:Nat} (h1:∀ a,(od a).ps=ps/\(od a).wr=wr):Fits (fun e=>od (e i)) (ps,wr,[i]):=
 (by grind [wG,Fits])
theorem fits2 {od:Oc->Oc->OD} {ps:List Nat} {wr:Bool} {i k:Nat} (h1:∀ a b,(od a b).ps=ps/\(od a b).wr=wr):Fits (fun e=>od (e i) (e k)) (ps,wr,[i,k]):=
 (by grind [wG,Fits])
theorem fits3 {od:Oc->Oc->Oc->OD} {ps:List Nat} {wr:Bool} {i k l:Nat} (h1:∀ a b c,(od a b c).ps=ps/\(od a b c).wr=wr):Fits (fun e=>od (e i) (e k) (e l)) (ps,wr,[i,k,l]):=
 ⟨fun e=>h1 _ _ _,(by grind [wG])⟩
theorem ind_of {ops:Array Oper} {x y:Oper × OD} (h:indB ops x.1 (x.2.ps,x.2.wr) y.1 (y.2.ps,y.2.wr)=true):Ind ops x y:=by
 unfold indB at h
 simp only [a0f]at h
 obtain⟨⟨h1,h2⟩,h3⟩:=h
 refine⟨fun d hd=>?_,fun d hd=>?_,fun d hd=>?_,fun hw p hp=>?_⟩
 ·grind
 ·grind
 ·grind
 grind
theorem aH2 {ops:Array Oper} {h:Nat} {ods:List (Env'->OD)} {us:List Us} (hu:cS ods us) (hB:netB ops h us=true):aBc ops h ods:=by
 have key:∀ (i:Nat) (o:Oper),ops[i]? =some o->(o.after.all fun e=>!Region.binds .any e || Nat.blt e.on i)=true/\∀ (j:Nat) (oj:Oper),ops[j]? =some oj->j<i ->
  (if i<h then(match us[i]?,us[j]? with
   | some ui,some uj=>(indB ops oj (uj.1,uj.2.1) o (ui.1,ui.2.1) && !ui.2.2.contains j && !uj.2.2.contains i) || eP ops ops.size i j
   | _,_=>false) else eP ops ops.size i j)=true:=fun i o ho=>by
  have hlt:=(a0b.1 ho).1;have:=a0o.1 hB i (List.mem_range.2 hlt)
  grind
 refine⟨fun i o ho e he hb=>?_,fun i j oi oj hi hj hih hji=>?_,fun i j oi oj x y hi hj hih hji hx hy=>?_⟩
 ·have h2:=Array.all_eq_true'.1 (key i o ho).1 e he;rw [hb]at h2;simp only [a0i,Bool.false_or]at h2;simp only [Nat.blt,Nat.ble_eq]at h2;omega
 ·grind
 ·have h2:=(key i oi hi).2 j oj hj hji;rw [a1H hih]at h2;obtain⟨ui,h3,h5⟩:=hu.get hx;obtain⟨uj,h4,h6⟩:=hu.get hy;rw [h3,h4]at h2;simp only [a0j,a0f,Bool.not_eq_true']at h2;refine h2.imp (fun h=>⟨by omega,fun e b=>h6.2 e _ b ?_,fun e b=>h5.2 e _ b ?_,fun e=>ind_of ?_⟩) id
  ·grind
  ·grind
  ·have e1:=h5.1 e;have e2:=h6.1 e
   grind
section
variable {P:Program} {r:Option Nat} {ops:Array Oper} {β:bA} {n:Nat} {ds:List Deferred} {Γ:Ctx} {Δ:List Tk} {o:Oper} {l:List NO} {e:Env'} {i:Nat} {od:Env'->OD} {G:Env'->Cf->(Nat->Tk)->Prop} {Q:Exit->Act->World->Prop} {tail:List Oper}
theorem zL {Δ:List Tk}:(List.range Δ.length).map (dOf Δ)=Δ:=by
 apply a0v
 intro i
 rw [a0D]
 grind [dOf]
def NG (P:Program) (r:Option Nat) (ops:Array Oper) (β:bA) (n:Nat) (ds:List Deferred) (Q:Exit->Act->World->Prop) (tail:List Oper) (q:Nat) (_:Env') (γ:Cf) (D:Nat->Tk):Prop:=
 ∃ Γ Δ,γ=lk Γ/\D=dOf Δ/\Δ.length=q/\T β n ds Γ Δ (wpListIn (fw r) 0 P ops Q tail)
theorem N_done {q:Nat} (hq:Δ.length=q) (h:T β n ds Γ Δ (wpListIn (fw r) 0 P ops Q tail)):NC P r ops (NG P r ops β n ds Q tail q) [] e (lk Γ) (dOf Δ):=⟨Γ,Δ,rfl,rfl,hq,h⟩
theorem emps {m:Mem}:∀ k:Nat,bB (List.replicate k jQ) m []
 | 0=>rfl
 | k+1=>⟨[],[],rfl,rfl,emps k⟩
def wfU (n q:Nat) (x:Oper × Us):Bool:=(match x.1.dst with | some t=>Nat.ble (t+1) n | none=>true) && x.2.1.all (fun p=>Nat.ble (p+1) q) && decide x.2.1.Nodup
def gL:Nat->List Oper->List (Env'->OD)->List NO
 | i,o :: l,od :: ods=>(i,o,od) :: gL (i+1) l ods
 | _,_,_=>[]
theorem zK:∀ {l:List Oper} {ods:List (Env'->OD)} {k:Nat} {x:NO},x∈gL k l ods->∃ j,x.1=k+j/\l[j]? =some x.2.1/\ods[j]? =some x.2.2
 | [],_,_,_,h=>by simp [gL]at h
 | _ :: _,[],_,_,h=>by simp [gL]at h
 | o :: l,od :: ods,k,x,h=>by
  rcases a0S.1 h with rfl | h
  ·grind
  ·obtain⟨j,h1,h2,h3⟩:=zK h;exact⟨j+1,by omega,by simpa using h2,by simpa using h3⟩
theorem aBp:∀ {l:List Oper} {ods:List (Env'->OD)} {k:Nat},(gL k l ods).Pairwise fun x y=>x.1<y.1
 | [],_,_=>by simp [gL]
 | _ :: _,[],_=>by simp [gL]
 | o :: l,od :: ods,k=>by
  refine a1d.2 ⟨fun y hy=>?_,aBp⟩
  grind [zK]
theorem aCw:∀ {l:List Oper} {ods:List (Env'->OD)} {k j:Nat},l.length=ods.length->j<l.length->∃ x∈gL k l ods,x.1=k+j
 | o :: l,od :: ods,k,0,_,_=>⟨_, .head _,rfl⟩
 | o :: l,od :: ods,k,j+1,hl,h=>by
  obtain⟨x,h1,h2⟩:=aCw (l:=l) (ods:=ods) (k:=k+1) (j:=j) (by simpa using hl) (by simpa using h)
  exact⟨x, .tail _ h1,by omega⟩
theorem aCs:∀ {l:List Oper} {ods:List (Env'->OD)} {k:Nat},l.length=ods.length->(gL k l ods).length=l.length
 | [],_,_,_=>by simp [gL]
 | o :: l,[],_,h=>by simp at h
 | o :: l,od :: ods,k,h=>by simp [gL,aCs (l:=l) (ods:=ods) (k:=k+1) (by simpa using h)]
def env0:Env':=fun _=>default
theorem T_net {id:Nat} {lo:List Oper} (h:Nat) (ods:List (Env'->OD)) (us:List Us) (k q:Nat) (hm:P.follows .mixedOrders=true) (hu:cS ods us) (hB:netB lo.toArray h us=true) (hle:(lo.take h).length=h) (hol:ods.length=h)
 (hwf:((lo.take h).zip us).all (wfU n q)=true) (hq:(Δ++List.replicate k jQ).length=q)
 (hn:NC P r lo.toArray (NG P r lo.toArray β n ds Q (lo.drop h) q) (gL 0 (lo.take h) ods) env0 (lk Γ) (dOf (Δ++List.replicate k jQ))):T β n ds Γ Δ ((Code.region id lo.toArray true).wpIn (fw r) 0 P Q):=fun m L a w x y z=>by
 refine wpIn_region_any hm ?_
 have hz:∀ i:Nat,(Array.replicate lo.toArray.size false).getD i false=false:=fun i=>by
  simp_all [Array.getD]
 have hlo:lo.toArray=(lo.take h++lo.drop h).toArray:=by grind
 have hlen:(lo.take h).length=ods.length:=by rw [hle,hol]
 refine net_run (head:=lo.take h) (tail:=lo.drop h) (ods:=ods) (q:=q) hlo hlen.symm (by grind [aH2]) (fun e γ D m L a w hG hF hL hS=>?_) lo.toArray.size (gL 0 (lo.take h) ods) _ env0 (lk Γ) (dOf (Δ++List.replicate k jQ)) m L a _ hn
  ⟨x.size,x.Aa,x.get⟩ ?_ z.drawn (fun x hx=>?_) aBp (fun i o _ h=>?_) (fun i hi=>?_) (fun i _=>hz i) (by simp) ?_
 ·obtain⟨Γ',Δ',rfl,rfl,hq',h⟩:=hG;refine h m L a w ⟨hF.size,hF.Aa,hF.get⟩ ?_ hS
  grind [zL]
 ·rw [<- hq,zL];have:=y.append (emps k)
  grind
 ·obtain⟨j,h1,h2,h3⟩:=zK hx;rw [a1q]at h1;rw [h1];refine⟨h2,h3,fun e=>?_⟩
  obtain⟨u,h4,h5⟩:=hu.get h3;have h6:=a0o.1 hwf (x.2.1,u) (a0X (List.getElem?_zip_eq_some.2 ⟨h2,h4⟩));simp only [wfU,a0f,decide_eq_true_eq]at h6;have h7:=h5.1 e;refine⟨fun t ht=>?_,fun p hp=>?_,by rw [h7.1];exact h6.2⟩
  ·have:=h6.1.1;rw [ht]at this;exact a1k this
  ·rw [h7.1]at hp;exact a1k (a0o.1 h6.1.2 p hp)
 ·rw [hz i]at h;cases h
 ·refine⟨fun _=>?_,fun _=>hz i⟩
  obtain⟨x,h1,h2⟩:=aCw (l:=lo.take h) (ods:=ods) (k:=0) (j:=i) hlen hi
  grind
 ·rw [aCs hlen]
  grind
theorem nB {m:Mem} {a:Act} (hF:FC n ds (fun t=>if t∈o.op.operands.toList.filterMap (fun | .tmp t=>some t | _=>none)then lk Γ t else none) m a):Evs Γ m a o:=fun x hx ψ hψ=>by
 cases x with
 | tmp t=>
  have hin:t∈o.op.operands.toList.filterMap (fun | .tmp t=>some t | _=>none):=List.mem_filterMap.2 ⟨.tmp t,by simpa using hx,rfl⟩
  obtain⟨v,h1,h2⟩:=hF.get t ψ (by rw [a1H hin];exact hψ)
  simp_all [Act.eval]
 | const u=>simp only [evT,a1z]at hψ;subst hψ;rfl
 | global g=>simp only [evT,a1z]at hψ;subst hψ;rfl
 | func f=>simp only [evT,a1z]at hψ;subst hψ;rfl
theorem Stp_of {φ:AF} {Δr:List Tk} {f:Oc->List Tk} (h:OpT P Γ Δr o φ) (hf:∀ b,f b=Δr):Stp P r (lk Γ) o Δr (fun _=>φ) f:=fun β n ds m L R a w K Q hF hL hS hk=>by
 obtain⟨v,h2,h3⟩:=h.run β m L a w (nB hF) (by grind [St.drop]) hL
 have h1:o.semAt (fw r).round a.eval=execOp a.eval o:=Oper.semAt_eq _ _ _ fun c hc=>by have:=h.nd;rw [hc]at this;cases this
 refine⟨fun _ _=>a1I,?_⟩
 rw [h1,h2,Oper.uponIn_value]
 exact hk default m L v w (Mem.le_refl _) h3 (by rw [hf];exact hL) hS
theorem N_op {d:Nat} {ps:List Nat} {Δr:List Tk} {φ:AF} {f:Oc->List Tk} (hod:od e= .op ps false (fun _=>φ) f) (hfl:∀ b,(f b).length=ps.length) (hw:bX ops Γ o) (hp:ps.map (dOf Δ)=Δr) (hd:o.dst=some d) (h:OpT P Γ Δr o φ)
 (k:∀ b,NC P r ops G l (e.set i b) (lk ((d,φ) :: Γ)) (dOf Δ)):NC P r ops G ((i,o,od) :: l) e (lk Γ) (dOf Δ):=by
 refine⟨?_,fun b=>?_⟩
 ·simp only [hod];exact⟨hw,by grind [OD.wr,Stp_of],hfl⟩
 ·simp only [hod,fA,eJ,hd];exact k b
theorem N_y {d:Nat} {φ:AF} {f:Oc->List Tk} (hod:od e= .op [] false (fun _=>φ) f) (hfl:∀ b,(f b).length=0) (hw:bX ops Γ o) (hd:o.dst=some d) (h:OpT P Γ [] o φ) (k:∀ b,NC P r ops G l (e.set i b) (lk ((d,φ) :: Γ)) (dOf Δ)):
 NC P r ops G ((i,o,od) :: l) e (lk Γ) (dOf Δ):=by grind [N_op]
theorem N_skip {d:Nat} (hod:od e= .skip) (hw:tH ops Γ o) (hd:o.dst=some d) (k:∀ b,NC P r ops G l (e.set i b) (lk ((d,fEq undef) :: Γ)) (dOf Δ)):NC P r ops G ((i,o,od) :: l) e (lk Γ) (dOf Δ):=by
 refine⟨?_,fun b=>?_⟩
 ·simp only [hod];exact hw
 ·simp only [hod,fA,eJ,hd];exact k b
theorem aAI {p:Nat} {τ:Tk} (hp:p<Δ.length):jY (dOf Δ) [p] [τ]=dOf (Δ.set p τ):=by
 funext q
 simp only [jY,dOf,List.zip_cons_cons,List.zip_nil_left,List.lookup_cons,List.lookup_nil,a0E]
 grind
theorem aES:jY (dOf Δ) [] []=dOf Δ:=by funext q;simp [jY]
theorem N_new {p d:Nat} {f:Nat->Value} {τ:Nat->Tk} {φ':Oc->AF} {Δ':Oc->List Tk} (hod:od e= .op [p] true φ' Δ') (hφ:∀ b,φ' b=fEq (f b.n)) (hτ:∀ b,Δ' b=[τ b.n]) (hw:bX ops Γ o) (hp:Δ[p]? =some jQ) (hd:o.dst=some d) (h:OpN P Γ o f τ)
 (k:∀ b u,NC P r ops G l (e.set i ⟨b,u⟩) (lk ((d,fEq (f b)) :: Γ)) (dOf (Δ.set p (τ b)))):NC P r ops G ((i,o,od) :: l) e (lk Γ) (dOf Δ):=by
 refine⟨?_,fun b=>?_⟩
 ·simp only [hod];refine⟨hw,?_,fun b=>by rw [hτ];rfl⟩
  intro β n ds m L R a w K Q hF hL hS hk;have hL0:L=[]:=by
   obtain⟨H,R',rfl,h1,h2⟩:=hL;simp only [dOf,hp,a1t]at h1;have h1:H=[]:=h1;have h2:R'=[]:=h2;rw [h1,h2];rfl
  subst hL0;obtain⟨x,h2,h3⟩:=h.run β m a w (nB hF) (hS.drop (List.nil_sublist _));have h1:o.semAt (fw r).round a.eval=execOp a.eval o:=Oper.semAt_eq _ _ _ fun c hc=>by have:=h.nd;rw [hc]at this;cases this
  refine⟨fun _ _=>a1I,?_⟩
  rw [h1,h2,Oper.uponIn_value];exact hk ⟨w.heap.size,undef⟩ m [(w.heap.size,x)] _ _ (Mem.le_refl _) (by rw [hφ];rfl) (by simp only [OD.wr,if_true];rw [hτ];exact⟨[_],[],rfl,h3,rfl⟩) (hS.alloc x)
 ·have hlt:=(a0C.1 hp).1;simp only [hod,fA,eJ,if_true,hd,hφ,hτ];rw [aAI hlt];exact k b.n b.v
theorem N_newF {d:Nat} {f:Nat->Value} {τ:Nat->Tk} {φ:AF} {Δ':Oc->List Tk} (hod:od e= .op [] true (fun _=>φ) Δ') (hτ:∀ b,Δ' b=[]) (hw:bX ops Γ o) (hd:o.dst=some d) (h:OpN P Γ o f τ) (hz:∀ b,Frz (τ b) φ (f b))
 (k:∀ b,NC P r ops G l (e.set i b) (lk ((d,φ) :: Γ)) (dOf Δ)):NC P r ops G ((i,o,od) :: l) e (lk Γ) (dOf Δ):=by
 refine⟨?_,fun b=>?_⟩
 ·simp only [hod];refine⟨hw,?_,fun b=>by rw [hτ];rfl⟩
  intro β n ds m L R a w K Q hF hL hS hk;have hL0:L=[]:=hL;subst hL0;obtain⟨x,h2,h3⟩:=h.run β m a w (nB hF) (by grind [St.drop])
  have h1:o.semAt (fw r).round a.eval=execOp a.eval o:=Oper.semAt_eq _ _ _ fun c hc=>by have:=h.nd;rw [hc]at this;cases this
  refine⟨fun _ _=>a1I,?_⟩
  rw [h1,h2,Oper.uponIn_value];obtain⟨m',g1,g2,g3⟩:=zC (H:=[(w.heap.size,x)]) (R:=R) (by simpa using hS.alloc x)
  exact hk default m' [] _ _ g1 (hz _ m _ h3 m' g1 g3) (by grind [bB]) g2
 ·simp only [hod,fA,eJ,if_true,hd,hτ];rw [aES];exact k b
theorem aM.all' {m:Mem} {a:Act} (he:Evs Γ m a o):∀ {xs:List Operand} {φs:List AF},aM Γ xs φs->(∀ x∈xs,x∈o.op.operands)->aU φs m (xs.map a.eval)
 | [],_,h,_=>by rw [h];rfl
 | x :: xs,_,⟨φ,r,e,h1,h2⟩,hm=>by rw [e];exact⟨_,_,rfl,he.get h1 (hm x (.head _)),aM.all' he h2 fun y hy=>hm y (.tail _ hy)⟩
theorem N_call {g:Operand} {args:List Operand} {ts:Array TypeId} {f:FuncId} {first captured:Array Value} {φs ψs:List AF} {Φ:AF} {d:Nat} {Δ':Oc->List Tk} (hod:od e= .op [] true (fun _=>Φ) Δ') (hτ:∀ b,Δ' b=[]) (hw:bX ops Γ o) (ho:o.op= .call { callee:= .value g,args:=args.toArray,argTypes:=ts }) (hd:o.dst=some d)
 (hg:Has Γ g (fEq (.func (.func f) first captured))) (hargs:aM Γ args φs) (hall:first.toList.map fEq++φs++captured.toList.map fEq=ψs) (hf:Af P f) (hc:FnS P f ψs [] Φ (fun _=>[]))
 (k:∀ b,NC P r ops G l (e.set i b) (lk ((d,Φ) :: Γ)) (dOf Δ)):NC P r ops G ((i,o,od) :: l) e (lk Γ) (dOf Δ):=by
 refine⟨?_,fun b=>?_⟩
 ·simp only [hod];refine⟨hw,?_,fun b=>by rw [hτ];rfl⟩
  intro β n ds m L R a w K Q hF hL hS hk;have hL0:L=[]:=hL;subst hL0;have he:=nB hF;have hge:a.eval g=_:=he.get hg (by rw [ho];simp [Op.operands,Call.operands])
  have hall':aU ψs m (first.toList++args.map a.eval++captured.toList):=hall ▸ (((iW _).append (hargs.all' he (by rw [ho];intro x hx;simp [Op.operands,Call.operands,hx]))).append (iW _))
  refine lW (L:=[]) ho hge rfl hf (hc m [] _ hall' rfl) hS (fun m' L' v w' hle ⟨u,hv,h3,h4⟩ hS'=>?_) (by grind) (by grind)
  cases hv;have h4:L'=[]:=h4;subst h4;exact hk default m' [] v w' hle h3 (by grind) hS'
 ·simp only [hod,fA,eJ,if_true,hd,hτ];rw [aES];exact k b
end
open Go.SX
section
variable {P:Program} {β:bA} {n:Nat} {ds:List Deferred} {Γ:Ctx} {Δ:List Tk} {r:Option Nat} {Q Q':Exit->Act->World->Prop} {F:Act->World->Prop} {ops:Array Oper} {o:Oper} {rest:List Oper} {l:List NO} {e:Env'} {i:Nat} {od:Env'->OD} {G:Env'->Cf->(Nat->Tk)->Prop}
def aX {α:Type} (Γ:Ctx) (t:Ty α):Nat->List (Nat × Operand)->List α->Prop
 | _,[],xs=>xs=[]
 | k,(i,x) :: ps,xs=>∃ φ y r,xs=y :: r/\i=k/\Has Γ x φ/\pK φ (t.AY y)/\aX Γ t (k+1) ps r
theorem aX.nil {α:Type} {t:Ty α} {k:Nat}:aX Γ t k [] []:=by simp [aX]
theorem aX.cons {α:Type} {t:Ty α} {k i:Nat} {x:Operand} {φ:AF} {y:α} {ps:List (Nat × Operand)} {ys:List α} (hi:i=k) (h:Has Γ x φ) (hp:pK φ (t.AY y)) (kk:aX Γ t (k+1) ps ys):aX Γ t k ((i,x) :: ps) (y :: ys):=⟨φ,y,ys,rfl,hi,h,hp,kk⟩
def wC {α:Type} (t:Ty α):Nat->List α->List (Nat × List AF)
 | _,[]=>[]
 | k,y :: ys=>(k,t.AY y) :: wC t (k+1) ys
theorem aX.parts {α:Type} {t:Ty α}:∀ {ps:List (Nat × Operand)} {k:Nat} {ys:List α},aX Γ t k ps ys->bE Γ ps (wC t k ys)
 | [],_,_,h=>by rw [h];rfl
 | (i,x) :: ps,k,_,⟨φ,y,r,e,hi,h1,h2,h3⟩=>by rw [e,hi];exact⟨φ,_,_,rfl,h1,h2,aX.parts h3⟩
theorem aDH {α:Type} {t:Ty α}:∀ (ys:List α) (k:Nat) (A B:List AF),A.length=k*t.sz->B.length=ys.length*t.sz->nV t.sz (A++B) (wC t k ys)=some (A++ys.flatMap t.AY)
 | [],k,A,B,_,hB=>by
  have:B=[]:=by simp_all
  grind [nV,wC]
 | y :: ys,k,A,B,hA,hB=>by
  simp only [a0J,a1h,Nat.one_mul]at hB;simp only [wC,nV];rw [a1H ⟨t.len y,by grind⟩];have h1:(A++B).take (k*t.sz)=A:=by grind
  have h2:(A++B).drop (k*t.sz+t.sz)=B.drop t.sz:=aFR hA;rw [h1,h2,aDH ys (k+1) (A++t.AY y) (B.drop t.sz) (by grind [Ty.len]) (by grind)];simp
theorem cE {α:Type} {t:Ty α} {xs:List α} {T e by' len:Nat} {parts:List (Nat × Operand)} (ho:o.op= .buildSlice T len parts.toArray) (hT:ElT P T e t.sz by') (hp:aX Γ t 0 parts xs) (hn:xs.length=len) (hs:Nat.ble (len*t.sz) 16777216=true) (hB:Nat.ble len 1000000000=true):
 OpN P Γ o (fun b=> .slice (some ⟨b,0,none⟩) len len) (fun b=>aB (.slice (some ⟨b,0,none⟩) len len) e t xs):=
 aF4 ho hT hp.parts (by
  have:=aDH (t:=t) xs 0 [] (List.replicate (len*t.sz) jK) (by simp) (by rw [List.length_replicate,hn])
  simpa using this) hn hs hB
theorem wS {T T':TypeId} {x y:Operand} {b k p sz:Nat} {φs φs' ψs:List AF} {φ0:Oc->AF} {Δ':Oc->List Tk} (hod:od e= .op [p] true φ0 Δ') (h0:∀ c,φ0 c=jK) (hτ:∀ c,Δ' c=[aA b T' φs']) (hw:bX ops Γ o) (ho:o.op= .store T x y) (hd:o.dst=none) (hp:Δ[p]? =some (aA b T' φs)) (hx:Has Γ x (fEq (.pointer (some ⟨b,k,none⟩)))) (hy:Has Γ y (dW ψs)) (hl:∀ φ∈ψs,eU φ)
 (hT:jJ P T sz) (hz:ψs.length=sz) (hk:Nat.ble (k+sz) φs.length=true) (hs:φs.take k++ψs++φs.drop (k+sz)=φs') (kk:∀ c,NC P r ops G l (e.set i c) (lk Γ) (dOf (Δ.set p (aA b T' φs')))):NC P r ops G ((i,o,od) :: l) e (lk Γ) (dOf Δ):=by
 refine⟨?_,fun b'=>?_⟩
 ·simp only [hod];refine⟨hw,?_,fun b=>by rw [hτ];rfl⟩
  intro β n ds m L R a w K Q hF hL hS hkk;simp only [a0O,List.map_nil,dOf,hp,a1t]at hL;obtain⟨cs,R',hLe,h1,h2⟩:=tA hL;have h2:R'=[]:=h2;subst h2;subst hLe;have he:=nB hF;have hle:k+sz<=cs.length:=by rw [h1.length];exact a1k hk
  obtain⟨vs,hv,hvs⟩:=he.get hy (by rw [ho];simp [Op.operands])
  have hxe:a.eval x=_:=he.get hx (by rw [ho];simp [Op.operands])
  have hnd:iH o.op=false:=by rw [ho];rfl
  have h3:o.semAt (fw r).round a.eval=execOp a.eval o:=Oper.semAt_eq _ _ _ fun c hc=>by rw [hc]at hnd;cases hnd
  refine⟨fun _ _=>a1I,?_⟩
  unfold jJ oI at hT;simp only [a1v]at hT;obtain⟨i,hi,h4⟩:=hT;have hk0:([(b,Obj.cells cs.toArray T' (0,0))]++R)[0]? =some (b, .cells cs.toArray T' (0,0)):=rfl;have hlen:vs.length=sz:=by rw [hvs.length,hz]
  obtain⟨w',hr,hSt⟩:=zJ (P:=P) (T:=T') vs k cs.toArray _ w hS hk0 (hvs.cells hl) (by simp;omega)
  have hr':(storeCells ⟨b,k,none⟩ vs).run P w= .ok () w':=by
   rw [<- hr];exact congrArg (fun s:Sem Unit=>s.run P w) (bT.shift vs 0 k)
  have e:(execOp a.eval o).run P w= .ok .skip w':=by
   simp [execOp,ho,hxe,hv,Instr.storeAt,Instr.sureAddr,storeVar,run_sizeOf hi,h4,Value.cells,hlen,hr',a1B,Sem.run,pure]
  rw [h3,e,Oper.uponIn_skip];exact hkk default m [(b, .cells (cs.take k++vs++cs.drop (k+sz)).toArray T' (0,0))] undef _ (Mem.le_refl _) (by rw [h0];trivial) (by simp only [OD.wr,if_true];rw [hτ];exact⟨[_],[],rfl,⟨_,hs ▸ ((h1.take k).append hvs).append (h1.drop (k+sz)),rfl⟩,rfl⟩) (by simpa [hlen] using hSt)
 ·have hlt:=(a0C.1 hp).1;simp only [hod,fA,eJ,if_true,hτ];rw [aAI hlt,hd];exact kk b'
def tEx (f:Value->List Tk):Tk:=⟨fun m H=>∃ v,bB (f v) m H,(by grind [bB.mono])⟩
theorem sG {f:Value->List Tk} (h:∀ v,T β n ds Γ (f v++Δ) F):T β n ds Γ (tEx f :: Δ) F:=fun m L a w x ⟨H,R,e,⟨v,h1⟩,h2⟩ z=>h v m L a w x (e ▸ h1.append h2) z
theorem sK {f:Value->List Tk} (v:Value) (h:T β n ds Γ (tEx f :: Δ) F):T β n ds Γ (f v++Δ) F:=fun m L a w x y z=>by
 obtain⟨A,B,e,h1,h2⟩:=y.split
 exact h m L a w x ⟨A,B,e,⟨v,h1⟩,h2⟩ z
def tOne (Δ:List Tk):Tk:=⟨fun m H=>bB Δ m H,fun h k=>k.mono h⟩
theorem aDK {Δ':List Tk} (h:T β n ds Γ (Δ'++Δ) F):T β n ds Γ (tOne Δ' :: Δ) F:=fun m L a w x ⟨H,R,e,h1,h2⟩ z=>h m L a w x (e ▸ bB.append h1 h2) z
theorem aEI {Δ':List Tk} (h:T β n ds Γ (tOne Δ' :: Δ) F):T β n ds Γ (Δ'++Δ) F:=fun m L a w x y z=>by
 obtain⟨A,B,e,h1,h2⟩:=y.split
 exact h m L a w x ⟨A,B,e,h1,h2⟩ z
theorem rV {b:Nat} {ty:TypeId} {φs ψs:List AF} (he:aG φs ψs) (h:T β n ds Γ (aA b ty ψs :: Δ) F):T β n ds Γ (aA b ty φs :: Δ) F:=fun m L a w x y z=>by
 obtain⟨H,R,e,⟨cs,h1,h2⟩,h3⟩:=y
 exact h m L a w x ⟨H,R,e,⟨cs,he.all h1,h2⟩,h3⟩ z
theorem iY {φ ψ χ:AF} {v:Value} (s:Nat) (hs:lk Γ s=some ψ) (hh:∀ m u,φ.p m v->ψ.p m u->χ.p m u) (k:T β n ds ((s,χ) :: Γ) (vB φ v :: Δ) F):T β n ds Γ (vB φ v :: Δ) F:=fun m L a w x y z=>by
 obtain⟨H,R,rfl,⟨rfl,h1⟩,h2⟩:=y
 refine k m _ a w ⟨x.size,x.Aa,fun t ψ' ht=>?_⟩ ⟨[],R,rfl,⟨rfl,h1⟩,h2⟩ z
 rcases pY ht with⟨rfl,rfl⟩ | ⟨_,ht⟩
 ·grind [FT.get]
 ·exact x.get t ψ' ht
theorem set_pure {φ:AF} {v:Value} {φs φs':List AF} {i:Nat} {m:Mem} {cs:List Value} (hi:φs[i]? =some (fEq v)) (hs:φs.set i φ=φs') (hv:φ.p m v) (h:aU φs m cs):aU φs' m cs:=by
 obtain⟨c,h5,h6⟩:=h.get hi
 cases h6
 have:=h.set (k:=i) hv
 rw [hs]at this
 have e:cs.set i v=cs:=by
  apply a0v;intro j;rw [a0E]
  split
  ·subst_vars;split
   ·exact h5.symm
   ·have:=(a0C.1 h5).1;omega
  ·rfl
 rwa [e]at this
theorem jV {φ:AF} {v:Value} {φs φs':List AF} {i:Nat} (hi:φs[i]? =some (fEq v)) (hs:φs.set i φ=φs'):∀ m u,φ.p m v->(dW φs).p m u->(dW φs').p m u:=fun m u hv hu=>by
 obtain⟨cs,h1,h2⟩:=hu
 exact⟨cs,h1,set_pure hi hs hv h2⟩
theorem leaf_row {α:Type} {t:Ty α} {v:Value} {e:TypeId} {xs:List α} {m:Mem} {H:AW} (h:(aB v e t xs).p m H):cO v:=by
 obtain⟨cs,h1,_⟩:=h
 exact h1.isCell
theorem aGM {α:Type} {t:Ty α} {v:Value} {e:TypeId} {xs:List α} (i:Nat) (hi:Δ[i]? =some (aB v e t xs)) (k:cO v->T β n ds Γ Δ F):T β n ds Γ Δ F:=fun m L a w x y z=>by
 obtain⟨Hs,hl,hf,hg⟩:=y.heaps
 have hlt:=(a0C.1 hi).1
 have:=hg i _ (Hs[i]'(by omega)) hi (by simp [hl,hlt])
 exact k (leaf_row this) m L a w x y z
theorem aBW {fn:Func} {Φ:AF} {Δ':List Tk} {t b sz:Nat} {ty ty':TypeId} {φs:List AF} (hr:fn.results=#[.cell t ty]) (hT:jA P ty sz) (hz:φs.length=sz) (hv:jS Γ t (fEq (ptr b))) (he:Ent (dW φs) Φ) (hd:Δ=aA b ty' φs :: Δ'):T β n [] Γ Δ (bodyPost P fn (eE β Φ (fun _=>Δ')) .ret):=fun m L a w hF hL hS=>by
 subst hd
 obtain⟨χ,h1,h2⟩:=hv
 obtain⟨v,h3,h4⟩:=hF.get t χ h1
 have h5:v=ptr b:=h2 m v h4
 subst h5
 obtain⟨cs,R,rfl,h6,h7⟩:=tA hL
 have hlen:cs.length=sz:=by rw [h6.length,hz]
 have hc:∀ (j:Nat) c,cs[j]? =some c->w.cell? (Addr.add ⟨b,0,none⟩ j)=some c:=fun j c hj=>by
  rw [tG];exact hS.own_cell (k:=0) (b:=b) (c:=cs.toArray) (T:=ty') (fz:=(0,0)) rfl rfl rfl (by simpa using hj)
 refine⟨hF.Aa, .agg cs.toArray,?_,m,R,(by grind [St.drop]), .agg cs.toArray,rfl,he m _ ⟨cs,rfl,h6⟩,h7⟩
 have h8:=SX.run_loadCellsFrom (P:=P) (w:=w) (p:=⟨b,0,none⟩) cs 0 #[] (fun j v hj=>by simpa using hc j v hj)
 have:(loadVar ty ⟨b,0,none⟩).run P w= .ok (.agg cs.toArray) w:=by
  rw [hlen]at h8;simp [loadVar,a1B,zG hT,aAM hT,loadCells,Sem.run,pure,h8]
 simp [results,hr,a0a,h3,a1B,Sem.run,pure,ptr,asAddr]
 rw [this]
 rfl
end
open Go.SX
def fJ (f:FuncId) (φs:List AF):AF:=⟨fun m v=>∃ cs:List Value,v= .func (.func f) #[] cs.toArray/\aU φs m cs,(by grind [aU.mono])⟩
section
variable {P:Program} {β:bA} {n:Nat} {ds:List Deferred} {Γ:Ctx} {Δ:List Tk} {r:Option Nat} {Q Q':Exit->Act->World->Prop} {F:Act->World->Prop} {ops:Array Oper} {o:Oper} {rest:List Oper} {l:List NO} {e:Env'} {i:Nat} {od:Env'->OD} {G:Env'->Cf->(Nat->Tk)->Prop}
theorem vG {f:FuncId} {captured:List Operand} {φs:List AF} (ho:o.op= .makeFunc (.func f) #[] captured.toArray) (hc:aM Γ captured φs):OpT P Γ [] o (fJ f φs):=
 dL (by rw [ho];rfl) fun β m a w he _=>by
  have h2:=hc.all' he (by grind [Op.operands])
  exact⟨.func (.func f) #[] (captured.map a.eval).toArray,by simp [execOp,ho,Instr.makeFunc,a1B,Sem.run,pure],_,rfl,h2⟩
theorem lK {g:Operand} {args:List Operand} {ts:Array TypeId} {f:FuncId} {χs φs ψs:List AF} {Δi Δr Δo:List Tk} {Φ:AF} {d:Option Nat} (hw:bX ops Γ o) (ho:o.op= .call { callee:= .value g,args:=args.toArray,argTypes:=ts }) (hd:o.dst=d)
 (hn:dstOk d n=true) (hg:Has Γ g (fJ f χs)) (hargs:aM Γ args φs) (hall:φs++χs=ψs) (hf:Af P f) (hc:FnS P f ψs Δi Φ (fun _=>Δo)) (hΔ:Δ=Δi++Δr)
 (k:T β n ds (putG d Φ Γ) (Δo++Δr) (wpListIn (fw r) 0 P ops Q rest)):T β n ds Γ Δ (wpListIn (fw r) 0 P ops Q (o :: rest)):=fun m L a w hF hL hS=>by
 subst hΔ hall
 obtain⟨A,B,rfl,h1,h2⟩:=hL.split
 obtain⟨cs,hge,hcs⟩:=hF.has hg
 simp only [wpListIn,hw.wanted hF,if_true]
 have hall:=(hargs.all hF).append hcs
 refine lW (first:=#[]) (captured:=cs.toArray) (vs:=args.map a.eval++cs) ho hge (by simp) hf (hc m A _ hall h1) hS (fun m' L' v w' hle ⟨u,he,h3,h4⟩ hS'=>?_) (by grind) (by grind)
 cases he
 refine k m' _ _ _ ?_ (h4.append (h2.mono hle)) hS'
 subst hd
 cases hdd:o.dst with
 | none=>exact hF.mono hle
 | some t=>rw [hdd]at hn;exact(hF.mono hle).put (a1k hn) h3
end
open Go.SX
def fNil {α:Type} (xs:List α):AF:=⟨fun _ v=>∃ b:Bool,v= .bool b/\(b=true->xs=[]),fun _ h=>h⟩
section
variable {P:Program} {β:bA} {n:Nat} {ds:List Deferred} {Γ:Ctx} {Δ:List Tk} {r:Option Nat} {Q:Exit->Act->World->Prop} {o:Oper}
theorem aHg {T e:TypeId} {a:Option Addr} {l c:Nat} (hT:pU P T (.slice e)) (d:Nat) (w:World):(Op.equalIn (d+1) T (.slice a l c) (.slice none 0 0)).run P w= .ok a.isNone w:=by
 have h:(underlying T).run P w= .ok (.slice e) w:=run_underlying hT w
 simp only [Op.equalIn,a1B,h,a1A]
 cases a <;> rfl
theorem aF9 {T e:TypeId} {a:Option Addr} {l c:Nat} (hT:pU P T (.slice e)) (w:World):(Op.equal T (.slice a l c) (.slice none 0 0)).run P w= .ok a.isNone w:=aHg hT 9999 w
theorem o_eqNil {α:Type} {t:Ty α} {T U e:TypeId} {x:Operand} {xs:List α} (ho:o.op= .binOp .eql T x (.const (.slice none 0 0)) U) (hx:Has Γ x (fSl t xs)) (hT:pU P T (.slice e)):OpT P Γ [] o (fNil xs):=
 dL (by rw [ho];rfl) fun β m a w he _=>by
  obtain⟨q,⟨b,cap,h1,_,hq⟩,_,h3⟩:=he.get hx (by rw [ho];simp [Op.operands])
  refine⟨.bool b.isNone,?_,b.isNone,rfl,fun hb=>?_⟩
  ·simp only [execOp,ho,h1];have h2:a.eval (.const (.slice none 0 0))= .slice none 0 0:=rfl;rw [h2,a1B,a1B];simp [eqGuard,binOp,a1B,aF9 hT,Sem.run,pure]
  ·cases hb':b with
   | some a=>rw [hb']at hb;cases hb
   | none=>
    cases xs with
    | nil=>rfl
    | cons y ys=>
     obtain⟨p,hp,_⟩:=hq 0 (Nat.succ_pos _);rw [hb']at hp;cases hp
theorem aH5 {α:Type} {xs:List α} {c:Operand} {x y:Code} (hc:Has Γ c (fNil xs)) (ht:xs=[]->T β n ds Γ Δ (x.wpIn (fw r) 0 P Q)) (hf:T β n ds Γ Δ (y.wpIn (fw r) 0 P Q)):
 T β n ds Γ Δ ((Code.cond c x y).wpIn (fw r) 0 P Q):=fun m L a w hF hL hS=>by
 obtain⟨b,h1,h2⟩:=hF.has hc
 exact wpIn_cond_split (t:=b) h1 (fun e=>ht (h2 e) m L a w hF hL hS) (fun e=>hf m L a w hF hL hS)
end
open Go.SX
def FnE (P:Program) (f:FuncId) (args:List AF) (Δ:List Tk) {α:Type} (r:α ⊕ Value) (Φ:α->AF) (Δ':α->List Tk):Prop:=
 match r with
 | .inl x=>FnS P f args Δ (Φ x) (fun _=>Δ' x)
 | .inr v=>FnP P f args Δ [{ v:=v,recovered:=false }]
def PostE (β:bA) {α:Type} (r:α ⊕ Value) (Φ:α->AF) (Δ':α->List Tk):Ending->World->Prop:=
 match r with
 | .inl x=>eE β (Φ x) (fun _=>Δ' x)
 | .inr v=>PostP β [{ v:=v,recovered:=false }]
section
variable {P:Program} {β:bA} {n:Nat} {ds:List Deferred} {Γ:Ctx} {Δ:List Tk} {r:Option Nat} {Q:Exit->Act->World->Prop} {ops:Array Oper} {o:Oper} {rest:List Oper}
theorem FnE.s {f:FuncId} {args:List AF} {α:Type} {x:α} {Φ:α->AF} {Δ':α->List Tk} (h:FnE P f args Δ (.inl x) Φ Δ'):FnS P f args Δ (Φ x) (fun _=>Δ' x):=h
theorem FnE.pan {f:FuncId} {args:List AF} {α:Type} {v:Value} {Φ:α->AF} {Δ':α->List Tk} (h:FnE P f args Δ (.inr v) Φ Δ'):FnP P f args Δ [{ v:=v,recovered:=false }]:=h
theorem iR {f:FuncId} {fn:Func} {c:Code} {N:Nat} {args:List AF} {α:Type} {y:α ⊕ Value} {Φ:α->AF} {Δ':α->List Tk} (hf:P.funcs[f]? =some fn) (hb:fn.body=some c) (hN:fn.ntmps=N) (hle:Nat.ble args.length N=true)
 (k:∀ β,T β N [] (lG args 0) Δ (c.wpIn (fw none) 0 P (bodyPost P fn (PostE β y Φ Δ')))):FnE P f args Δ y Φ Δ':=by
 cases y with
 | inl x=>exact bY hf hb hN hle k
 | inr v=>exact FnP_of hf hb hN hle k
theorem gP {fn:Func} {e:Exit} {α:Type} {x:α} {Φ:α->AF} {Δ':α->List Tk} (h:T β n [] Γ Δ (bodyPost P fn (eE β (Φ x) (fun _=>Δ' x)) e)):T β n [] Γ Δ (bodyPost P fn (PostE β (.inl x) Φ Δ') e):=h
theorem bC {fn:Func} {α:Type} {v:Value} {Φ:α->AF} {Δ':α->List Tk}:T β n [] Γ Δ (bodyPost P fn (PostE β (.inr v) Φ Δ') (.panic [{ v:=v,recovered:=false }])):=T_outP
theorem qT {g:Operand} {args:List Operand} {ts:Array TypeId} {f:FuncId} {χs φs ψs:List AF} {Δi Δr:List Tk} {c:List PanicEntry} (hw:bX ops Γ o) (ho:o.op= .call { callee:= .value g,args:=args.toArray,argTypes:=ts })
 (hg:Has Γ g (fJ f χs)) (hargs:aM Γ args φs) (hall:φs++χs=ψs) (hf:Af P f) (hc:FnP P f ψs Δi c) (hΔ:Δ=Δi++Δr)
 (k:T β n ds Γ Δr (Q (.panic c))):T β n ds Γ Δ (wpListIn (fw r) 0 P ops Q (o :: rest)):=fun m L a w hF hL hS=>by
 subst hΔ hall
 obtain⟨A,B,rfl,h1,h2⟩:=hL.split
 obtain⟨cs,hge,hcs⟩:=hF.has hg
 simp only [wpListIn,hw.wanted hF,if_true]
 have hall:=(hargs.all hF).append hcs
 refine lW (first:=#[]) (captured:=cs.toArray) (vs:=args.map a.eval++cs) ho hge (by simp) hf (hc m A _ hall h1) hS (by grind) (fun m' L' c' w' hle he hS'=>?_) (fun m' L' he=>by cases he)
 cases he
 exact k m' B a w' (hF.mono hle) (h2.mono hle) (by grind [St.drop])
def niB (P:Program) (T:TypeId):Bool:=match P.underlying T with | some (.interface _)=>false | some _=>true | none=>false
theorem aAX {T:TypeId} {x:Operand} {v:Value} (ho:o.op= .makeInterface T x) (hx:Has Γ x (fEq v)) (hT:niB P T=true):OpT P Γ [] o (fEq (.iface T v)):=
 dL (by rw [ho];rfl) fun β m a w he _=>by
  have h1:a.eval x=v:=he.get hx (by rw [ho];simp [Op.operands])
  refine⟨.iface T v,?_,rfl⟩;unfold niB at hT;cases hu:P.underlying T with
  | none=>rw [hu]at hT;cases hT
  | some d=>
   have h:(underlying T).run P w= .ok d w:=run_underlying hu w;rw [hu]at hT;simp only [execOp,ho,h1,Instr.makeInterface,a1B,h,a1A];cases d <;> first | (cases hT;done) | simp [Sem.run,pure]
theorem gH {v:Value} (h:cO v):Ent (fEq v) (eC v):=fun m u hu=>by
 have hu:u=v:=hu
 exact⟨hu,hu ▸ h⟩
theorem aB0 {m:Mem}:∀ {vs cs:List Value},aU (vs.map fEq) m cs->cs=vs
 | [],_,h=>h
 | v :: vs,_,⟨c,r,h1,h2,h3⟩=>by
  have h2:c=v:=h2;rw [h1,h2,aB0 h3]
theorem aAl (vs:List Value):Ent (dW (vs.map fEq)) (fEq (.agg vs.toArray)):=fun m v ⟨cs,h1,h2⟩=>by
 show v=_
 rw [h1,aB0 h2]
end
open Go.SX
structure Key (κ:Type) where
 val:κ->Value
 d:TypeDesc
 inj:∀ a b,val a=val b->a=b
 same:∀ a b,∃ t,Instr.sameNow d (val a) (val b)=some t/\(t=true ↔ a=b)
 bits:∀ a,Instr.sameBits 10000 (val a) (val a)=true
 check:∀ {P:Program} {K:TypeId} {e:Bool} (w:World) (a:κ) (n:Nat),P.underlying K=some d->(Instr.checkKey e (n+1) K (val a)).run P w= .ok () w
def bG:Key Int:=⟨fun i=> .int .i64 i, .int .i64,fun a b h=>by cases h;rfl,(by simp_all [Instr.sameNow]),fun a=>by simp [Instr.sameBits],
 fun w a n h=>by simp [Instr.checkKey,a1B,run_underlying h,Sem.run,pure]⟩
structure jX {κ:Type} (kd:Key κ) (es:Array MapEntry) (clock:Nat) (G:κ->Option Value):Prop where
 keys:∀ e∈es.toList,∃ k,e.key=kd.val k/\G k=some e.val
 all:∀ k v,G k=some v->∃ e∈es.toList,e.key=kd.val k
 uniq:(es.toList.map (·.key)).Nodup
 born:∀ e∈es.toList,e.born<clock
 stamps:(es.toList.map (·.born)).Nodup
open Classical in
noncomputable def updG {κ β:Type} (G:κ->Option β) (k:κ) (v:β):κ->Option β:=fun x=>if x=k then some v else G x
theorem aC6 {κ β:Type} {G:κ->Option β} {k:κ} {v:β}:updG G k v k=some v:=by simp [updG]
theorem tY {κ β:Type} {G:κ->Option β} {k x:κ} {v:β} (h:x≠k):updG G k v x=G x:=by simp [updG,h]
section
variable {κ:Type} {kd:Key κ}
theorem jX.empty:jX kd #[] 0 (fun _=>none):=⟨fun e h=>by simp at h,fun k v h=>by simp at h,by simp,fun e h=>by simp at h,by simp⟩
theorem aCe (k:κ):∀ (es:List MapEntry) (i:Nat),(∀ e∈es,∃ x,e.key=kd.val x) ->
 (Instr.findNow kd.d (kd.val k) es i=some none/\∀ e∈es,e.key≠kd.val k)\/∃ q e,Instr.findNow kd.d (kd.val k) es i=some (some (i+q,e.val))/\es[q]? =some e/\e.key=kd.val k
 | [],i,_=> .inl ⟨rfl,fun e h=>by cases h⟩
 | e :: es,i,h=>by
  obtain⟨x,hx⟩:=h e (.head _);obtain⟨t,ht,hiff⟩:=kd.same k x;simp only [Instr.findNow,hx,ht];cases t with
  | true=>exact .inr ⟨0,e,rfl,rfl,by rw [hx,hiff.1 rfl]⟩
  | false=>
   simp only
   rcases aCe k es (i+1) (fun e he=>h e (.tail _ he))with⟨h1,h2⟩ | ⟨q,e',h1,h2,h3⟩
   ·grind [Key.inj]
   ·exact .inr ⟨q+1,e',by grind,h2,h3⟩
theorem jX.push {es:Array MapEntry} {clock:Nat} {G:κ->Option Value} (h:jX kd es clock G) {k:κ} {v:Value} (hk:∀ e∈es.toList,e.key≠kd.val k):jX kd (es.push ⟨kd.val k,v,clock⟩) (clock+1) (updG G k v):=by
 refine⟨fun e he=>?_,fun x w hx=>?_,?_,fun e he=>?_,?_⟩
 ·simp only [Array.toList_push,a0P,a0Y]at he;rcases he with he | rfl
  ·obtain⟨y,hy,hg⟩:=h.keys e he
   grind [tY]
  grind [updG]
 ·by_cases hxk:x=k
  ·simp_all
  ·rw [tY hxk]at hx;obtain⟨e,he,hek⟩:=h.all x w hx
   grind
 ·simp only [Array.toList_push,a0N,a0O,List.map_nil]
  grind [uniq]
 ·simp only [Array.toList_push,a0P,a0Y]at he;rcases he with he | rfl
  ·have:=h.born e he;omega
  grind
 ·simp only [Array.toList_push,a0N,a0O,List.map_nil];refine a1a.2 ⟨h.stamps,by simp,fun a ha b hb e=>?_⟩
  simp only [a0Y]at hb;subst hb e;obtain⟨e',he',hb'⟩:=a0V.1 ha;have:=h.born e' he';omega
theorem jX.set {es:Array MapEntry} {clock:Nat} {G:κ->Option Value} (h:jX kd es clock G) {k:κ} {v:Value} {q:Nat} {e0:MapEntry} (hq:es.toList[q]? =some e0) (hk:e0.key=kd.val k):
 jX kd (es.modify q fun e=>{ e with key:=kd.val k,val:=v }) clock (updG G k v):=by
 have hl:(es.modify q fun e=>{ e with key:=kd.val k,val:=v }).toList=es.toList.set q ⟨kd.val k,v,e0.born⟩:=by
  apply a0v;intro j
  simp only [a0d,Array.getElem?_modify,a0E,a0e];have hq':es[q]? =some e0:=by simpa using hq
  split
  ·subst_vars
   rw [hq'];have:=(a0b.1 hq').1;rw [a1H this];rfl
  ·rfl
 have hlen:=(a0C.1 hq).1
 have hmk:(es.toList.set q ⟨kd.val k,v,e0.born⟩).map (·.key)=es.toList.map (·.key):=by
  rw [List.map_set];apply a0v;intro j
  rw [a0E];split
  ·subst_vars
   simp only [a0K,hlen,if_true,a0D,hq,a1w,hk]
  ·rfl
 have hmb:(es.toList.set q ⟨kd.val k,v,e0.born⟩).map (·.born)=es.toList.map (·.born):=by
  rw [List.map_set];apply a0v;intro j
  rw [a0E];split
  ·subst_vars
   simp only [a0K,hlen,if_true,a0D,hq,a1w]
  ·rfl
 have hG0:G k=some e0.val:=by
  obtain⟨y,hy,hg⟩:=h.keys e0 (a0X hq);rw [hk]at hy;rw [kd.inj _ _ hy];exact hg
 refine⟨fun e he=>?_,fun x w hx=>?_,by rw [hl,hmk];exact h.uniq,fun e he=>?_,by rw [hl,hmb];exact h.stamps⟩
 ·rw [hl]at he;obtain⟨j,hj⟩:=a0U.1 he;rw [a0E]at hj;split at hj
  ·have hj:e=⟨kd.val k,v,e0.born⟩:=(a1y hj).symm;subst hj;exact⟨k,rfl,aC6⟩
  ·rename_i hne;obtain⟨y,hy,hg⟩:=h.keys e (a0X hj);refine⟨y,hy,?_⟩;rw [tY (fun hyk=>?_)]
   ·exact hg
   ·subst hyk;have h1:(es.toList.map (·.key))[j]? =some (kd.val y):=by rw [a0D,hj];simp [hy]
    have h2:(es.toList.map (·.key))[q]? =some (kd.val y):=by rw [a0D,hq];simp [hk]
    have l1:=(a0C.1 h1).1;exact hne ((List.getElem?_inj l1 h.uniq).1 (h1.trans h2.symm)).symm
 ·have hx':∃ w',G x=some w':=by
   by_cases hxk:x=k
   ·subst hxk;exact⟨_,hG0⟩
   ·rw [tY hxk]at hx;exact⟨_,hx⟩
  obtain⟨w',hw'⟩:=hx';obtain⟨e,he,hek⟩:=h.all x w' hw';have:kd.val x∈(es.toList.set q ⟨kd.val k,v,e0.born⟩).map (·.key):=by rw [hmk];exact a0V.2 ⟨e,he,hek⟩
  obtain⟨e',he',hk'⟩:=a0V.1 this;exact⟨e',by rw [hl];exact he',hk'⟩
 ·rw [hl]at he;have:e.born∈(es.toList.set q ⟨kd.val k,v,e0.born⟩).map (·.born):=a0W he;rw [hmb]at this;obtain⟨e',he',hb'⟩:=a0V.1 this;rw [<- hb'];exact h.born e' he'
end
open Go.SX
section
variable {κ α:Type}
structure aI (κ α:Type) where
 get:κ->Option α
 size:Nat
def aI.upd [DecidableEq κ] (g:aI κ α) (k:κ) (y:α):aI κ α:=⟨fun x=>if x=k then some y else g.get x,if (g.get k).isSome then g.size else g.size+1⟩
def aI.none:aI κ α:=⟨fun _=>Option.none,0⟩
def gQ (kd:Key κ) (vf:α->AF) (g:aI κ α) (m:Mem) (es:Array MapEntry) (clock:Nat):Prop:=
 ∃ G,jX kd es clock G/\(∀ k,g.get k=none->G k=none)/\es.size=g.size/\∀ k y,g.get k=some y->∃ v,G k=some v/\(vf y).p m v
theorem gQ.mono {kd:Key κ} {vf:α->AF} {g:aI κ α} {m m':Mem} {es:Array MapEntry} {clock:Nat} (hle:Mem.le m m') (h:gQ kd vf g m es clock):gQ kd vf g m' es clock:=
 (by grind [AF.mono,gQ])
def fMap (kd:Key κ) (vf:α->AF) (g:aI κ α):AF:=
 ⟨fun m v=>(v= .map none/\g=aI.none)\/∃ b es clock,v= .map (some b)/\m b=some (.map es clock)/\gQ kd vf g m es clock,
  fun h k=>k.imp id fun ⟨b,es,clock,h1,h2,h3⟩=>⟨b,es,clock,h1,h _ _ h2,h3.mono h⟩⟩
def bK (kd:Key κ) (vf:α->AF) (b:Nat) (g:aI κ α):Tk:=⟨fun m H=>∃ es clock,gQ kd vf g m es clock/\H=[(b, .map es clock)],(by grind [gQ.mono])⟩
theorem leaf_map {kd:Key κ} {vf:α->AF} {g:aI κ α}:eU (fMap kd vf g):=fun _ _ h=>by
 rcases h with⟨h,_⟩ | ⟨_,_,_,h,_⟩ <;> rw [h] <;> trivial
theorem uJ (vs:List Value):Ent (fEq (.agg vs.toArray)) (dW (vs.map fEq)):=fun m v h=>⟨vs,h,iW vs⟩
def oL (P:Program) (T:TypeId) (kd:Key κ) (z:Value):Prop:=∃ K V,P.underlying T=some (.map K V)/\P.underlying K=some kd.d/\cT P V=some z
variable {P:Program} {β:bA} {n:Nat} {ds:List Deferred} {Γ:Ctx} {Δ:List Tk} {r:Option Nat} {Q:Exit->Act->World->Prop} {ops:Array Oper} {o:Oper} {rest:List Oper} {kd:Key κ} {vf:α->AF} {g:aI κ α}
theorem aBT {T:TypeId} (vf:α->AF) (kd:Key κ) (ho:o.op= .makeMap T none):OpN P Γ o (fun b=> .map (some b)) (fun b=>bK kd vf b aI.none):=
 ⟨by rw [ho];rfl,fun β m a w he _=>⟨.map #[] 0,by simp [execOp,ho,Instr.makeMap,a1B,newObj,Sem.run,pure],#[],0,⟨_,jX.empty,fun _ _=>rfl,rfl,fun k y hy=>by cases hy⟩,rfl⟩⟩
theorem frz_map {b:Nat}:Frz (bK kd vf b g) (fMap kd vf g) (.map (some b)):=fun m H ⟨es,clock,h1,h2⟩ m' hle hm=>by
 subst h2
 exact .inr ⟨b,es,clock,rfl,hm _ (.head _),h1.mono hle⟩
theorem aFt {T:TypeId} {z:Value} {b:Nat} {es:Array MapEntry} {clock:Nat} {m:Mem} {w:World} {zα:α} (hT:oL P T kd z) (hg:(getObj b).run P w= .ok (.map es clock) w) (hM:gQ kd vf g m es clock) (hz:Ent (fEq z) (vf zα)) (k:κ) (ok:Bool):
 ∃ v,(vf ((g.get k).getD zα)).p m v/\(Instr.lookup T (.map (some b)) (kd.val k) ok).run P w= .ok (if ok then .tuple #[v, .bool (g.get k).isSome] else v) w:=by
 obtain⟨K,V,h1,h2,h3⟩:=hT
 obtain⟨G,hK,hn,hsz,hs⟩:=hM
 have hzr:=lA (P:=P) h3 w
 have hc:∀ e,(Instr.checkKey e 10000 K (kd.val k)).run P w= .ok () w:=fun e=>kd.check w k 9999 h2
 rcases aCe (kd:=kd) k es.toList 0 (fun e he=>let ⟨x,hx,_⟩:=hK.keys e he;⟨x,hx⟩)with⟨hf,hne⟩ | ⟨q,e,hf,hq,hek⟩
 ·have hfk:(Instr.findKey K (kd.val k) es.toList).run P w= .ok none w:=by simp [Instr.findKey,a1B,run_underlying h2,hf,Sem.run,pure]
  have hgk:g.get k=none:=by
   cases hgk:g.get k with
   | none=>rfl
   | some y=>
    obtain⟨v,hv,_⟩:=hs k y hgk;obtain⟨e,he,hek⟩:=hK.all k v hv
    grind
  refine⟨z,by rw [hgk];exact hz m z rfl,?_⟩
  simp only [Instr.lookup,a1B,run_underlying h1,a1A,hg,hc,hfk,hzr,hgk];cases ok <;> simp [a1B,hc,hfk,hzr] <;> simp [Sem.run,pure]
 ·have hfk:(Instr.findKey K (kd.val k) es.toList).run P w= .ok (some (0+q,e.val)) w:=by simp [Instr.findKey,a1B,run_underlying h2,hf,Sem.run,pure]
  obtain⟨k',hk',hG⟩:=hK.keys e (a0X hq);rw [hek]at hk';have:=kd.inj _ _ hk';subst this;cases hgk:g.get k with
  | none=>grind
  | some y=>
   obtain⟨v,hv,hp⟩:=hs k y hgk;rw [hG]at hv;have hv:e.val=v:=a1y hv;refine⟨e.val,by rw [hv];exact hp,?_⟩
   simp only [Instr.lookup,a1B,run_underlying h1,a1A,hg,hc,hfk];cases ok <;> simp [a1B,hc,hfk] <;> simp [Sem.run,pure]
theorem aA6 {m:Mem} {b:Nat} {L:AW} {w:World} (hL:bB [bK kd vf b g] m L) (hS:St β m L w):∃ es clock,gQ kd vf g m es clock/\(getObj b).run P w= .ok (.map es clock) w:=by
 obtain⟨H,R,rfl,⟨es,clock,h1,h2⟩,h3⟩:=hL
 subst h2
 exact⟨es,clock,h1,by simp [getObj,Sem.run,hS.own (b, .map es clock) (by simp)]⟩
theorem aDT {T:TypeId} {x ix:Operand} {b:Nat} {z:Value} {zα:α} {k:κ} {φk:AF} (ho:o.op= .lookup T x ix false) (hx:Has Γ x (fEq (.map (some b)))) (hi:Has Γ ix φk) (hk:φk=fEq (kd.val k)) (hT:oL P T kd z) (hz:Ent (fEq z) (vf zα)):OpT P Γ [bK kd vf b g] o (vf ((g.get k).getD zα)):=
 ⟨by rw [ho];rfl,fun β m L a w he hS hL=>by
  subst hk;have h1:a.eval x=_:=he.get hx (by rw [ho];simp [Op.operands])
  have h2:a.eval ix=_:=he.get hi (by rw [ho];simp [Op.operands])
  obtain⟨es,clock,hm,hg⟩:=aA6 (P:=P) hL hS;obtain⟨u,h3,h4⟩:=aFt hT hg hm hz k false
  simp_all [execOp]⟩
theorem aGS {T:TypeId} {x ix:Operand} {b:Nat} {z:Value} {zα:α} {k:κ} {φk:AF} (ho:o.op= .lookup T x ix true) (hx:Has Γ x (fEq (.map (some b)))) (hi:Has Γ ix φk) (hk:φk=fEq (kd.val k)) (hT:oL P T kd z) (hz:Ent (fEq z) (vf zα)):OpT P Γ [bK kd vf b g] o (dI [vf ((g.get k).getD zα),aL (g.get k).isSome]):=
 ⟨by rw [ho];rfl,fun β m L a w he hS hL=>by
  subst hk;have h1:a.eval x=_:=he.get hx (by rw [ho];simp [Op.operands])
  have h2:a.eval ix=_:=he.get hi (by rw [ho];simp [Op.operands])
  obtain⟨es,clock,hm,hg⟩:=aA6 (P:=P) hL hS;obtain⟨u,h3,h4⟩:=aFt hT hg hm hz k true;exact⟨.tuple #[u, .bool (g.get k).isSome],by simp_all [execOp],[u, .bool (g.get k).isSome],rfl,u,_,rfl,h3,_,[],rfl,rfl,rfl⟩⟩
theorem setB_get (w:World) (b:Nat) (o:Obj) (h:b<w.heap.size):(ChangeMaps.setBlock w b o).heap[b]? =some o:=by simp [ChangeMaps.setBlock,h]
theorem setB_ne (w:World) (b c:Nat) (o:Obj) (h:c≠b):(ChangeMaps.setBlock w b o).heap[c]? =w.heap[c]?:=by
 grind [ChangeMaps.setBlock]
theorem st_setB {w:World} {m:Mem} {L:AW} (h:St β m L w) {k b:Nat} {o o':Obj} (hk:L[k]? =some (b,o)):St β m (L.set k (b,o')) (ChangeMaps.setBlock w b o'):=
 h.write hk (setB_get w b o' (tD (h.own _ (rQ hk)))) (by grind [setB_ne]) (by simp [ChangeMaps.setBlock]) rfl rfl rfl
theorem gQ.upd [DecidableEq κ] {m:Mem} {es:Array MapEntry} {clock:Nat} {G:κ->Option Value} {k:κ} {y:α} {v:Value} (hn:∀ k,g.get k=none->G k=none) (hs:∀ k y,g.get k=some y->∃ v,G k=some v/\(vf y).p m v)
 (hK:jX kd es clock (updG G k v)) (hz:es.size=if (g.get k).isSome then g.size else g.size+1) (hv:(vf y).p m v):gQ kd vf (g.upd k y) m es clock:=by
 refine⟨_,hK,fun x hx=>?_,hz,fun x u hx=>?_⟩
 ·by_cases h:x=k
  ·simp [aI.upd,h]at hx
  ·rw [tY h];exact hn x (by simpa [aI.upd,h] using hx)
 ·by_cases h:x=k
  ·subst h;have:y=u:=by simpa [aI.upd] using hx
   subst this;exact⟨v,aC6,hv⟩
  ·rw [tY h];exact hs x u (by simpa [aI.upd,h] using hx)
theorem aGB [DecidableEq κ] {T:TypeId} {z v:Value} {b:Nat} {es:Array MapEntry} {clock:Nat} {m:Mem} {w:World} {y:α} (hT:oL P T kd z) (hown:w.heap[b]? =some (.map es clock)) (hM:gQ kd vf g m es clock) (k:κ) (hv:(vf y).p m v):
 ∃ es' clock',gQ kd vf (g.upd k y) m es' clock'/\(Instr.mapUpdate T (.map (some b)) (kd.val k) v).run P w= .ok () (ChangeMaps.setBlock w b (.map es' clock')):=by
 obtain⟨K,V,h1,h2,h3⟩:=hT
 obtain⟨G,hK,hn,hsz,hs⟩:=hM
 have hg:(getObj b).run P w= .ok (.map es clock) w:=by simp [getObj,Sem.run,hown]
 have hc:∀ e,(Instr.checkKey e 10000 K (kd.val k)).run P w= .ok () w:=fun e=>kd.check w k 9999 h2
 have hset:∀ o':Obj,(setObj b o').run P w= .ok () (ChangeMaps.setBlock w b o'):=fun o'=>by simp [setObj,Sem.run,hown,ChangeMaps.setBlock]
 rcases aCe (kd:=kd) k es.toList 0 (fun e he=>let ⟨x,hx,_⟩:=hK.keys e he;⟨x,hx⟩)with⟨hf,hne⟩ | ⟨q,e,hf,hq,hek⟩
 ·have hfk:(Instr.findKey K (kd.val k) es.toList).run P w= .ok none w:=by simp [Instr.findKey,a1B,run_underlying h2,hf,Sem.run,pure]
  have hgk:g.get k=none:=by
   cases hgk:g.get k with
   | none=>rfl
   | some y'=>
    obtain⟨v',hv',_⟩:=hs k y' hgk;obtain⟨e,he,hek⟩:=hK.all k v' hv'
    grind
  refine⟨_,_,gQ.upd hn hs (hK.push hne) (by simp [hgk,hsz]) hv,?_⟩
  simp only [Instr.mapUpdate,a1B,run_underlying h1,a1A,hg,hc,hfk,hset]
 ·have hfk:(Instr.findKey K (kd.val k) es.toList).run P w= .ok (some (q,e.val)) w:=by
   rw [a1q]at hf;simp [Instr.findKey,a1B,run_underlying h2,hf,Sem.run,pure]
  have he0':es[q]? =some e:=by simpa using hq
  have hkts:(Instr.keyThatStays (((es[q]?).map (·.key)).getD (kd.val k)) (kd.val k)).run P w= .ok (kd.val k) w:=by
   rw [he0',a1w,a1t,hek];simp [Instr.keyThatStays,kd.bits,Sem.run,pure]
  have hgk:(g.get k).isSome=true:=by
   cases hgk:g.get k with
   | some _=>rfl
   | none=>
    obtain⟨k',hk',hG⟩:=hK.keys e (a0X hq)
    grind [Key.inj]
  refine⟨_,_,gQ.upd hn hs (hK.set hq hek) (by simp [hgk,hsz]) hv,?_⟩
  simp only [Instr.mapUpdate,a1B,run_underlying h1,a1A,hg,hc,hfk,hkts,hset]
theorem aBE [DecidableEq κ] {MT:TypeId} {x kx vx:Operand} {b:Nat} {k:κ} {y:α} {z:Value} {φk φv:AF} (hw:bX ops Γ o) (ho:o.op= .mapUpdate MT x kx vx\/o.op= .insert MT x kx vx) (hd:o.dst=none) (hx:Has Γ x (fEq (.map (some b))))
 (hi:Has Γ kx φk) (hk:φk=fEq (kd.val k)) (hv:Has Γ vx φv) (hvy:φv=vf y) (hT:oL P MT kd z)
 (kk:T β n ds Γ (bK kd vf b (g.upd k y) :: Δ) (wpListIn (fw r) 0 P ops Q rest)):T β n ds Γ (bK kd vf b g :: Δ) (wpListIn (fw r) 0 P ops Q (o :: rest)):=fun m L a w hF hL hS=>by
 subst hk hvy
 obtain⟨H,R,rfl,⟨es,clock,hM,h2⟩,h3⟩:=hL
 subst h2
 have hxe:a.eval x=_:=hF.has hx
 have hke:a.eval kx=_:=hF.has hi
 have hve:=hF.has hv
 have hnd:iH o.op=false:=by rcases ho with ho | ho <;> rw [ho] <;> rfl
 have h1:o.semAt (fw r).round a.eval=execOp a.eval o:=Oper.semAt_eq _ _ _ fun c hc=>by rw [hc]at hnd;cases hnd
 simp only [wpListIn,hw.wanted hF,if_true]
 refine⟨fun _ _=>a1I,?_⟩
 have hk0:([(b,Obj.map es clock)]++R)[0]? =some (b, .map es clock):=rfl
 obtain⟨es',clock',h4,h5⟩:=aGB hT (hS.own (b, .map es clock) (by simp)) hM k hve
 have e:(execOp a.eval o).run P w= .ok .skip (ChangeMaps.setBlock w b (.map es' clock')):=by
  rcases ho with ho | ho <;> simp [execOp,ho,hxe,hke,a1B,h5,Sem.run,pure]
 rw [h1,e,Oper.uponIn_skip,hd]
 refine kk m ([(b, .map es' clock')]++R) _ _ hF ⟨_,R,rfl,⟨es',clock',h4,rfl⟩,h3⟩ ?_
 have:=st_setB (o':= .map es' clock') hS hk0
 simpa using this
theorem aCi {MT:TypeId} {x:Operand} {b:Nat} {z:Value} (ho:o.op= .call { callee:= .builtin .len,args:=#[x],argTypes:=#[MT] }) (hx:Has Γ x (fEq (.map (some b)))) (hT:oL P MT kd z):OpT P Γ [bK kd vf b g] o (aT .i64 g.size):=
 ⟨by rw [ho];rfl,fun β m L a w he hS hL=>by
  obtain⟨K,V,h1,_,_⟩:=hT;have h:a.eval x=_:=he.get hx (by rw [ho];simp [Op.operands,Call.operands])
  obtain⟨es,clock,⟨G,_,_,hsz,_⟩,hg⟩:=aA6 (P:=P) hL hS;refine⟨.int .i64 es.size,by simp [execOp,ho,resolve,invoke,builtin,Builtin.len_,h,a1B,run_underlying h1,hg,Sem.run,pure,goInt],?_⟩
  show Value.int .i64 es.size= .int .i64 g.size
  rw [hsz]⟩
end
open Go.SX
section
variable {P:Program} {Γ:Ctx} {o:Oper}
theorem aH4 {src dst:TypeId} {kd k:IntKind} {i:Int} {d:TypeDesc} (hs:P.underlying src=some d) (hd:P.underlying dst=some (.int k)) (w:World):(convert src dst (.int kd i)).run P w= .ok (.int k (k.wrap i)) w:=by
 simp only [convert,a1B,run_underlying hs,run_underlying hd,a1A]
 simp_all [Conv.intToInt]
theorem sI {src dst:TypeId} {x:Operand} {kd k:IntKind} {i:Int} {d:TypeDesc} (ho:o.op= .convert src dst x) (hx:Has Γ x (aT kd i)) (hs:P.underlying src=some d) (hd:P.underlying dst=some (.int k)):OpT P Γ [] o (aT k (k.wrap i)):=
 dL (by rw [ho];rfl) fun β m a w he _=>by
  have h1:a.eval x=_:=he.get hx (by rw [ho];simp [Op.operands])
  exact⟨.int k (k.wrap i),by simp [execOp,ho,h1,a1B,aH4 hs hd,Sem.run,pure],rfl⟩
def oJ:Value->Option Bool
 | .nilIface=>some true
 | .iface _ _=>some false
 | _=>none
theorem aHn {T:TypeId} {ms} {v:Value} {b:Bool} (hT:P.underlying T=some (.interface ms)) (h:oJ v=some b) (d:Nat) (w:World):(Op.equalIn (d+1) T v .nilIface).run P w= .ok b w:=by
 have hu:(underlying T).run P w= .ok (.interface ms) w:=run_underlying hT w
 cases v <;> first | (cases h;done) | (cases h;simp only [Op.equalIn,a1B,hu,a1A];rfl)
theorem aGQ {T:TypeId} {ms} {v:Value} {b:Bool} (hT:P.underlying T=some (.interface ms)) (h:oJ v=some b) (w:World):(Op.equal T v .nilIface).run P w= .ok b w:=aHn hT h 9999 w
theorem aF1 {op:BinOp} {T:TypeId} {x:Operand} {v:Value} {b:Bool} (h:oJ v=some b) (w:World):(eqGuard op T x (.const .nilIface) v .nilIface).run P w= .ok () w:=by
 cases v <;> first | (cases h;done) | simp_all [eqGuard]
def asTy (T:TypeId) (z:Value):Value->Option (Value × Bool)
 | .nilIface=>some (z,false)
 | .iface t v=>if t=T then some (v,true) else some (z,false)
 | _=>none
theorem aAa {T U:TypeId} {ms} {x:Operand} {v:Value} {b:Bool} (ho:o.op= .binOp .eql T x (.const .nilIface) U) (hx:Has Γ x (fEq v)) (hT:P.underlying T=some (.interface ms)) (h:oJ v=some b):OpT P Γ [] o (aL b):=
 dL (by rw [ho];rfl) fun β m a w he _=>by
  have h1:a.eval x=v:=he.get hx (by rw [ho];simp [Op.operands])
  have h2:a.eval (.const .nilIface)= .nilIface:=rfl;refine⟨.bool b,?_,rfl⟩;simp only [execOp,ho,h1,h2];rw [a1B,a1B,aF1 h w];cases v <;> first | (cases h;done) | simp [binOp,a1B,aGQ hT h,Sem.run,pure]
theorem aHw {S T':TypeId} {x:Operand} {v z u:Value} {b:Bool} (ho:o.op= .typeAssert x S T' true) (hx:Has Γ x (fEq v)) (hT:niB P T'=true) (hz:cT P T'=some z) (h:asTy T' z v=some (u,b)):OpT P Γ [] o (dI [fEq u,aL b]):=
 dL (by rw [ho];rfl) fun β m a w he _=>by
  have h1:a.eval x=v:=he.get hx (by rw [ho];simp [Op.operands])
  refine⟨.tuple #[u, .bool b],?_,[u, .bool b],rfl,u,_,rfl,rfl,_,[],rfl,rfl,rfl⟩;unfold niB at hT;have hzr:=lA (P:=P) hz w;cases hu:P.underlying T' with
  | none=>rw [hu]at hT;cases hT
  | some d=>
   rw [hu]at hT;have hur:(underlying T').run P w= .ok d w:=run_underlying hu w;simp only [execOp,ho,h1];match v,h with
   | .nilIface,h=>
    simp only [asTy,a1z,Prod.mk.injEq]at h;obtain⟨rfl,rfl⟩:=h;cases d <;> first | (cases hT;done) | simp_all [Instr.typeAssert]
   | .iface t y,h=>
    simp only [asTy]at h;by_cases ht:t=T'
    ·subst ht;simp only [if_true,a1z,Prod.mk.injEq]at h;obtain⟨rfl,rfl⟩:=h;cases d <;> first | (cases hT;done) | simp_all [Instr.typeAssert]
    ·simp only [ht,if_false,a1z,Prod.mk.injEq]at h;obtain⟨rfl,rfl⟩:=h;cases d <;> first | (cases hT;done) | simp_all [Instr.typeAssert]
theorem gX {v:Value}:Ent (eC v) (fEq v):=fun _ _ h=>h.1
end
open Go.SX
section
variable {P:Program} {Γ:Ctx} {o:Oper}
def slc {α:Type} (xs:List α) (l h:Int):Option (List α):=if 0<=l/\l<=h/\h<=xs.length then some ((xs.take h.toNat).drop l.toNat) else none
theorem aAZ {α:Type} {xs ys:List α} {l h:Int} (e:slc xs l h=some ys):0<=l/\l<=h/\h<=xs.length/\ys=(xs.take h.toNat).drop l.toNat:=by
 unfold slc at e
 grind
theorem uO {kd:IntKind} {i:Int} {y:Nat} {c:BoundsCode} (h1:0<=i) (h2:i<=y) (w:World):(Instr.sliceBound (.int kd i) y c).run P w= .ok i.toNat w:=by
 simp [Instr.sliceBound,asIntOf,a1B,Sem.run,pure,h1,h2]
theorem aIa (p:Addr) (a b:Nat):(p.add a).add b=p.add (a+b):=by
 grind [Addr.add]
theorem part_sl {α:Type} {t:Ty α} {xs ys:List α} {l h:Int} {m:Mem} {a:Option Addr} {cap:Nat} (e:slc xs l h=some ys) (hx:(fSl t xs).p m (.slice a xs.length cap)):
 (fSl t ys).p m (.slice (if cap=l.toNat then a else a.map (·.add (l.toNat*t.sz))) (h.toNat - l.toNat) (cap - l.toNat)):=by
 obtain⟨h1,h2,h3,rfl⟩:=aAZ e
 obtain⟨q,⟨b,cap',hv,hc,hq⟩,hB,hel⟩:=hx
 cases hv
 have hlen:((xs.take h.toNat).drop l.toNat).length=h.toNat - l.toNat:=by simp;omega
 refine⟨fun i=>q (l.toNat+i),⟨_,_,by rw [hlen],by rw [hlen];omega,fun i hi=>?_⟩,by rw [hlen];omega,fun i x hx=>?_⟩
 ·rw [hlen]at hi;obtain⟨p,rfl,hp⟩:=hq (l.toNat+i) (by omega)
  rw [a1G (by omega)]
  grind [aIa]
 grind
def HasB (Γ:Ctx) (x:Option Operand) (d v:Int):Prop:=(x=none/\v=d)\/∃ y kd,x=some y/\Has Γ y (aT kd v)
theorem xP {d:Int}:HasB Γ none d d:= .inl ⟨rfl,rfl⟩
theorem vP {d v:Int} {y:Operand} {kd:IntKind} (h:Has Γ y (aT kd v)):HasB Γ (some y) d v:= .inr ⟨y,kd,rfl,h⟩
theorem vN {α:Type} {t:Ty α} {xs ys:List α} {MT:TypeId} {x:Operand} {lo hi:Option Operand} {l h:Int} (ho:o.op= .slice MT x lo hi none) (hx:Has Γ x (fSl t xs)) (hl:HasB Γ lo 0 l) (hh:HasB Γ hi xs.length h) (hT:kI P MT t.sz)
 (e:slc xs l h=some ys):OpT P Γ [] o (fSl t ys):=
 dL (by rw [ho];rfl) fun β m a w he _=>by
  have h0:=he.get hx (by rw [ho];simp [Op.operands])
  have h0':=h0;obtain⟨q,⟨b,cap,hv,hc,hq⟩,hB,hel⟩:=h0';rw [hv]at h0;obtain⟨h1,h2,h3,hys⟩:=aAZ e;refine⟨_,?_,part_sl e h0⟩;unfold kI qD at hT;cases hu:P.underlying MT with
  | none=>rw [hu]at hT;cases hT
  | some d=>
   rw [hu]at hT;cases d <;> try (simp at hT;done)
   rename_i el;simp only [a1v]at hT;obtain⟨inf,hinf,hsz⟩:=hT;have hur:(underlying MT).run P w= .ok (.slice el) w:=run_underlying hu w;have hs:=run_sizeOf (P:=P) hinf w;simp only [execOp,ho,hv,Instr.sliceAt,Instr.slice,Instr.sliceBounds,a1B,hur,a1A];rcases hl with⟨rfl,rfl⟩ | ⟨y,kd,rfl,hy⟩ <;> rcases hh with⟨rfl,rfl⟩ | ⟨y',kd',rfl,hy'⟩
   ·simp_all
   ·have g2:a.eval y'= .int kd' h:=he.get hy' (by rw [ho];simp [Op.operands])
    have b2:=fun c=>uO (P:=P) (kd:=kd') (y:=cap) (c:=c) (i:=h) (by omega) (by omega) w
    simp_all
   ·have g1:a.eval y= .int kd l:=he.get hy (by rw [ho];simp [Op.operands])
    simp_all [uO]
   ·have g1:a.eval y= .int kd l:=he.get hy (by rw [ho];simp [Op.operands])
    have g2:a.eval y'= .int kd' h:=he.get hy' (by rw [ho];simp [Op.operands])
    have b2:=fun c=>uO (P:=P) (kd:=kd') (y:=cap) (c:=c) (i:=h) (by omega) (by omega) w
    have b1:=fun c=>uO (P:=P) (kd:=kd) (y:=h.toNat) (c:=c) (i:=l) h1 (by omega) w
    simp_all
end
open Go.SX
section
variable {P:Program} {β:bA} {n:Nat} {ds:List Deferred} {Γ:Ctx} {Δ R:List Tk} {r:Option Nat} {Q Q':Exit->Act->World->Prop} {F:Act->World->Prop} {ops:Array Oper} {o:Oper} {rest:List Oper}
def tObj (l:Nat) (o:Obj):Tk:=⟨fun _ H=>H=[(l,o)],fun _ h=>h⟩
def tMark (rb:Nat):Tk:=tObj rb (.deferred (some []))
theorem FnX_ofM {f:FuncId} {fn:Func} {c:Code} {N:Nat} {args:List AF} {post:Mem->AW->Ending->Prop} (hf:P.funcs[f]? =some fn) (hb:fn.body=some c) (hN:fn.ntmps=N) (hle:Nat.ble args.length N=true)
 (k:∀ w m fp,T ⟨w,m,fp⟩ N [] (lG args 0) Δ (c.wpIn (fw none) 0 P (bodyPostM (fw none) 0 P fn fun e w'=>∃ m' L',St ⟨w,m,fp⟩ m' L' w'/\post m' L' e))):
 ∀ m L vs,aU args m vs->bB Δ m L->FnX P f vs m L post:=fun m L vs hv hL w hS=>by
 refine(callsIn_wide (n:=0)).1 (callsIn_of_wp_marks hf hb a1I ?_)
 refine(k w m _ m L _ w ⟨?_,rfl,fun t φ h=>?_⟩ hL hS)
 ·have:=a1k hle
  grind [aU.length]
 ·obtain⟨_,h2⟩:=yV args 0 t φ h
  grind [aU.get]
theorem aFe {f:FuncId} {fn:Func} {c:Code} {N:Nat} {args:List AF} {Φ:AF} {Δ':Value->List Tk} (hf:P.funcs[f]? =some fn) (hb:fn.body=some c) (hN:fn.ntmps=N) (hle:Nat.ble args.length N=true)
 (k:∀ β,T β N [] (lG args 0) Δ (c.wpIn (fw none) 0 P (bodyPostM (fw none) 0 P fn (eE β Φ Δ')))):FnS P f args Δ Φ Δ':=FnX_ofM hf hb hN hle fun w m fp=>k ⟨w,m,fp⟩
theorem aFn {m:Mem}:∀ (rbs:List Nat) {Δ:List Tk} {L:AW},bB (rbs.map tMark++Δ) m L->∃ R,L=rbs.map (fun rb=>(rb,Obj.deferred (some [])))++R/\bB Δ m R
 | [],_,L,h=>⟨L,rfl,h⟩
 | rb :: rbs,_,_,⟨H,R,e,h1,h2⟩=>by
  have h1:H=[(rb,Obj.deferred (some []))]:=h1;obtain⟨R',e2,h3⟩:=aFn rbs h2
  grind
theorem T_leave {fn:Func} {R:Ending->World->Prop} (rbs:List Nat) {Δ':List Tk} (hds:ds=rbs.map SX.mark) (hΔ:Δ=rbs.map tMark++Δ')
 (k:T β n [] Γ Δ' (fun a w=>∃ v,(results fn a.tmps).run P w= .ok v w/\R (.returned v) w)):T β n ds Γ Δ (fun a w=>LeavesInM (fw none) 0 P fn a.tmps R a.defers .returning w):=fun m L a w hF hL hS=>by
 subst hΔ
 obtain⟨B,rfl,hB⟩:=aFn rbs hL
 rw [hF.Aa,hds]
 let A:AW:=rbs.map (fun rb=>(rb,Obj.deferred (some [])))
 have hnd:rbs.Nodup:=by
  have:=hS.nodup
  grind
 refine aDc (β:=β) (m:=m) (A:=A) (L':=B) rbs _ w hS (fun rb hrb=>?_) hnd (by simp [A]) (by simp [A]) fun w' hS'=>?_
 ·obtain⟨j,hj⟩:=a0U.1 hrb
  grind
 ·exact k m B { a with defers:=[] } w' ⟨hF.size,rfl,hF.get⟩ hB hS'
end
theorem aG.app:∀ {aa bs cs ds:List AF},aG aa cs->aG bs ds->aG (aa++bs) (cs++ds)
 | [],_,_,_,h,k=>by cases h;exact k
 | a :: aa,_,_,_,⟨φ,φs,e,h1,h2⟩,k=>by subst e;exact⟨φ,φs++_,by simp,h1,aG.app h2 k⟩
open Go.SX
def FnD (P:Program) (f:FuncId) (args:List AF) (Δ:List Tk) (u:FrameMode) (Δ':List Tk):Prop:=
 ∀ m L vs,aU args m vs->bB Δ m L->∀ w,St ⟨w,m,L.map Prod.fst⟩ m L w->CallsDIn (fw none) 0 P f vs.toArray u w fun e u' w'=>(∃ v,e= .returned v)/\settle u'= .returning/\∃ m' L',St ⟨w,m,L.map Prod.fst⟩ m' L' w'/\bB Δ' m' L'
def PostD (β:bA) (Δ':List Tk) (e:Ending) (u':FrameMode) (w':World):Prop:=(∃ v,e= .returned v)/\settle u'= .returning/\∃ m' L',St β m' L' w'/\bB Δ' m' L'
section
variable {P:Program} {β:bA} {n:Nat} {ds:List Deferred} {Γ:Ctx} {Δ R:List Tk} {r:Option Nat} {Q Q':Exit->Act->World->Prop} {F:Act->World->Prop} {ops:Array Oper} {o:Oper} {rest:List Oper}
theorem aAA {f:FuncId} {fn:Func} {c:Code} {N:Nat} {args:List AF} {u:FrameMode} {Δ':List Tk} (hf:P.funcs[f]? =some fn) (hb:fn.body=some c) (hN:fn.ntmps=N) (hle:Nat.ble args.length N=true)
 (k:∀ β c₀ cs,c₀.mode=u->T β N [] (lG args 0) Δ (fun a w=>c.wpSIn (fw none) 0 P (bodyPostS P fn c₀ cs (PostD β Δ')) a (c₀ :: cs) w)):FnD P f args Δ u Δ':=fun m L vs hv hL w hS=>by
 refine callsDIn_of_wpSIn hf hb a1I fun c₀ cs hu=>?_
 refine k ⟨w,m,_⟩ c₀ cs hu m L _ w ⟨?_,rfl,fun t φ h=>?_⟩ hL hS
 ·have:=a1k hle;have hl:=hv.length;simp [hN];omega
 ·obtain⟨_,h2⟩:=yV args 0 t φ h;simp only [Nat.sub_zero]at h2;obtain⟨c,h3,h4⟩:=hv.get h2;have hlt:=(a0C.1 h3).1;refine⟨c,?_,h4⟩;rw [Array.getElem?_append_left (by simpa using hlt)];simpa using h3
theorem T_inS {x:Code} {S:Exit->Act->List Frame->World->Prop} {cs:List Frame} (k:T β n ds Γ Δ (x.wpIn (fw none) 0 P (fun e a w=>S e a cs w))):T β n ds Γ Δ (fun a w=>x.wpSIn (fw none) 0 P S a cs w):=
 k.mono fun _ _ h=>wpSIn_of_wpIn rfl h
theorem aAq {fn:Func} {c₀:Frame} {cs cs':List Frame} {u':FrameMode} {Δ':List Tk} {e:Exit} (he:e= .ret\/e= .normal) (hr:fn.results=#[]) (hc:cs'={ c₀ with mode:=u' } :: cs) (hu:settle u'= .returning) (hd:Δ=Δ'):
 T β n [] Γ Δ (fun a w=>bodyPostS P fn c₀ cs (PostD β Δ') e a cs' w):=fun m L a w hF hL hS=>by
 subst hd
 have:a.defers=[]/\∃ u',cs'={ c₀ with mode:=u' } :: cs/\∃ v,(results fn a.tmps).run P w= .ok v w/\PostD β Δ (.returned v) u' w:=
  ⟨hF.Aa,u',hc, .tuple #[],by simp [results,hr,Sem.run,pure],⟨_,rfl⟩,hu,m,L,hS,hL⟩
 rcases he with rfl | rfl <;> exact this
theorem aCD {fn:Func} {Φ:AF} {Δ':Value->List Tk} (k:T β n ds Γ Δ (fun a w=>LeavesInM (fw none) 0 P fn a.tmps (eE β Φ Δ') a.defers .returning w)):T β n ds Γ Δ (bodyPostM (fw none) 0 P fn (eE β Φ Δ') .ret):=k
theorem fZ {fn:Func} {Φ:AF} {Δ':Value->List Tk} {c:List PanicEntry} (k:T β n ds Γ Δ (fun a w=>LeavesInM (fw none) 0 P fn a.tmps (eE β Φ Δ') a.defers (.panicking c) w)):T β n ds Γ Δ (bodyPostM (fw none) 0 P fn (eE β Φ Δ') (.panic c)):=k
theorem aFy {S T':TypeId} {x:Operand} {v:Value} (ho:o.op= .typeAssert x S T' true) (hx:Has Γ x (fEq (.iface T' v))) (hT:niB P T'=true) {z:Value} (hz:cT P T'=some z):OpT P Γ [] o (dI [fEq v,aL true]):=
 aHw ho hx hT hz (by simp [asTy])
def MethAt (P:Program) (T:TypeId) (u:Value) (name:String) (f:FuncId):Prop:=∀ w,(method (P.types.size+Made.depth) T u name).run P w= .ok (f,u) w
def Inv (P:Program) (v:Value) (name:String) (φs:List AF) (Φ:AF):Prop:=∃ t u f,v= .iface t u/\MethAt P t u name f/\Af P f/\FnS P f (fEq u :: φs) [] Φ (fun _=>[])
theorem FnS.args {f:FuncId} {φs ψs:List AF} {Φ:AF} {Δ':Value->List Tk} (h:FnS P f φs Δ Φ Δ') (k:aG ψs φs):FnS P f ψs Δ Φ Δ':=fun m L vs hv hL=>h m L vs (k.all hv) hL
variable {l:List NO} {e:Env'} {i:Nat} {od:Env'->OD} {G:Env'->Cf->(Nat->Tk)->Prop}
end
end Go.SW
namespace Go
section
variable {F:Fence} {n:Nat} {P:Program} {Q:Exit->Act->World->Prop} {a:Act} {w:World} {b:Frame} {k:List Item} {cs:List Frame}
theorem SW.stepR_scope {c:Code}:step P (lone (b.atR a (.code (.scope c) :: k)) cs w)= .next (lone (b.atR a (.code c :: .inScope c :: k)) cs w):=
 step_lone_go (by simp [stepG,stepG.exec,Frame.atR])
theorem SW.stepR_inScope {c:Code}:step P (lone (b.atR a (.inScope c :: k)) cs w)= .next (lone (b.atR a k) cs w):=
 step_lone_go (by simp [stepG,stepG.exec,Frame.atR])
theorem SW.wpIn_scope {c:Code} (h:c.wpIn F n P (Exit.noGoto Q) a w):(Code.scope c).wpIn F n P Q a w:=by
 intro b k cs hro hb hr
 have h0:(lone (b.atR a (.code (.scope c) :: k)) cs w).fenced P F:=fenced_calm hb hr rfl
 obtain⟨e,a₁,w₁,hq,harr⟩:=h b (.inScope c :: k) cs hro hb hr
 cases e with
 | normal=>exact⟨.normal,a₁,w₁,hq, .head h0 SW.stepR_scope (StepsIn.trans harr (.one (fenced_calm hb hr rfl) SW.stepR_inScope))⟩
 | exit id=>exact⟨.exit id,a₁,w₁,hq,fun k' hk=> .head h0 SW.stepR_scope (harr.1 k' (by simp [exitTo,hk])),fun hr' hk=>let ⟨k₁,h1,h2⟩:=harr.2 hr' (by simp [exitTo,hk]);⟨k₁,h1, .head h0 SW.stepR_scope h2⟩⟩
 | goto l=>exact hq.elim
 | ret=>exact⟨_,a₁,w₁,hq, .of_steps (.one h0 SW.stepR_scope) harr⟩
 | panic ch=>exact⟨_,a₁,w₁,hq, .of_steps (.one h0 SW.stepR_scope) harr⟩
 | outgrown=>exact⟨_,a₁,w₁,hq, .of_steps (.one h0 SW.stepR_scope) harr⟩
end
end Go
namespace Go.SW
open Go.SX
section
variable {P:Program} {β:bA} {n:Nat} {ds:List Deferred} {Γ:Ctx} {Δ R:List Tk} {r:Option Nat} {Q Q':Exit->Act->World->Prop} {F:Act->World->Prop} {ops:Array Oper} {o:Oper} {rest:List Oper}
variable {κ α:Type} {kd:Key κ} {vf:α->AF} {g g1:aI κ α}
theorem aI.ext' {a b:aI κ α} (h:a.get=b.get) (k:a.size=b.size):a=b:=by
 cases a;cases b;simp at h k;simp [h,k]
structure aBD (kd:Key κ) (vf:α->AF) (g g1:aI κ α) (m:Mem) (es:Array MapEntry) (clock since:Nat) (seen:Array Nat) (c0:Nat):Prop where
 is:gQ kd vf g m es clock
 old:∀ e∈es.toList,e.born<since
 sc:since<=c0
 cl:since<=clock
 part:∀ e∈es.toList,∀ k,e.key=kd.val k->g1.get k=if e.born∈seen.toList then g.get k else none
 none:∀ k,g.get k=none->g1.get k=none
 size:g1.size=es.toList.countP (fun e=>decide (e.born∈seen.toList))
theorem aBD.mono {m m':Mem} {es:Array MapEntry} {clock since:Nat} {seen:Array Nat} {c0:Nat} (hle:Mem.le m m') (h:aBD kd vf g g1 m es clock since seen c0):aBD kd vf g g1 m' es clock since seen c0:=
 ⟨h.is.mono hle,h.old,h.sc,h.cl,h.part,h.none,h.size⟩
end
open Go.SX
inductive OF where
 | pure (φ:AF)
 | own (f:Value->Tk) (h:∀ v m H,(f v).p m H->cO v)
def OF.tk:OF->Value->Tk
 | .pure φ,v=>⟨fun m H=>H=[]/\φ.p m v/\cO v,(by grind [AF.mono])⟩
 | .own f _,v=>f v
theorem OF.cell {f:OF} {v:Value} {m:Mem} {H:AW} (h:(f.tk v).p m H):cO v:=by
 cases f with
 | pure φ=>exact h.2.2
 | own f hf=>exact hf v m H h
def eV:List OF->Mem->List Value->AW->Prop
 | [],_,cs,H=>cs=[]/\H=[]
 | f :: fs,m,cs,H=>∃ c r H1 H2,cs=c :: r/\H=H1++H2/\(f.tk c).p m H1/\eV fs m r H2
theorem eV.mono {m m':Mem} (h:Mem.le m m'):∀ {fs:List OF} {cs:List Value} {H:AW},eV fs m cs H->eV fs m' cs H
 | [],_,_,k=>k
 | _ :: _,_,_,⟨c,r,H1,H2,e1,e2,h1,h2⟩=>⟨c,r,H1,H2,e1,e2,Tk.mono _ h h1,h2.mono h⟩
theorem eV.length {m:Mem}:∀ {fs:List OF} {cs:List Value} {H:AW},eV fs m cs H->cs.length=fs.length
 | [],_,_,⟨h,_⟩=>by rw [h];rfl
 | _ :: _,_,_,⟨c,r,H1,H2,e1,_,_,h2⟩=>by rw [e1];simp [h2.length]
theorem eV.cells {m:Mem}:∀ {fs:List OF} {cs:List Value} {H:AW},eV fs m cs H->∀ c∈cs,cO c
 | [],_,_,⟨h,_⟩=>by rw [h];simp
 | _ :: _,_,_,⟨c,r,H1,H2,e1,_,h1,h2⟩=>by
  rw [e1];intro x hx
  cases hx with
  | head=>exact OF.cell h1
  | tail _ hx=>exact h2.cells x hx
theorem eV.append {m:Mem}:∀ {fs gs:List OF} {cs ds:List Value} {H K:AW},eV fs m cs H->eV gs m ds K->eV (fs++gs) m (cs++ds) (H++K)
 | [],_,_,_,_,_,⟨h,h'⟩,k=>by rw [h,h'];exact k
 | _ :: _,_,_,_,_,_,⟨c,r,H1,H2,e1,e2,h1,h2⟩,k=>⟨c,r++_,H1,H2++_,by rw [e1];rfl,by grind,h1,h2.append k⟩
theorem eV.at {m:Mem}:∀ {fs:List OF} {cs:List Value} {H:AW} {p:Nat} {f:OF},eV fs m cs H->fs[p]? =some f->∃ c A K B,cs[p]? =some c/\H=A++(K++B)/\(f.tk c).p m K /\
 ∀ m' f' c' K',Mem.le m m'->(f'.tk c').p m' K'->eV (fs.set p f') m' (cs.set p c') (A++(K'++B))
 | [],_,_,p,f,_,hp=>by simp at hp
 | g :: fs,_,_,0,f,⟨c,r,H1,H2,e1,e2,h1,h2⟩,hp=>by
  have:g=f:=by simpa using hp
  subst this;exact⟨c,[],H1,H2,by rw [e1];rfl,by rw [e2];rfl,h1,fun m' f' c' K' hle hk=>⟨c',r,K',H2,by rw [e1];rfl,rfl,hk,h2.mono hle⟩⟩
 | g :: fs,_,_,p+1,f,⟨c,r,H1,H2,e1,e2,h1,h2⟩,hp=>by
  obtain⟨c0,A,K,B,h3,h4,h5,h6⟩:=eV.at h2 (by simpa using hp)
  exact⟨c0,H1++A,K,B,by rw [e1];simpa using h3,by grind,h5,fun m' f' c' K' hle hk=>⟨c,r.set p c',H1,A++(K'++B),by rw [e1];rfl,by rw [a0p],Tk.mono _ hle h1,h6 m' f' c' K' hle hk⟩⟩
structure OTy (α:Type) where
 sz:Nat
 AY:α->List OF
 len:∀ x,(AY x).length=sz
theorem kT {α:Type} {t:Ty α} {v:Value} {e:Nat} {xs:List α} (m:Mem) (H:AW) (h:(aB v e t xs).p m H):cO v:=let ⟨_,h1,_⟩:=h;h1.isCell
section
variable {P:Program} {β:bA} {n:Nat} {ds:List Deferred} {Γ:Ctx} {Δ R:List Tk} {r:Option Nat} {Q Q':Exit->Act->World->Prop} {F:Act->World->Prop} {ops:Array Oper} {o:Oper} {rest:List Oper}
def gZ:List OF->List AF->Prop
 | [],φs=>φs=[]
 | f :: fs,φs=>∃ φ r,φs=φ :: r/\(∀ v,Frz (f.tk v) φ v)/\gZ fs r
theorem gZ.nil:gZ [] []:=by simp [gZ]
theorem gZ.cons {f:OF} {φ:AF} {fs:List OF} {φs:List AF} (h:∀ v,Frz (f.tk v) φ v) (k:gZ fs φs):gZ (f :: fs) (φ :: φs):=⟨φ,φs,by simp,h,k⟩
theorem gZ.append:∀ {fs gs:List OF} {φs ψs:List AF},gZ fs φs->gZ gs ψs->gZ (fs++gs) (φs++ψs)
 | [],_,_,_,h,k=>by cases h;exact k
 | _ :: _,_,_,_,⟨φ,r,e,h1,h2⟩,k=>⟨φ,r++_,by rw [e];rfl,h1,h2.append k⟩
theorem gZ.all {m m':Mem} (hle:Mem.le m m'):∀ {fs:List OF} {φs:List AF} {cs:List Value} {H:AW},gZ fs φs->eV fs m cs H->(∀ x∈H,m' x.1=some x.2)->aU φs m' cs
 | [],_,_,_,h,⟨k,_⟩,_=>by cases h;rw [k];rfl
 | _ :: _,_,_,_,⟨φ,r,e,h1,h2⟩,⟨c,s,H1,H2,e1,e2,h3,h4⟩,hm=>by
  subst e e1 e2;exact⟨c,s,rfl,h1 c m H1 h3 m' hle (fun x hx=>(by grind)),gZ.all hle h2 h4 fun x hx=>(by grind)⟩
def IndF (φ:AF):Prop:=∀ m m' v,φ.p m v->φ.p m' v
def IndK (τ:Tk):Prop:=∀ m m' H,τ.p m H->τ.p m' H
def IndL (fs:List OF):Prop:=∀ f∈fs,∀ v,IndK (f.tk v)
theorem IndL.nil:IndL []:=fun _ h=>by cases h
theorem IndL.cons {f:OF} {fs:List OF} (h:∀ v,IndK (f.tk v)) (k:IndL fs):IndL (f :: fs):=by grind [IndL]
theorem eV.ind {m m':Mem}:∀ {fs:List OF} {cs:List Value} {H:AW},IndL fs->eV fs m cs H->eV fs m' cs H
 | [],_,_,_,k=>k
 | _ :: _,_,_,h,⟨c,r,H1,H2,e1,e2,h1,h2⟩=>⟨c,r,H1,H2,e1,e2,h _ (.head _) c m m' H1 h1,h2.ind fun g hg=>h g (.tail _ hg)⟩
theorem aU.ind {m m':Mem}:∀ {φs:List AF} {cs:List Value},(∀ φ∈φs,IndF φ)->aU φs m cs->aU φs m' cs
 | [],_,_,k=>k
 | φ :: _,_,h,⟨c,r,e,h1,h2⟩=>⟨c,r,e,h φ (.head _) m m' c h1,aU.ind (by grind) h2⟩
end
open Go.SX
open Classical in
def wH (Λ:List (Value × AF)) (m:Mem):Prop:=∀ p∈Λ,p.2.p m p.1
def FrzT (Δ:List Tk) (Λ:List (Value × AF)):Prop:=∀ m L,bB Δ m L->∀ m',Mem.le m m'->(∀ x∈L,m' x.1=some x.2)->wH Λ m'
theorem FrzT.nil:FrzT [] []:=fun _ _ _ _ _ _ _ h=>by cases h
theorem FrzT.cons {τ:Tk} {φ:AF} {v:Value} {Δ:List Tk} {Λ:List (Value × AF)} (h:Frz τ φ v) (k:FrzT Δ Λ):FrzT (τ :: Δ) ((v,φ) :: Λ):=fun m L ⟨H,R,e,h1,h2⟩ m' hle hm p hp=>by
 subst e
 cases hp with
 | head=>exact h m H h1 m' hle fun x hx=>by grind
 | tail _ hp=>exact k m R h2 m' hle (fun x hx=>(by grind)) p hp
def EntW (Λ:List (Value × AF)) (ψ φ:AF):Prop:=∀ m u,wH Λ m->ψ.p m u->φ.p m u
def kJ (Λ:List (Value × AF)):List AF->List AF->Prop
 | [],φs=>φs=[]
 | ψ :: ψs,φs=>∃ φ r,φs=φ :: r/\EntW Λ ψ φ/\kJ Λ ψs r
theorem kJ.nil {Λ:List (Value × AF)}:kJ Λ [] []:=by simp [kJ]
theorem kJ.cons {Λ:List (Value × AF)} {ψ φ:AF} {ψs φs:List AF} (h:EntW Λ ψ φ) (k:kJ Λ ψs φs):kJ Λ (ψ :: ψs) (φ :: φs):=⟨φ,φs,by simp,h,k⟩
theorem kJ.all {Λ:List (Value × AF)} {m:Mem} (hl:wH Λ m):∀ {ψs φs:List AF} {cs:List Value},kJ Λ ψs φs->aU ψs m cs->aU φs m cs
 | [],_,_,h,k=>by rw [h];exact k
 | _ :: _,_,_,⟨φ,r,e,h1,h2⟩,⟨c,s,e2,h3,h4⟩=>by rw [e];exact⟨c,s,e2,h1 m c hl h3,kJ.all hl h2 h4⟩
def iD (Γ:Ctx) (Λ:List (Value × AF)):List Operand->List AF->Prop
 | [],φs=>φs=[]
 | x :: xs,φs=>∃ φ r ψ,φs=φ :: r/\evT Γ x=some ψ/\EntW Λ ψ φ/\iD Γ Λ xs r
theorem iD.nil {Γ:Ctx} {Λ:List (Value × AF)}:iD Γ Λ [] []:=by simp [iD]
theorem iD.cons {Γ:Ctx} {Λ:List (Value × AF)} {x:Operand} {φ ψ:AF} {xs:List Operand} {φs:List AF} (h:evT Γ x=some ψ) (h2:EntW Λ ψ φ) (k:iD Γ Λ xs φs):iD Γ Λ (x :: xs) (φ :: φs):=by grind [iD]
theorem iD.all {n:Nat} {ds:List Deferred} {Γ:Ctx} {Λ:List (Value × AF)} {m m':Mem} {a:Act} (hF:FT n ds Γ m a) (hle:Mem.le m m') (hl:wH Λ m'):∀ {xs:List Operand} {φs:List AF},iD Γ Λ xs φs->aU φs m' (xs.map a.eval)
 | [],_,h=>by rw [h];rfl
 | x :: xs,_,⟨φ,r,ψ,e,h1,h2,h3⟩=>by rw [e];exact⟨_,_,rfl,h2 m' _ hl (ψ.mono hle (hF.eval h1)),iD.all hF hle hl h3⟩
theorem bB.ind {m m':Mem}:∀ {Δ:List Tk} {L:AW},(∀ τ∈Δ,IndK τ)->bB Δ m L->bB Δ m' L
 | [],_,_,h=>h
 | τ :: Δ,_,h,⟨H,R,e,h1,h2⟩=>⟨H,R,e,h τ (.head _) m m' H h1,bB.ind (by grind) h2⟩
section
variable {P:Program} {β:bA} {n:Nat} {ds:List Deferred} {Γ:Ctx} {Δ R:List Tk} {r:Option Nat} {Q Q':Exit->Act->World->Prop} {F:Act->World->Prop} {ops:Array Oper} {o:Oper} {rest:List Oper}
def jP:List OF->List AF->List Tk->Prop
 | [],φs,Δ=>φs=[]/\Δ=[]
 | .pure ψ :: fs,φs,Δ=>∃ φ r,φs=φ :: r/\Ent φ ψ/\eU ψ/\jP fs r Δ
 | .own f _ :: fs,φs,Δ=>∃ u r Δ',φs=fEq u :: r/\Δ=f u :: Δ'/\jP fs r Δ'
theorem jP.nil:jP [] [] []:=⟨rfl,rfl⟩
theorem jP.pure {φ ψ:AF} {fs:List OF} {φs:List AF} {Δ:List Tk} (h:Ent φ ψ) (hl:eU ψ) (k:jP fs φs Δ):jP (.pure ψ :: fs) (φ :: φs) Δ:=⟨φ,φs,rfl,h,hl,k⟩
theorem jP.own {f:Value->Tk} {hf:∀ v m H,(f v).p m H->cO v} {u:Value} {fs:List OF} {φs:List AF} {Δ:List Tk} (k:jP fs φs Δ):jP (.own f hf :: fs) (fEq u :: φs) (f u :: Δ):=⟨u,φs,Δ,rfl,rfl,k⟩
theorem jP.all {m:Mem}:∀ {fs:List OF} {φs:List AF} {Δ:List Tk} {cs:List Value} {L:AW},jP fs φs Δ->aU φs m cs->bB Δ m L->eV fs m cs L
 | [],_,_,_,_,⟨e1,e2⟩,h1,h2=>by subst e1 e2;exact⟨h1,h2⟩
 | .pure ψ :: fs,_,_,_,_,⟨φ,r,e1,he,hl,hk⟩,h1,h2=>by
  subst e1;obtain⟨c,s,e3,h3,h4⟩:=h1;exact⟨c,s,[],_,e3,rfl,⟨rfl,he m c h3,hl m c (he m c h3)⟩,hk.all h4 h2⟩
 | .own f _ :: fs,_,_,_,_,⟨u,r,Δ',e1,e2,hk⟩,h1,h2=>by
  subst e1 e2;obtain⟨c,s,e3,h3,h4⟩:=h1;obtain⟨H,R,e4,h5,h6⟩:=h2;have h3:c=u:=h3;subst h3;exact⟨c,s,H,R,e3,e4,h5,hk.all h4 h6⟩
variable {l:List NO} {e:Env'} {i:Nat} {od:Env'->OD} {G:Env'->Cf->(Nat->Tk)->Prop}
end
open Go.SX
def fOpt {α:Type} (t:Ty α) (x:Option α):AF:=⟨fun m v=>(x=none/\v= .pointer none)\/∃ y,x=some y/\(bV t y).p m v,(by grind [AF.mono])⟩
theorem ent_optS {α:Type} {t:Ty α} {y:α}:Ent (bV t y) (fOpt t (some y)):=fun _ _ h=> .inr ⟨y,rfl,h⟩
theorem jO {α:Type} {t:Ty α}:Ent (fEq (.pointer none)) (fOpt t none):=fun _ _ h=> .inl ⟨rfl,h⟩
section
variable {P:Program} {Γ:Ctx} {o:Oper}
theorem o_addW {T U:TypeId} {x y:Operand} {k:IntKind} {i j:Int} (ho:o.op= .binOp .add T x y U) (hx:Has Γ x (aT k i)) (hy:Has Γ y (aT k j)):OpT P Γ [] o (aT k (k.wrap (i+j))):=
 gR ho hx hy gY fun w=>by simp [binOp,Op.intArith,Sem.run,pure]
theorem o_mulW {T U:TypeId} {x y:Operand} {k:IntKind} {i j:Int} (ho:o.op= .binOp .mul T x y U) (hx:Has Γ x (aT k i)) (hy:Has Γ y (aT k j)):OpT P Γ [] o (aT k (k.wrap (i*j))):=
 gR ho hx hy gY fun w=>by simp [binOp,Op.intArith,Sem.run,pure]
def andI (k:IntKind) (x y:Int):Int:=k.wrap (BitVec.ofInt k.bits x &&& BitVec.ofInt k.bits y).toNat
theorem o_and {T U:TypeId} {x y:Operand} {k:IntKind} {i j:Int} (ho:o.op= .binOp .and T x y U) (hx:Has Γ x (aT k i)) (hy:Has Γ y (aT k j)):OpT P Γ [] o (aT k (andI k i j)):=
 gR ho hx hy gY fun w=>by simp [binOp,Op.intBits,Sem.run,pure,andI]
def shrI (k:IntKind) (x y:Int):Option Int:=if y<0 then none else some (x.fdiv (2 ^ (min y.toNat k.bits)))
theorem guard_sh {op:BinOp} {T:TypeId} {x y:Operand} {k k':IntKind} {i j:Int} (w:World):(eqGuard op T x y (.int k i) (.int k' j)).run P w= .ok () w:=by simp_all [eqGuard]
theorem o_shr {T U:TypeId} {x y:Operand} {k k':IntKind} {i j z:Int} (ho:o.op= .binOp .shr T x y U) (hx:Has Γ x (aT k i)) (hy:Has Γ y (aT k' j)) (h:shrI k i j=some z):OpT P Γ [] o (aT k z):=
 gR ho hx hy guard_sh fun w=>by
  unfold shrI at h;split at h
  ·cases h
  ·rename_i hj;cases h;simp [binOp,Op.shift,Sem.run,pure,hj]
def jB (k:IntKind) (x y:Int):Option Int:=if y=0 then none else some (x.tmod y)
def hJ (k:IntKind) (x y:Int):Option Int:=if y=0 then none else some (k.wrap (x.tdiv y))
theorem uF {T U:TypeId} {x y:Operand} {k:IntKind} {i j z:Int} (ho:o.op= .binOp .rem T x y U) (hx:Has Γ x (aT k i)) (hy:Has Γ y (aT k j)) (h:jB k i j=some z):OpT P Γ [] o (aT k z):=
 gR ho hx hy gY fun w=>by
  unfold jB at h;split at h
  ·cases h
  ·rename_i hj;cases h;simp [binOp,Op.intDiv,Sem.run,pure,hj]
theorem rT {T U:TypeId} {x y:Operand} {k:IntKind} {i j z:Int} (ho:o.op= .binOp .quo T x y U) (hx:Has Γ x (aT k i)) (hy:Has Γ y (aT k j)) (h:hJ k i j=some z):OpT P Γ [] o (aT k z):=
 gR ho hx hy gY fun w=>by
  unfold hJ at h;split at h
  ·cases h
  ·rename_i hj;cases h;simp [binOp,Op.intDiv,Sem.run,pure,hj]
theorem aDV {α:Type} {t:Ty α}:∀ (xs:List α) (k:Nat),(xs.take k).flatMap t.AY=(xs.flatMap t.AY).take (k*t.sz)
 | [],k=>by simp
 | x :: xs,0=>by simp
 | x :: xs,k+1=>by
  rw [List.take_succ_cons,a0w,a0w,aDV xs k,show(k+1)*t.sz=t.sz+k*t.sz from by rw [a1h];omega,aDS (t.len x)]
end
section
variable {β:bA} {n:Nat} {ds:List Deferred} {Γ:Ctx} {F:Act->World->Prop} {a0 a1 a2 a3 a4 a5 a6 a7 a8 a9 b0 b1 b2 b3 b4 b5 b6 b7 b8 b9 c0 c1 c2 c3 c4 c5 c6 c7 c8 c9 d:Tk} {R:List Tk}
theorem aP (h:T β n ds Γ (d :: a0 :: R) F):T β n ds Γ (a0 :: d :: R) F:=qM (a1e (l₁:=[a0])) h
theorem aQ (h:T β n ds Γ (d :: a0 :: a1 :: R) F):T β n ds Γ (a0 :: a1 :: d :: R) F:=qM (a1e (l₁:=[a0,a1])) h
theorem bD (h:T β n ds Γ (d :: a0 :: a1 :: a2 :: R) F):T β n ds Γ (a0 :: a1 :: a2 :: d :: R) F:=qM (a1e (l₁:=[a0,a1,a2])) h
theorem aR (h:T β n ds Γ (d :: a0 :: a1 :: a2 :: a3 :: R) F):T β n ds Γ (a0 :: a1 :: a2 :: a3 :: d :: R) F:=qM (a1e (l₁:=[a0,a1,a2,a3])) h
theorem gE (h:T β n ds Γ (d :: a0 :: a1 :: a2 :: a3 :: a4 :: R) F):T β n ds Γ (a0 :: a1 :: a2 :: a3 :: a4 :: d :: R) F:=qM (a1e (l₁:=[a0,a1,a2,a3,a4])) h
theorem qR (h:T β n ds Γ (d :: a0 :: a1 :: a2 :: a3 :: a4 :: a5 :: R) F):T β n ds Γ (a0 :: a1 :: a2 :: a3 :: a4 :: a5 :: d :: R) F:=qM (a1e (l₁:=[a0,a1,a2,a3,a4,a5])) h
theorem T_fr7 (h:T β n ds Γ (d :: a0 :: a1 :: a2 :: a3 :: a4 :: a5 :: a6 :: R) F):T β n ds Γ (a0 :: a1 :: a2 :: a3 :: a4 :: a5 :: a6 :: d :: R) F:=qM (a1e (l₁:=[a0,a1,a2,a3,a4,a5,a6])) h
end
open Go.SX
theorem aGc {β:bA} {m:Mem} {L:AW} {w:World} (h:St β m L w) (hfp:β.fp=[]) (may:MemPlace->Prop):β.w.keptBut w may:=by
 refine⟨h.os,h.output,fun i hi=>?_⟩
 grind [St.frame]
def iJ (W:World):Mem:=fun b=>W.heap[b]?
theorem st_memOf (W:World):St ⟨W,iJ W,[]⟩ (iJ W) [] W:=
 ⟨fun _ _ h=>h,fun x h=>(by cases h),fun x h=>(by cases h),List.nodup_nil,Mem.le_refl _,fun _ hb=>absurd rfl hb,fun x h=>(by cases h),a1l _,fun _ _ _=>rfl,rfl,rfl,rfl⟩
theorem FnS.calls {P:Program} {f:FuncId} {args:List AF} {Φ:AF} {W:World} {vs:List Value} (h:FnS P f args [] Φ (fun _=>[])) (hv:aU args (iJ W) vs):
 Calls P f vs.toArray W fun e w'=>∃ m' v,e= .returned v/\Φ.p m' v/\St ⟨W,iJ W,[]⟩ m' [] w':=
 (h (iJ W) [] vs hv rfl W (st_memOf W)).mono fun e w' ⟨m',L',hS,v,he,hp,hL⟩=>⟨m',v,he,hp,by have:L'=[]:=hL;subst this;exact hS⟩
open Go.SX
theorem hh {Γ:Ctx} {x:Operand} {φ:AF} (h:evT Γ x=some φ:=by exact rfl):Has Γ x φ:=has h
theorem bs {α γ:Type} {o:Option α} {f:α->Option γ} {r:γ} {G:Prop} (k:∀ x,o=some x->f x=some r->G) (h:o.bind f=some r):G:=let ⟨x,h1,h2⟩:=bind_some h;k x h1 h2
theorem is {γ:Type} {p:Prop} [Decidable p] {a b:Option γ} {r:γ} {G:Prop} (k:decide p=true->a=some r->G) (k':decide p=false->b=some r->G) (h:(if p then a else b)=some r):G:=by grind
theorem cs {γ:Type} {c:Bool} {a b:Option γ} {r:γ} {G:Prop} (k:c=true->a=some r->G) (k':c=false->b=some r->G) (h:(bif c then a else b)=some r):G:=by grind
section
variable {P:Program} {β:bA} {n:Nat} {ds:List Deferred} {Γ:Ctx} {Δ:List Tk} {r:Option Nat} {Q Q':Exit->Act->World->Prop} {N F:Act->World->Prop} {ops:Array Oper} {o:Oper} {rest:List Oper}
theorem Sr {id:Nat} {l:List Oper} {y:Code} (h:T β n ds Γ Δ (wpListIn (fw r) 0 P l.toArray (Exit.then (y.wpIn (fw r) 0 P Q) Q) l)):T β n ds Γ Δ ((Code.seq (Code.region id l.toArray false) y).wpIn (fw r) 0 P Q):=aK (aDF h)
theorem Nn (h:T β n ds Γ Δ N):T β n ds Γ Δ (wpListIn (fw r) 0 P ops (Exit.then N Q) []):=T_nil (aEq h)
theorem Rr (h:T β n ds Γ Δ (Q .ret)):T β n ds Γ Δ (Code.ret.wpIn (fw r) 0 P (Exit.then N Q)):=T_retc (aDJ h)
theorem Yy {d:Nat} {φ:AF} (h:OpT P Γ [] o φ) (k:T β n ds ((d,φ) :: Γ) Δ (wpListIn (fw r) 0 P ops Q rest)) (hw:bX ops Γ o:=by exact trivial) (hd:o.dst=some d:=by exact rfl) (hn:Nat.ble (d+1) n=true:=by exact rfl):T β n ds Γ Δ (wpListIn (fw r) 0 P ops Q (o :: rest)):=T_y hw hd hn h k
theorem Ym {d:Nat} {x:Operand} {φ:AF} (k:T β n ds ((d,φ) :: Γ) Δ (wpListIn (fw r) 0 P ops Q rest)) (hw:bX ops Γ o:=by exact trivial) (hd:o.dst=some d:=by exact rfl) (hn:Nat.ble (d+1) n=true:=by exact rfl) (ho:o.op= .move x:=by exact rfl) (hx:evT Γ x=some φ:=by exact rfl):
 T β n ds Γ Δ (wpListIn (fw r) 0 P ops Q (o :: rest)):=T_y hw hd hn (o_move ho (has hx)) k
theorem Ya {d:Nat} {x:Operand} {φ:AF} (k:T β n ds ((d,φ) :: Γ) Δ (wpListIn (fw r) 0 P ops Q rest)) (hw:bX ops Γ o:=by exact trivial) (hd:o.dst=some d:=by exact rfl) (hn:Nat.ble (d+1) n=true:=by exact rfl) (ho:o.op= .assign x:=by exact rfl) (hx:evT Γ x=some φ:=by exact rfl):
 T β n ds Γ Δ (wpListIn (fw r) 0 P ops Q (o :: rest)):=T_y hw hd hn (tQ ho (has hx)) k
theorem Sc {t:Nat} {φ:AF} {Γ':Ctx} (k:gC Γ' Γ) (h:lk Γ t=some φ:=by exact rfl):gC ((t,φ) :: Γ') Γ:=gC.cons (cM h) k
def GW (ops:Array Oper) (Γ:Ctx) (o:Oper) (c want:Bool):Prop:=∃ j d,o.guard=some (j,want)/\(ops[j]?).bind (·.dst)=some d/\lk Γ d=some (aL c)
theorem GW.wants {c want:Bool} (h:GW ops Γ o c want) (hc:c=want):bX ops Γ o:=by
 obtain⟨j,d,h1,h2,h3⟩:=h
 grind [bX]
theorem GW.unwants {c want:Bool} (h:GW ops Γ o c want) (hc:c≠want):tH ops Γ o:=by
 obtain⟨j,d,h1,h2,h3⟩:=h
 grind [nb,tH]
theorem Yg {d:Nat} {φ:AF} {c want:Bool} (hc:c=want) (h:OpT P Γ [] o φ) (k:T β n ds ((d,φ) :: Γ) Δ (wpListIn (fw r) 0 P ops Q rest)) (hg:GW ops Γ o c want:=by exact⟨_,_,rfl,rfl,rfl⟩) (hd:o.dst=some d:=by exact rfl) (hn:Nat.ble (d+1) n=true:=by exact rfl):
 T β n ds Γ Δ (wpListIn (fw r) 0 P ops Q (o :: rest)):=T_y (hg.wants hc) hd hn h k
theorem Yo {d:Nat} {φ:AF} {τ:Tk} (i:Nat) (hτ:Δ[i]? =some τ) (h:OpT P Γ [τ] o φ) (k:T β n ds ((d,φ) :: Γ) Δ (wpListIn (fw r) 0 P ops Q rest)) (hw:bX ops Γ o:=by exact trivial) (hd:o.dst=some d:=by exact rfl) (hn:Nat.ble (d+1) n=true:=by exact rfl):
 T β n ds Γ Δ (wpListIn (fw r) 0 P ops Q (o :: rest)):=T_o1 i hw hτ hd hn h k
theorem Yh {d:Nat} {φ:AF} {τ:Tk} {c want:Bool} (i:Nat) (hτ:Δ[i]? =some τ) (hc:c=want) (h:OpT P Γ [τ] o φ) (k:T β n ds ((d,φ) :: Γ) Δ (wpListIn (fw r) 0 P ops Q rest)) (hg:GW ops Γ o c want:=by exact⟨_,_,rfl,rfl,rfl⟩) (hd:o.dst=some d:=by exact rfl) (hn:Nat.ble (d+1) n=true:=by exact rfl):
 T β n ds Γ Δ (wpListIn (fw r) 0 P ops Q (o :: rest)):=T_o1 i (hg.wants hc) hτ hd hn h k
end
open Go.SX
def odS:Env'->OD:=fun _=> .skip
def odC (ps:List Nat) (wr:Bool) (φ:AF) (Δo:List Tk):Env'->OD:=fun _=> .op ps wr (fun _=>φ) (fun _=>Δo)
def odN (ps:List Nat) (wr:Bool) (Φ:Nat->Value->AF) (Δo:Nat->Value->List Tk):Env'->OD:=fun _=> .op ps wr (fun c=>Φ c.n c.v) (fun c=>Δo c.n c.v)
def od1 (j:Nat) (ps:List Nat) (wr:Bool) (Φ:Nat->Value->AF) (Δo:Nat->Value->List Tk):Env'->OD:=fun e=> .op ps wr (fun _=>Φ (e j).n (e j).v) (fun _=>Δo (e j).n (e j).v)
def od2 (j k:Nat) (ps:List Nat) (wr:Bool) (Φ:Nat->Value->Nat->Value->AF) (Δo:Nat->Value->Nat->Value->List Tk):Env'->OD:=
 fun e=> .op ps wr (fun _=>Φ (e j).n (e j).v (e k).n (e k).v) (fun _=>Δo (e j).n (e j).v (e k).n (e k).v)
def od3 (j k l:Nat) (ps:List Nat) (wr:Bool) (Φ:Nat->Value->Nat->Value->Nat->Value->AF) (Δo:Nat->Value->Nat->Value->Nat->Value->List Tk):Env'->OD:=
 fun e=> .op ps wr (fun _=>Φ (e j).n (e j).v (e k).n (e k).v (e l).n (e l).v) (fun _=>Δo (e j).n (e j).v (e k).n (e k).v (e l).n (e l).v)
def odN1 (j:Nat) (ps:List Nat) (wr:Bool) (Φ:Nat->Value->Nat->Value->AF) (Δo:Nat->Value->Nat->Value->List Tk):Env'->OD:=
 fun e=> .op ps wr (fun c=>Φ (e j).n (e j).v c.n c.v) (fun c=>Δo (e j).n (e j).v c.n c.v)
def odN2 (j k:Nat) (ps:List Nat) (wr:Bool) (Φ:Nat->Value->Nat->Value->Nat->Value->AF) (Δo:Nat->Value->Nat->Value->Nat->Value->List Tk):Env'->OD:=
 fun e=> .op ps wr (fun c=>Φ (e j).n (e j).v (e k).n (e k).v c.n c.v) (fun c=>Δo (e j).n (e j).v (e k).n (e k).v c.n c.v)
def odN3 (j k l:Nat) (ps:List Nat) (wr:Bool) (Φ:Nat->Value->Nat->Value->Nat->Value->Nat->Value->AF) (Δo:Nat->Value->Nat->Value->Nat->Value->Nat->Value->List Tk):Env'->OD:=
 fun e=> .op ps wr (fun c=>Φ (e j).n (e j).v (e k).n (e k).v (e l).n (e l).v c.n c.v) (fun c=>Δo (e j).n (e j).v (e k).n (e k).v (e l).n (e l).v c.n c.v)
section
variable {ods:List (Env'->OD)} {us:List Us} {ps:List Nat} {wr:Bool}
theorem FkS (h:cS ods us):cS (odS :: ods) (([],false,[]) :: us):= .cons (fits0 rfl rfl) h
theorem FkC {φ:AF} {Δo:List Tk} (h:cS ods us):cS (odC ps wr φ Δo :: ods) ((ps,wr,[]) :: us):= .cons (fits0 rfl rfl) h
theorem FkN {Φ:Nat->Value->AF} {Δo:Nat->Value->List Tk} (h:cS ods us):cS (odN ps wr Φ Δo :: ods) ((ps,wr,[]) :: us):= .cons (fits0 rfl rfl) h
theorem FkD1 {j:Nat} {Φ:Nat->Value->AF} {Δo:Nat->Value->List Tk} (h:cS ods us):cS (od1 j ps wr Φ Δo :: ods) ((ps,wr,[j]) :: us):= .cons (fits1 (od:=fun c=> .op ps wr (fun _=>Φ c.n c.v) (fun _=>Δo c.n c.v)) fun _=>⟨rfl,rfl⟩) h
theorem FkD2 {j k:Nat} {Φ:Nat->Value->Nat->Value->AF} {Δo:Nat->Value->Nat->Value->List Tk} (h:cS ods us):cS (od2 j k ps wr Φ Δo :: ods) ((ps,wr,[j,k]) :: us):=
 .cons (fits2 (od:=fun c d=> .op ps wr (fun _=>Φ c.n c.v d.n d.v) (fun _=>Δo c.n c.v d.n d.v)) fun _ _=>⟨rfl,rfl⟩) h
theorem FkD3 {j k l:Nat} {Φ:Nat->Value->Nat->Value->Nat->Value->AF} {Δo:Nat->Value->Nat->Value->Nat->Value->List Tk} (h:cS ods us):cS (od3 j k l ps wr Φ Δo :: ods) ((ps,wr,[j,k,l]) :: us):=
 .cons (fits3 (od:=fun c d b=> .op ps wr (fun _=>Φ c.n c.v d.n d.v b.n b.v) (fun _=>Δo c.n c.v d.n d.v b.n b.v)) fun _ _ _=>⟨rfl,rfl⟩) h
theorem FkN1 {j:Nat} {Φ:Nat->Value->Nat->Value->AF} {Δo:Nat->Value->Nat->Value->List Tk} (h:cS ods us):cS (odN1 j ps wr Φ Δo :: ods) ((ps,wr,[j]) :: us):= .cons (fits1 (od:=fun c=> .op ps wr (fun d=>Φ c.n c.v d.n d.v) (fun d=>Δo c.n c.v d.n d.v)) fun _=>⟨rfl,rfl⟩) h
theorem FkN2 {j k:Nat} {Φ:Nat->Value->Nat->Value->Nat->Value->AF} {Δo:Nat->Value->Nat->Value->Nat->Value->List Tk} (h:cS ods us):cS (odN2 j k ps wr Φ Δo :: ods) ((ps,wr,[j,k]) :: us):=
 .cons (fits2 (od:=fun c d=> .op ps wr (fun b=>Φ c.n c.v d.n d.v b.n b.v) (fun b=>Δo c.n c.v d.n d.v b.n b.v)) fun _ _=>⟨rfl,rfl⟩) h
theorem FkN3 {j k l:Nat} {Φ:Nat->Value->Nat->Value->Nat->Value->Nat->Value->AF} {Δo:Nat->Value->Nat->Value->Nat->Value->Nat->Value->List Tk} (h:cS ods us):cS (odN3 j k l ps wr Φ Δo :: ods) ((ps,wr,[j,k,l]) :: us):=
 .cons (fits3 (od:=fun c d a=> .op ps wr (fun b=>Φ c.n c.v d.n d.v a.n a.v b.n b.v) (fun b=>Δo c.n c.v d.n d.v a.n a.v b.n b.v)) fun _ _ _=>⟨rfl,rfl⟩) h
end
section
variable {P:Program} {r:Option Nat} {ops:Array Oper} {β:bA} {n:Nat} {ds:List Deferred} {Γ:Ctx} {Δ:List Tk} {o:Oper} {l:List NO} {e:Env'} {i:Nat} {G:Env'->Cf->(Nat->Tk)->Prop} {Q:Exit->Act->World->Prop}
theorem bQ {id:Nat} {lo:List Oper} {ods:List (Env'->OD)} {us:List Us} (h k q:Nat) (hm:P.follows .mixedOrders=true) (hle:(lo.take h).length=h) (hol:ods.length=h) (hq:(Δ++List.replicate k jQ).length=q)
 (hn:NC P r lo.toArray (NG P r lo.toArray β n ds Q (lo.drop h) q) (gL 0 (lo.take h) ods) env0 (lk Γ) (dOf (Δ++List.replicate k jQ))) (hu:cS ods us) (hB:(netB lo.toArray h us && ((lo.take h).zip us).all (wfU n q))=true):
 T β n ds Γ Δ ((Code.region id lo.toArray true).wpIn (fw r) 0 P Q):=by
 grind [T_net]
theorem My {d:Nat} {φ:AF} (h:OpT P Γ [] o φ) (k:∀ b,NC P r ops G l (e.set i b) (lk ((d,φ) :: Γ)) (dOf Δ)) (hw:bX ops Γ o:=by exact trivial) (hd:o.dst=some d:=by exact rfl):
 NC P r ops G ((i,o,odC [] false φ []) :: l) e (lk Γ) (dOf Δ):=N_y rfl (fun _=>rfl) hw hd h k
theorem Mg {d:Nat} {φ:AF} {c want:Bool} (hc:c=want) (h:OpT P Γ [] o φ) (k:∀ b,NC P r ops G l (e.set i b) (lk ((d,φ) :: Γ)) (dOf Δ)) (hg:GW ops Γ o c want:=by exact⟨_,_,rfl,rfl,rfl⟩) (hd:o.dst=some d:=by exact rfl):
 NC P r ops G ((i,o,odC [] false φ []) :: l) e (lk Γ) (dOf Δ):=N_y rfl (fun _=>rfl) (hg.wants hc) hd h k
theorem Mo {d:Nat} {φ:AF} {τ:Tk} (p:Nat) (hp:[p].map (dOf Δ)=[τ]) (h:OpT P Γ [τ] o φ) (k:∀ b,NC P r ops G l (e.set i b) (lk ((d,φ) :: Γ)) (dOf Δ)) (hw:bX ops Γ o:=by exact trivial) (hd:o.dst=some d:=by exact rfl):
 NC P r ops G ((i,o,odC [p] false φ [jQ]) :: l) e (lk Γ) (dOf Δ):=N_op (ps:=[p]) rfl (fun _=>rfl) hw hp hd h k
theorem Mn {d:Nat} (p:Nat) (f:Nat->Value) (τ:Nat->Tk) (hp:Δ[p]? =some jQ) (h:OpN P Γ o f τ) (k:∀ b u,NC P r ops G l (e.set i ⟨b,u⟩) (lk ((d,fEq (f b)) :: Γ)) (dOf (Δ.set p (τ b)))) (hw:bX ops Γ o:=by exact trivial) (hd:o.dst=some d:=by exact rfl):
 NC P r ops G ((i,o,odN [p] true (fun b _=>fEq (f b)) (fun b _=>[τ b])) :: l) e (lk Γ) (dOf Δ):=N_new rfl (fun _=>rfl) (fun _=>rfl) hw hp hd h k
theorem Mf {d:Nat} {f:Nat->Value} {τ:Nat->Tk} {φ:AF} (h:OpN P Γ o f τ) (hz:∀ b,Frz (τ b) φ (f b)) (k:∀ b,NC P r ops G l (e.set i b) (lk ((d,φ) :: Γ)) (dOf Δ)) (hw:bX ops Γ o:=by exact trivial) (hd:o.dst=some d:=by exact rfl):
 NC P r ops G ((i,o,odC [] true φ []) :: l) e (lk Γ) (dOf Δ):=N_newF rfl (fun _=>rfl) hw hd h hz k
theorem D1 {d:Nat} (j:Nat) (b:Nat) (u:Value) (Φ:Nat->Value->AF) (hj:e j=⟨b,u⟩) (h:OpT P Γ [] o (Φ b u)) (k:∀ c,NC P r ops G l (e.set i c) (lk ((d,Φ b u) :: Γ)) (dOf Δ)) (hw:bX ops Γ o:=by exact trivial) (hd:o.dst=some d:=by exact rfl):
 NC P r ops G ((i,o,od1 j [] false Φ (fun _ _=>[])) :: l) e (lk Γ) (dOf Δ):=N_y (f:=fun _=>[]) (by simp only [od1,hj]) (fun _=>rfl) hw hd h k
end
end Go.SW
