/- Parts of the proof: lemmas, and the steps through the program. -/
import Derived.Test.YtpgkejpnhnoipaaGreatFc0
import Derived.RecoverIn
import Derived.Scope
import GoSem.ClaimChange
import Derived.Test.YtpgkejpnhnoipaaGreatRows
set_option linter.unusedVariables false
set_option linter.unusedSimpArgs false
set_option maxRecDepth 100000
set_option maxHeartbeats 2000000
namespace Go.SW
open Go.SX
def FnD (P : Program) (f : FuncId) (args : List AJ) (Δ : List Tk) (u : FrameMode) (Δ' : List Tk) : Prop :=
 ∀ m L vs, aV args m vs -> cB Δ m L -> ∀ w, St ⟨w, m, L.map Prod.fst⟩ m L w -> CallsDIn (fw none) 0 P f vs.toArray u w fun e u' w' => (∃ v, e = .returned v) /\ settle u' = .returning /\ ∃ m' L', St ⟨w, m, L.map Prod.fst⟩ m' L' w' /\ cB Δ' m' L'
def PostD (β : bJ) (Δ' : List Tk) (e : Ending) (u' : FrameMode) (w' : World) : Prop := (∃ v, e = .returned v) /\ settle u' = .returning /\ ∃ m' L', St β m' L' w' /\ cB Δ' m' L'
section
variable {P : Program} {β : bJ} {n : Nat} {ds : List Deferred} {Γ : Ctx} {Δ R : List Tk} {r : Option Nat} {Q Q' : Exit -> Act -> World -> Prop} {F : Act -> World -> Prop} {ops : Array Oper} {o : Oper} {rest : List Oper}
theorem FnD_of {f : FuncId} {fn : Func} {c : Code} {N : Nat} {args : List AJ} {u : FrameMode} {Δ' : List Tk} (hf : P.funcs[f]? = some fn) (hb : fn.body = some c) (hN : fn.ntmps = N) (hle : Nat.ble args.length N = true)
  (k : ∀ β c₀ cs, c₀.mode = u -> T β N [] (mU args 0) Δ (fun a w => c.wpSIn (fw none) 0 P (bodyPostS P fn c₀ cs (PostD β Δ')) a (c₀ :: cs) w)) : FnD P f args Δ u Δ' := fun m L vs hv hL w hS => by
 refine callsDIn_of_wpSIn hf hb a1W fun c₀ cs hu => ?_
 refine k ⟨w, m, _⟩ c₀ cs hu m L _ w ⟨?_, rfl, fun t φ h => ?_⟩ hL hS
 ·have := a1x hle;have hl := hv.length;simp [hN]; omega
 ·obtain ⟨_, h2⟩ := aAm args 0 t φ h;simp only [Nat.sub_zero] at h2;obtain ⟨c, h3, h4⟩ := hv.get h2;have hlt := (a0J.1 h3).1;refine ⟨c, ?_, h4⟩;rw [a0c (by simpa using hlt)];simpa using h3
theorem aDX {x : Code} {id d e : Nat} {o0 o1 : Oper} {S : Exit -> Act -> List Frame -> World -> Prop} {cs cs' : List Frame} {v : Value} (hr : (match recoverD cs with | some p => p | none => (.nilIface, cs)) = (v, cs'))
  (h0 : o0.op = .call { callee := .builtin .recover, args := #[], argTypes := #[] }) (g0 : o0.guard = none) (d0 : o0.dst = some d) (h1 : o1.op = .assign (.tmp d)) (g1 : o1.guard = none) (d1 : o1.dst = some e) (hn : Nat.ble (d + 1) n = true /\ Nat.ble (e + 1) n = true)
  (k : T β n ds ((e, fEq v) :: (d, fEq v) :: Γ) Δ (fun a w => x.wpSIn (fw none) 0 P S a cs' w)) : T β n ds Γ Δ (fun a w => (Code.seq (.region id #[o0, o1] false) x).wpSIn (fw none) 0 P S a cs w) := fun m L a w hF hL hS => by
 refine wpSIn_seq (wpSIn_region ?_)
 have hF1 : FT n ds ((d, fEq v) :: Γ) m (a.put (some d) v) := hF.put (a1x hn.1) rfl
 have hF2 : FT n ds ((e, fEq v) :: (d, fEq v) :: Γ) m ((a.put (some d) v).put (some e) v) := hF1.put (a1x hn.2) rfl
 have he0 : ∀ w, (execOp a.eval o0).run P w = .ok .recover w := fun w => by simp [execOp, h0, resolve, invoke, builtin, a1O, Sem.run, pure]
 have hev : (a.put (some d) v).eval (.tmp d) = v := hF1.eval (x := .tmp d) (ψ := fEq v) (by simp [evT, lk])
 have he1 : ∀ w, (execOp (a.put (some d) v).eval o1).run P w = .ok (.value v) w := fun w => by simp [execOp, h1, hev, Sem.run, pure]
 have hl : List.range (#[o0, o1] : Array Oper).size = [0, 1] := rfl
 have i0 : (#[o0, o1] : Array Oper)[0]? = some o0 := rfl
 have i1 : (#[o0, o1] : Array Oper)[1]? = some o1 := rfl
 have w0 : Region.wanted o0 (yielded #[o0, o1] a.tmps) = true := by simp [Region.wanted, g0]
 have w1 : Region.wanted o1 (yielded #[o0, o1] (a.put (some d) v).tmps) = true := by simp [Region.wanted, g1]
 have hfin : wpOpsSIn (fw none) 0 P #[o0, o1] (Exit.thenS (x.wpSIn (fw none) 0 P S) S) [1] (a.put o0.dst v) cs' w := by
  rw [d0];simp only [wpOpsSIn, i1, w1, if_true, he1];rw [d1];exact ⟨fun _ _ => trivial, k m L _ w hF2 hL hS⟩
 rw [hl, wpOpsSIn]
 simp only [i0, w0, if_true, he0]
 refine ⟨fun _ _ => a1W, ?_⟩
 cases hrec : recoverD cs with
 | none => rw [hrec] at hr; cases hr; exact hfin
 | some p => rw [hrec] at hr; obtain ⟨v', cs''⟩ := p; cases hr; exact hfin
theorem T_inS {x : Code} {S : Exit -> Act -> List Frame -> World -> Prop} {cs : List Frame} (k : T β n ds Γ Δ (x.wpIn (fw none) 0 P (fun e a w => S e a cs w))) : T β n ds Γ Δ (fun a w => x.wpSIn (fw none) 0 P S a cs w) :=
 k.mono fun _ _ h => wpSIn_of_wpIn rfl h
theorem T_endD {fn : Func} {c₀ : Frame} {cs cs' : List Frame} {u' : FrameMode} {Δ' : List Tk} {e : Exit} (he : e = .ret \/ e = .normal) (hr : fn.results = #[]) (hc : cs' = { c₀ with mode := u' } :: cs) (hu : settle u' = .returning) (hd : Δ = Δ') :
  T β n [] Γ Δ (fun a w => bodyPostS P fn c₀ cs (PostD β Δ') e a cs' w) := fun m L a w hF hL hS => by
 subst hd
 have : a.defers = [] /\ ∃ u', cs' = { c₀ with mode := u' } :: cs /\ ∃ v, (results fn a.tmps).run P w = .ok v w /\ PostD β Δ (.returned v) u' w :=
  ⟨hF.AZ, u', hc, .tuple #[], by simp [results, hr, Sem.run, pure], ⟨_, rfl⟩, hu, m, L, hS, hL⟩
 rcases he with rfl | rfl <;> exact this
theorem T_defer {g : FuncId} {args : List Operand} {ts : Array TypeId} {vs : List Value} (hw : cN ops Γ o) (ho : o.op = .defer { callee := .value (.func g), args := args.toArray, argTypes := ts }) (hd : o.dst = none) (ha : iK Γ args vs)
  (k : T β n ({ target := .fn (.func g) #[], args := vs.toArray } :: ds) Γ Δ (wpListIn (fw none) 0 P ops Q rest)) : T β n ds Γ Δ (wpListIn (fw none) 0 P ops Q (o :: rest)) := fun m L a w hF hL hS => by
 have hx : args.map a.eval = vs := ha.eval (hF.evs o) (by rw [ho]; intro x hx; simp [Op.operands, Call.operands, hx])
 simp only [wpListIn, hw.wanted hF, if_true]
 refine ⟨fun _ _ => a1W, ?_⟩
 have h3 : o.semAt (fw none).round a.eval = execOp a.eval o := Oper.semAt_none _ _
 have hrun : (execOp a.eval o).run P w = .ok (.defer { target := .fn (.func g) #[], args := vs.toArray }) w := by
  have h4 : args.toArray.map a.eval = (args.map a.eval).toArray := by simp
  simp [execOp, ho, resolve, Act.eval, Deferred.ofValue, a1O, Sem.run, pure];rw [<- hx]
 rw [h3, hrun, Oper.uponIn_defer, hd]
 exact k m L _ w ⟨hF.size, by simp [Act.put, hF.AZ], hF.get⟩ hL hS
theorem T_outD {fn : Func} {g b c t : Nat} {T' : TypeId} {φ ψ ψ' : AJ} {u : FrameMode} (hu : u ≠ .run) (hr : fn.results = #[.tmp t, .cell c T']) (hv : gK Γ t φ) (hc : lk Γ c = some (fEq (ptr b))) (hT : Scal P T') (hg : Au P g)
  (hD : FnD P g [fEq (ptr b)] [aD b T' [ψ]] u [aD b T' [ψ']]) (hds : ds = [{ target := .fn (.func g) #[], args := #[ptr b] }]) (hΔ : Δ = [aD b T' [ψ]]) :
  T β n ds Γ Δ (fun a w => LeavesInM (fw none) 0 P fn a.tmps (fU β (eM [φ, ψ']) (fun _ => [])) a.defers u w) := fun m L a w hF hL hS => by
 subst hΔ
 rw [hF.AZ, hds]
 refine ⟨hu, .inr ⟨(fun h => by cases h), .func g, #[], g, #[ptr b], rfl, ?_, fun _ _ => a1W, ?_⟩⟩
 ·have := run_callFunc hg (#[ptr b]) w;simpa [invoke] using this
 ·have hS0 : St β m (L ++ []) w := by rw [a0u]; exact hS
  have hcall := hD m L [ptr b] ⟨_, [], rfl, rfl, rfl⟩ hL w hS0.start;refine ⟨a1W, fun c₀ cs hm hroom => ?_⟩
  obtain ⟨_, hcall⟩ := hcall;obtain ⟨e, u', w', fr, ⟨⟨v, he⟩, hset, m', L', hS', hL'⟩, h2⟩ := hcall c₀ cs hm hroom;subst he;refine ⟨_, u', w', fr, ?_, h2⟩;simp only [hset];have hb := back hS0 hS';rw [a0u] at hb;have hF' := hF.mono hS'.mle;obtain ⟨χ, h3, h4⟩ := hv;obtain ⟨v0, h5, h6⟩ := hF'.get t χ h3;obtain ⟨v1, h7, h8⟩ := hF'.get c _ hc;have h8 : v1 = ptr b := h8;subst h8;obtain ⟨cs', h9, h10⟩ := aBd hL' hb;obtain ⟨x, cr, e1, e2, e3⟩ := h9;have e3 : cr = [] := e3;subst e1 e3;have hcell := h10 0 x rfl;have hload : (loadVar T' ⟨b, 0, none⟩).run P w' = .ok x w' := by simp [loadVar, a1O, aEe hT, Sem.run, pure, hcell]
  refine ⟨.tuple #[v0, x], ?_, m', [], ?_, _, rfl, ⟨[v0, x], rfl, v0, [x], rfl, h4 m' v0 h6, x, [], rfl, e2, rfl⟩, rfl⟩
  ·simp [results, hr, a0b, h5, h7, a1O, Sem.run, pure, ptr, asAddr, hload]
  ·exact hb.drop (List.nil_sublist _)
theorem aHS {fn : Func} {Φ : AJ} {Δ' : Value -> List Tk} (k : T β n ds Γ Δ (fun a w => LeavesInM (fw none) 0 P fn a.tmps (fU β Φ Δ') a.defers .returning w)) : T β n ds Γ Δ (bodyPostM (fw none) 0 P fn (fU β Φ Δ') .ret) := k
theorem aHo {fn : Func} {Φ : AJ} {Δ' : Value -> List Tk} {c : List PanicEntry} (k : T β n ds Γ Δ (fun a w => LeavesInM (fw none) 0 P fn a.tmps (fU β Φ Δ') a.defers (.panicking c) w)) : T β n ds Γ Δ (bodyPostM (fw none) 0 P fn (fU β Φ Δ') (.panic c)) := k
theorem aH3 {S T' : TypeId} {x : Operand} {v : Value} (ho : o.op = .typeAssert x S T' true) (hx : Has Γ x (fEq (.iface T' v))) (hT : niB P T' = true) {z : Value} (hz : dC P T' = some z) : OpT P Γ [] o (eM [fEq v, aF true]) :=
 xB ho hx hT hz (by simp [eO])
def unI (T : TypeId) : Value -> Option Int
 | .iface t (.agg vs) => if t = T then (match vs.toList with | [.int .i64 e] => some e | _ => none) else none
 | _ => none
theorem unI_some {T : TypeId} {v : Value} {e : Int} (h : unI T v = some e) : v = .iface T (.agg #[.int .i64 e]) := by
 unfold unI at h
 split at h
 ·rename_i t vs;split at h
  ·subst_vars
   split at h
   ·rename_i e' hv;cases h;have : vs = #[.int .i64 e] := by rw [<- a0h (xs := vs), hv]
    rw [this]
   ·cases h
  ·cases h
 ·cases h
def MethAt (P : Program) (T : TypeId) (u : Value) (name : String) (f : FuncId) : Prop := ∀ w, (method (P.types.size + Made.depth) T u name).run P w = .ok (f, u) w
def Inv (P : Program) (v : Value) (name : String) (φs : List AJ) (Φ : AJ) : Prop := ∃ t u f, v = .iface t u /\ MethAt P t u name f /\ Au P f /\ FnS P f (fEq u :: φs) [] Φ (fun _ => [])
theorem FnS.args {f : FuncId} {φs ψs : List AJ} {Φ : AJ} {Δ' : Value -> List Tk} (h : FnS P f φs Δ Φ Δ') (k : aI ψs φs) : FnS P f ψs Δ Φ Δ' := fun m L vs hv hL => h m L vs (k.all hv) hL
theorem wp_callI {x : Operand} {name : String} {args : List Operand} {ts : Array TypeId} {t : TypeId} {u : Value} {f : FuncId} {vs : List Value} {post : Mem -> Ai -> Ending -> Prop} {m : Mem} {L R : Ai} {a : Act} {w : World} {K : Act -> World -> Prop}
  (ho : o.op = .call { callee := .invoke x name, args := args.toArray, argTypes := ts }) (hx : a.eval x = .iface t u) (hm : MethAt P t u name f) (hall : u :: args.map a.eval = vs) (hf : Au P f) (hc : FnX P f vs m L post) (hS : St β m (L ++ R) w)
  (kret : ∀ m' L' v w', Mem.le m m' -> post m' L' (.returned v) -> St β m' (L' ++ R) w' -> K (a.put o.dst v) w')
  (kpan : ∀ m' L' c w', Mem.le m m' -> post m' L' (.panicked c) -> St β m' (L' ++ R) w' -> Q (.panic c) a w') (kout : ∀ m' L', post m' L' .outgrown -> False) : o.wpIn (fw r) 0 P a w K Q := by
 have hnd : gF o.op = false := by rw [ho]; rfl
 have h3 : o.semAt (fw r).round a.eval = execOp a.eval o := Oper.semAt_eq _ _ _ fun c hc => by rw [hc] at hnd; cases hnd
 refine ⟨fun _ _ => a1W, ?_⟩
 have hrun : (execOp a.eval o).run P w = .ok (.enter f vs.toArray) w := by
  have h4 : args.toArray.map a.eval = (args.map a.eval).toArray := by simp
  have h5 : (#[u] ++ (args.map a.eval).toArray) = vs.toArray := by rw [<- hall]; simp
  have h6 : (#[a.eval x] ++ args.toArray.map a.eval).extract 1 (#[a.eval x] ++ args.toArray.map a.eval).size = (args.map a.eval).toArray := by
   apply Array.ext'; simp [a1p]
  have h7 : (#[a.eval x] ++ args.toArray.map a.eval)[0]? = some (a.eval x) := by simp
  have h8 : (callMethod (.iface t u) name (args.map a.eval).toArray).run P w = .ok (.enter f vs.toArray) w := by
   simp only [callMethod, a1O, run_program, a1N, hm w, h5, run_callFunc hf]
  simp only [execOp, ho, resolve, a1O];show ((invoke (.fn (.method name) #[]) (#[a.eval x] ++ args.toArray.map a.eval)).run P w) = _
  rw [hx] at h6 h7;simp only [invoke];rw [hx, h7];simp only
  rw [h6];exact h8
 rw [h3, hrun, Oper.uponIn_enter]
 refine ⟨(fun h => by cases h), aCM ((hc w hS.start).mono fun e w' ⟨m', L', hS', hp⟩ => ?_)⟩
 have hb := back hS hS'
 cases e with
 | returned v => exact kret m' L' v w' hS'.mle hp hb
 | panicked c => exact kpan m' L' c w' hS'.mle hp hb
 | outgrown => exact (kout m' L' hp).elim
variable {l : List NO} {e : Env'} {i : Nat} {od : Env' -> OD} {G : Env' -> Cf -> (Nat -> Tk) -> Prop}
theorem N_callI {x : Operand} {name : String} {args : List Operand} {ts : Array TypeId} {v : Value} {φs : List AJ} {Φ : AJ} {d : Nat} {Δ' : Oc -> List Tk} (hod : od e = .op [] true (fun _ => Φ) Δ') (hτ : ∀ b, Δ' b = []) (hw : cN ops Γ o) (ho : o.op = .call { callee := .invoke x name, args := args.toArray, argTypes := ts }) (hd : o.dst = some d)
  (hx : Has Γ x (fEq v)) (hargs : aM Γ args φs) (hi : Inv P v name φs Φ)
  (k : ∀ b, NC P r ops G l (e.set i b) (lk ((d, Φ) :: Γ)) (dOf Δ)) : NC P r ops G ((i, o, od) :: l) e (lk Γ) (dOf Δ) := by
 refine ⟨?_, fun b => ?_⟩
 ·simp only [hod];refine ⟨hw, ?_, fun b => by rw [hτ]; rfl⟩
  intro β n ds m L R a w K Q hF hL hS hk;have hL0 : L = [] := hL;subst hL0;have he := nT hF;obtain ⟨t, u, f, hv, hm, hf, hc⟩ := hi;subst hv;have hxx := he.get hx (by rw [ho]; simp [Op.operands, Call.operands])
  refine wp_callI (L := []) ho hxx hm rfl hf (hc m [] _ ⟨_, _, rfl, rfl, hargs.all' he (by rw [ho]; intro x hx; simp [Op.operands, Call.operands, hx])⟩ rfl) hS (fun m' L' v w' hle ⟨u, hv, h3, h4⟩ hS' => ?_) (fun m' L' c w' _ ⟨u, hv, _⟩ _ => by cases hv) (fun m' L' ⟨u, hv, _⟩ => by cases hv)
  cases hv;have h4 : L' = [] := h4;subst h4;exact hk default m' [] v w' hle h3 (by simp only [OD.wr, if_true]; rw [hτ]; rfl) hS'
 ·simp only [hod, fN, fB, if_true, hd, hτ];rw [xW]; exact k b
end
open Go.SX
section
variable {P : Program} {β : bJ} {n : Nat} {ds : List Deferred} {Γ : Ctx} {Δ R : List Tk} {r : Option Nat} {Q Q' : Exit -> Act -> World -> Prop} {F : Act -> World -> Prop} {ops : Array Oper} {o : Oper} {rest : List Oper}
variable {κ α : Type} {kd : Key κ} {vf : α -> AJ} {g g1 : bD κ α}
theorem bD.ext' {a b : bD κ α} (h : a.get = b.get) (k : a.size = b.size) : a = b := by
 cases a; cases b; simp at h k; simp [h, k]
structure aBi (kd : Key κ) (vf : α -> AJ) (g g1 : bD κ α) (m : Mem) (es : Array MapEntry) (clock since : Nat) (AO : Array Nat) (c0 : Nat) : Prop where
 is : hP kd vf g m es clock
 old : ∀ e ∈ es.toList, e.born < since
 sc : since <= c0
 cl : since <= clock
 part : ∀ e ∈ es.toList, ∀ k, e.key = kd.val k -> g1.get k = if e.born ∈ AO.toList then g.get k else none
 none : ∀ k, g.get k = none -> g1.get k = none
 size : g1.size = es.toList.countP (fun e => decide (e.born ∈ AO.toList))
theorem aBi.mono {m m' : Mem} {es : Array MapEntry} {clock since : Nat} {AO : Array Nat} {c0 : Nat} (hle : Mem.le m m') (h : aBi kd vf g g1 m es clock since AO c0) : aBi kd vf g g1 m' es clock since AO c0 :=
 ⟨h.is.mono hle, h.old, h.sc, h.cl, h.part, h.none, h.size⟩
end
open Go.SX
inductive OF where
 | pure (φ : AJ)
 | own (f : Value -> Tk) (h : ∀ v m H, (f v).p m H -> dS v)
def OF.tk : OF -> Value -> Tk
 | .pure φ, v => ⟨fun m H => H = [] /\ φ.p m v /\ dS v, fun h ⟨h1, h2, h3⟩ => ⟨h1, φ.mono h h2, h3⟩⟩
 | .own f _, v => f v
theorem OF.cell {f : OF} {v : Value} {m : Mem} {H : Ai} (h : (f.tk v).p m H) : dS v := by
 cases f with
 | pure φ => exact h.2.2
 | own f hf => exact hf v m H h
def fM : List OF -> Mem -> List Value -> Ai -> Prop
 | [], _, cs, H => cs = [] /\ H = []
 | f :: fs, m, cs, H => ∃ c r H1 H2, cs = c :: r /\ H = H1 ++ H2 /\ (f.tk c).p m H1 /\ fM fs m r H2
theorem fM.mono {m m' : Mem} (h : Mem.le m m') : ∀ {fs : List OF} {cs : List Value} {H : Ai}, fM fs m cs H -> fM fs m' cs H
 | [], _, _, k => k
 | _ :: _, _, _, ⟨c, r, H1, H2, e1, e2, h1, h2⟩ => ⟨c, r, H1, H2, e1, e2, Tk.mono _ h h1, h2.mono h⟩
theorem fM.length {m : Mem} : ∀ {fs : List OF} {cs : List Value} {H : Ai}, fM fs m cs H -> cs.length = fs.length
 | [], _, _, ⟨h, _⟩ => by rw [h]; rfl
 | _ :: _, _, _, ⟨c, r, H1, H2, e1, _, _, h2⟩ => by rw [e1]; simp [h2.length]
theorem fM.cells {m : Mem} : ∀ {fs : List OF} {cs : List Value} {H : Ai}, fM fs m cs H -> ∀ c ∈ cs, dS c
 | [], _, _, ⟨h, _⟩ => by rw [h]; simp
 | _ :: _, _, _, ⟨c, r, H1, H2, e1, _, h1, h2⟩ => by
  rw [e1]; intro x hx
  cases hx with
  | head => exact OF.cell h1
  | tail _ hx => exact h2.cells x hx
theorem fM.append {m : Mem} : ∀ {fs gs : List OF} {cs ds : List Value} {H K : Ai}, fM fs m cs H -> fM gs m ds K -> fM (fs ++ gs) m (cs ++ ds) (H ++ K)
 | [], _, _, _, _, _, ⟨h, h'⟩, k => by rw [h, h']; exact k
 | _ :: _, _, _, _, _, _, ⟨c, r, H1, H2, e1, e2, h1, h2⟩, k => ⟨c, r ++ _, H1, H2 ++ _, by rw [e1]; rfl, by rw [e2, a0t], h1, h2.append k⟩
theorem fM.at {m : Mem} : ∀ {fs : List OF} {cs : List Value} {H : Ai} {p : Nat} {f : OF}, fM fs m cs H -> fs[p]? = some f -> ∃ c A K B, cs[p]? = some c /\ H = A ++ (K ++ B) /\ (f.tk c).p m K /\
   ∀ m' f' c' K', Mem.le m m' -> (f'.tk c').p m' K' -> fM (fs.set p f') m' (cs.set p c') (A ++ (K' ++ B))
 | [], _, _, p, f, _, hp => by simp at hp
 | g :: fs, _, _, 0, f, ⟨c, r, H1, H2, e1, e2, h1, h2⟩, hp => by
  have : g = f := by simpa using hp
  subst this;exact ⟨c, [], H1, H2, by rw [e1]; rfl, by rw [e2]; rfl, h1, fun m' f' c' K' hle hk => ⟨c', r, K', H2, by rw [e1]; rfl, rfl, hk, h2.mono hle⟩⟩
 | g :: fs, _, _, p + 1, f, ⟨c, r, H1, H2, e1, e2, h1, h2⟩, hp => by
  obtain ⟨c0, A, K, B, h3, h4, h5, h6⟩ := fM.at h2 (by simpa using hp)
  exact ⟨c0, H1 ++ A, K, B, by rw [e1]; simpa using h3, by rw [e2, h4, a0t], h5, fun m' f' c' K' hle hk => ⟨c, r.set p c', H1, A ++ (K' ++ B), by rw [e1]; rfl, by rw [a0t], Tk.mono _ hle h1, h6 m' f' c' K' hle hk⟩⟩
structure OTy (α : Type) where
 sz : Nat
 An : α -> List OF
 len : ∀ x, (An x).length = sz
section
variable {P : Program} {β : bJ} {n : Nat} {ds : List Deferred} {Γ : Ctx} {Δ R : List Tk} {r : Option Nat} {Q Q' : Exit -> Act -> World -> Prop} {F : Act -> World -> Prop} {ops : Array Oper} {o : Oper} {rest : List Oper}
theorem tZ {α : Type} {t : Ty α} {z : α} {zs : List α} {T e by' : Nat} {x : Operand} {kd : IntKind} {k : Int} {zv : Value} (ho : o.op = .makeSlice T x x) (hx : Has Γ x (aX kd k)) (hT : ElT P T e t.sz by') (hb : Nat.ble by' 1000 = true) (hz : SX.Zero P e zv) (hzz : aI (zv.cells.toList.map fEq) (t.An z)) (h : mk z k = some zs) :
  OpN P Γ o (fun b => .slice (some ⟨b, 0, none⟩) zs.length zs.length) (fun b => aB (.slice (some ⟨b, 0, none⟩) zs.length zs.length) e t zs) :=
 ⟨by rw [ho]; rfl, fun β m a w he _ => by
  obtain ⟨ht, i, z', hi, h1, h2, hz', hzs⟩ := hT.spell;have hb := a1x hb;have : z' = zv := by
   unfold SX.Zero dC at hz;rw [hi] at hz;simp only [Option.bind_some] at hz;rw [hz'] at hz; exact a1L hz
  subst this;unfold mk at h;split at h
  ·rename_i hk;cases h;obtain ⟨j, rfl⟩ : ∃ j : Nat, k = (j : Int) := ⟨k.toNat, by omega⟩
   have hj : j <= 1000000000 := by omega
   have hx : a.eval x = _ := he.get hx (by rw [ho]; simp [Op.operands])
   have hr := run_make (P := P) w T e i z' ht hi hz' kd kd j j (by omega) (by omega) (by
    rw [h2];have : by' * j <= 1000 * 1000000000 := Nat.mul_le_mul hb hj
    have h5 : ((by' * j : Nat) : Int) <= 1000000000000 := by omega
    rw [Int.natCast_mul] at h5; omega) (by omega)
   simp only [a0r] at hr ⊢;rw [h1] at hr;refine ⟨.cells (madeCells z'.cells (j * t.sz)) e, ?_, ?_⟩
   ·simp [execOp, ho, hx, a1O, hr, Sem.run, pure]
   ·have hmade := aBk (m := m) (hzz.all (kA z'.cells.toList)) j;rw [<- aBc] at hmade;have hzl : z'.cells.toList.length = t.sz := by simpa using hzs
    rw [hzl] at hmade;simp only [a0h] at hmade;have hl := hmade.length;rw [lT] at hl;refine ⟨_, ⟨hl, .inr ⟨_, _, j, by simp, rfl, by simp [size_madeCells], by simp, by rw [List.take_length]⟩⟩, by simpa using hj, hmade⟩
  ·cases h⟩
def iD : List OF -> List AJ -> Prop
 | [], φs => φs = []
 | f :: fs, φs => ∃ φ r, φs = φ :: r /\ (∀ v, Frz (f.tk v) φ v) /\ iD fs r
theorem iD.nil : iD [] [] := by simp [iD]
theorem iD.cons {f : OF} {φ : AJ} {fs : List OF} {φs : List AJ} (h : ∀ v, Frz (f.tk v) φ v) (k : iD fs φs) : iD (f :: fs) (φ :: φs) := ⟨φ, φs, by simp, h, k⟩
theorem iD.append : ∀ {fs gs : List OF} {φs ψs : List AJ}, iD fs φs -> iD gs ψs -> iD (fs ++ gs) (φs ++ ψs)
 | [], _, _, _, h, k => by cases h; exact k
 | _ :: _, _, _, _, ⟨φ, r, e, h1, h2⟩, k => ⟨φ, r ++ _, by rw [e]; rfl, h1, h2.append k⟩
theorem iD.all {m m' : Mem} (hle : Mem.le m m') : ∀ {fs : List OF} {φs : List AJ} {cs : List Value} {H : Ai}, iD fs φs -> fM fs m cs H -> (∀ x ∈ H, m' x.1 = some x.2) -> aV φs m' cs
 | [], _, _, _, h, ⟨k, _⟩, _ => by cases h; rw [k]; rfl
 | _ :: _, _, _, _, ⟨φ, r, e, h1, h2⟩, ⟨c, s, H1, H2, e1, e2, h3, h4⟩, hm => by
  subst e e1 e2;exact ⟨c, s, rfl, h1 c m H1 h3 m' hle (fun x hx => hm x (a1c _ hx)), iD.all hle h2 h4 fun x hx => hm x (a1d _ hx)⟩
def IndF (φ : AJ) : Prop := ∀ m m' v, φ.p m v -> φ.p m' v
def IndK (τ : Tk) : Prop := ∀ m m' H, τ.p m H -> τ.p m' H
def IndL (fs : List OF) : Prop := ∀ f ∈ fs, ∀ v, IndK (f.tk v)
theorem IndL.nil : IndL [] := fun _ h => by cases h
theorem IndL.cons {f : OF} {fs : List OF} (h : ∀ v, IndK (f.tk v)) (k : IndL fs) : IndL (f :: fs) := fun g hg => by
 cases hg with
 | head => exact h
 | tail _ hg => exact k g hg
theorem fM.ind {m m' : Mem} : ∀ {fs : List OF} {cs : List Value} {H : Ai}, IndL fs -> fM fs m cs H -> fM fs m' cs H
 | [], _, _, _, k => k
 | _ :: _, _, _, h, ⟨c, r, H1, H2, e1, e2, h1, h2⟩ => ⟨c, r, H1, H2, e1, e2, h _ (.head _) c m m' H1 h1, h2.ind fun g hg => h g (.tail _ hg)⟩
theorem aV.ind {m m' : Mem} : ∀ {φs : List AJ} {cs : List Value}, (∀ φ ∈ φs, IndF φ) -> aV φs m cs -> aV φs m' cs
 | [], _, _, k => k
 | φ :: _, _, h, ⟨c, r, e, h1, h2⟩ => ⟨c, r, e, h φ (.head _) m m' c h1, aV.ind (fun ψ hψ => h ψ (.tail _ hψ)) h2⟩
end
open Go.SX
open Classical in
def zB (Λ : List (Value × AJ)) (m : Mem) : Prop := ∀ p ∈ Λ, p.2.p m p.1
def FrzT (Δ : List Tk) (Λ : List (Value × AJ)) : Prop := ∀ m L, cB Δ m L -> ∀ m', Mem.le m m' -> (∀ x ∈ L, m' x.1 = some x.2) -> zB Λ m'
theorem FrzT.nil : FrzT [] [] := fun _ _ _ _ _ _ _ h => by cases h
theorem FrzT.cons {τ : Tk} {φ : AJ} {v : Value} {Δ : List Tk} {Λ : List (Value × AJ)} (h : Frz τ φ v) (k : FrzT Δ Λ) : FrzT (τ :: Δ) ((v, φ) :: Λ) := fun m L ⟨H, R, e, h1, h2⟩ m' hle hm p hp => by
 subst e
 cases hp with
 | head => exact h m H h1 m' hle fun x hx => hm x (a1c _ hx)
 | tail _ hp => exact k m R h2 m' hle (fun x hx => hm x (a1d _ hx)) p hp
def EntW (Λ : List (Value × AJ)) (ψ φ : AJ) : Prop := ∀ m u, zB Λ m -> ψ.p m u -> φ.p m u
def mG (Λ : List (Value × AJ)) : List AJ -> List AJ -> Prop
 | [], φs => φs = []
 | ψ :: ψs, φs => ∃ φ r, φs = φ :: r /\ EntW Λ ψ φ /\ mG Λ ψs r
theorem mG.nil {Λ : List (Value × AJ)} : mG Λ [] [] := by simp [mG]
theorem mG.cons {Λ : List (Value × AJ)} {ψ φ : AJ} {ψs φs : List AJ} (h : EntW Λ ψ φ) (k : mG Λ ψs φs) : mG Λ (ψ :: ψs) (φ :: φs) := ⟨φ, φs, by simp, h, k⟩
theorem mG.all {Λ : List (Value × AJ)} {m : Mem} (hl : zB Λ m) : ∀ {ψs φs : List AJ} {cs : List Value}, mG Λ ψs φs -> aV ψs m cs -> aV φs m cs
 | [], _, _, h, k => by rw [h]; exact k
 | _ :: _, _, _, ⟨φ, r, e, h1, h2⟩, ⟨c, s, e2, h3, h4⟩ => by rw [e]; exact ⟨c, s, e2, h1 m c hl h3, mG.all hl h2 h4⟩
def HasW (Γ : Ctx) (Λ : List (Value × AJ)) : List Operand -> List AJ -> Prop
 | [], φs => φs = []
 | x :: xs, φs => ∃ φ r ψ, φs = φ :: r /\ evT Γ x = some ψ /\ EntW Λ ψ φ /\ HasW Γ Λ xs r
theorem HasW.nil {Γ : Ctx} {Λ : List (Value × AJ)} : HasW Γ Λ [] [] := by simp [HasW]
theorem HasW.cons {Γ : Ctx} {Λ : List (Value × AJ)} {x : Operand} {φ ψ : AJ} {xs : List Operand} {φs : List AJ} (h : evT Γ x = some ψ) (h2 : EntW Λ ψ φ) (k : HasW Γ Λ xs φs) : HasW Γ Λ (x :: xs) (φ :: φs) := ⟨φ, φs, ψ, by simp, h, h2, k⟩
theorem HasW.all {n : Nat} {ds : List Deferred} {Γ : Ctx} {Λ : List (Value × AJ)} {m m' : Mem} {a : Act} (hF : FT n ds Γ m a) (hle : Mem.le m m') (hl : zB Λ m') : ∀ {xs : List Operand} {φs : List AJ}, HasW Γ Λ xs φs -> aV φs m' (xs.map a.eval)
 | [], _, h => by rw [h]; rfl
 | x :: xs, _, ⟨φ, r, ψ, e, h1, h2, h3⟩ => by rw [e]; exact ⟨_, _, rfl, h2 m' _ hl (ψ.mono hle (hF.eval h1)), HasW.all hF hle hl h3⟩
theorem cB.ind {m m' : Mem} : ∀ {Δ : List Tk} {L : Ai}, (∀ τ ∈ Δ, IndK τ) -> cB Δ m L -> cB Δ m' L
 | [], _, _, h => h
 | τ :: Δ, _, h, ⟨H, R, e, h1, h2⟩ => ⟨H, R, e, h τ (.head _) m m' H h1, cB.ind (fun σ hσ => h σ (.tail _ hσ)) h2⟩
section
variable {P : Program} {β : bJ} {n : Nat} {ds : List Deferred} {Γ : Ctx} {Δ R : List Tk} {r : Option Nat} {Q Q' : Exit -> Act -> World -> Prop} {F : Act -> World -> Prop} {ops : Array Oper} {o : Oper} {rest : List Oper}
def jN : List OF -> List AJ -> List Tk -> Prop
 | [], φs, Δ => φs = [] /\ Δ = []
 | .pure ψ :: fs, φs, Δ => ∃ φ r, φs = φ :: r /\ Ent φ ψ /\ eY ψ /\ jN fs r Δ
 | .own f _ :: fs, φs, Δ => ∃ u r Δ', φs = fEq u :: r /\ Δ = f u :: Δ' /\ jN fs r Δ'
theorem jN.nil : jN [] [] [] := ⟨rfl, rfl⟩
theorem jN.pure {φ ψ : AJ} {fs : List OF} {φs : List AJ} {Δ : List Tk} (h : Ent φ ψ) (hl : eY ψ) (k : jN fs φs Δ) : jN (.pure ψ :: fs) (φ :: φs) Δ := ⟨φ, φs, rfl, h, hl, k⟩
theorem jN.own {f : Value -> Tk} {hf : ∀ v m H, (f v).p m H -> dS v} {u : Value} {fs : List OF} {φs : List AJ} {Δ : List Tk} (k : jN fs φs Δ) : jN (.own f hf :: fs) (fEq u :: φs) (f u :: Δ) := ⟨u, φs, Δ, rfl, rfl, k⟩
theorem jN.all {m : Mem} : ∀ {fs : List OF} {φs : List AJ} {Δ : List Tk} {cs : List Value} {L : Ai}, jN fs φs Δ -> aV φs m cs -> cB Δ m L -> fM fs m cs L
 | [], _, _, _, _, ⟨e1, e2⟩, h1, h2 => by subst e1 e2; exact ⟨h1, h2⟩
 | .pure ψ :: fs, _, _, _, _, ⟨φ, r, e1, he, hl, hk⟩, h1, h2 => by
  subst e1;obtain ⟨c, s, e3, h3, h4⟩ := h1;exact ⟨c, s, [], _, e3, rfl, ⟨rfl, he m c h3, hl m c (he m c h3)⟩, hk.all h4 h2⟩
 | .own f _ :: fs, _, _, _, _, ⟨u, r, Δ', e1, e2, hk⟩, h1, h2 => by
  subst e1 e2;obtain ⟨c, s, e3, h3, h4⟩ := h1;obtain ⟨H, R, e4, h5, h6⟩ := h2;have h3 : c = u := h3;subst h3;exact ⟨c, s, H, R, e3, e4, h5, hk.all h4 h6⟩
variable {l : List NO} {e : Env'} {i : Nat} {od : Env' -> OD} {G : Env' -> Cf -> (Nat -> Tk) -> Prop}
end
open Go.SX
theorem FnS.frz {P : Program} {f : FuncId} {args : List AJ} {Δ : List Tk} {τ : Value -> Tk} {φ : AJ} (h : FnS P f args Δ dN (fun v => [τ v])) (hf : ∀ v, Frz (τ v) φ v) : FnS P f args Δ φ (fun _ => []) := fun m L vs hv hL w hS => by
 refine (h m L vs hv hL w hS).mono fun e w' ⟨m', L', hS', v, he, _, hT⟩ => ?_
 obtain ⟨H, R, e1, h1, h2⟩ := hT
 have h2 : R = [] := h2
 subst h2 e1
 obtain ⟨m'', h3, h4, h5⟩ := vO hS'
 exact ⟨m'', [], h4, v, he, hf v m' H h1 m'' h3 h5, rfl⟩
open Go.SX
def fOpt {α : Type} (t : Ty α) (x : Option α) : AJ := ⟨fun m v => (x = none /\ v = .pointer none) \/ ∃ y, x = some y /\ (bO t y).p m v, fun h k => k.imp id fun ⟨y, e, z⟩ => ⟨y, e, (bO t y).mono h z⟩⟩
theorem ent_optS {α : Type} {t : Ty α} {y : α} : Ent (bO t y) (fOpt t (some y)) := fun _ _ h => .inr ⟨y, rfl, h⟩
theorem oV {α : Type} {t : Ty α} : Ent (fEq (.pointer none)) (fOpt t none) := fun _ _ h => .inl ⟨rfl, h⟩
theorem xS {α : Type} {t : Ty α} {x : Option α} {y : α} (h : x = some y) : Ent (fOpt t x) (bO t y) := fun m v k => by
 rcases k with ⟨e, _⟩ | ⟨z, e, hz⟩
 ·rw [h] at e; cases e
 ·rw [h] at e; cases e; exact hz
section
variable {P : Program} {Γ : Ctx} {o : Oper}
theorem o_addW {T U : TypeId} {x y : Operand} {k : IntKind} {i j : Int} (ho : o.op = .binOp .add T x y U) (hx : Has Γ x (aX k i)) (hy : Has Γ y (aX k j)) : OpT P Γ [] o (aX k (k.wrap (i + j))) :=
 gE ho hx hy jO fun w => by simp [binOp, Op.intArith, Sem.run, pure]
theorem o_mulW {T U : TypeId} {x y : Operand} {k : IntKind} {i j : Int} (ho : o.op = .binOp .mul T x y U) (hx : Has Γ x (aX k i)) (hy : Has Γ y (aX k j)) : OpT P Γ [] o (aX k (k.wrap (i * j))) :=
 gE ho hx hy jO fun w => by simp [binOp, Op.intArith, Sem.run, pure]
def andI (k : IntKind) (x y : Int) : Int := k.wrap (BitVec.ofInt k.bits x &&& BitVec.ofInt k.bits y).toNat
theorem o_and {T U : TypeId} {x y : Operand} {k : IntKind} {i j : Int} (ho : o.op = .binOp .and T x y U) (hx : Has Γ x (aX k i)) (hy : Has Γ y (aX k j)) : OpT P Γ [] o (aX k (andI k i j)) :=
 gE ho hx hy jO fun w => by simp [binOp, Op.intBits, Sem.run, pure, andI]
def shrI (k : IntKind) (x y : Int) : Option Int := if y < 0 then none else some (x.fdiv (2 ^ (min y.toNat k.bits)))
theorem guard_sh {op : BinOp} {T : TypeId} {x y : Operand} {k k' : IntKind} {i j : Int} (w : World) : (eqGuard op T x y (.int k i) (.int k' j)).run P w = .ok () w := by cases op <;> simp [eqGuard, Sem.run, pure]
theorem o_shr {T U : TypeId} {x y : Operand} {k k' : IntKind} {i j z : Int} (ho : o.op = .binOp .shr T x y U) (hx : Has Γ x (aX k i)) (hy : Has Γ y (aX k' j)) (h : shrI k i j = some z) : OpT P Γ [] o (aX k z) :=
 gE ho hx hy guard_sh fun w => by
  unfold shrI at h;split at h
  ·cases h
  ·rename_i hj; cases h; simp [binOp, Op.shift, Sem.run, pure, hj]
end
section
variable {β : bJ} {n : Nat} {ds : List Deferred} {Γ : Ctx} {F : Act -> World -> Prop} {a0 a1 a2 a3 a4 a5 a6 a7 a8 a9 b0 b1 b2 b3 b4 b5 b6 b7 b8 b9 c0 c1 c2 c3 c4 c5 c6 c7 c8 c9 d : Tk} {R : List Tk}
theorem bI (h : T β n ds Γ (d :: a0 :: R) F) : T β n ds Γ (a0 :: d :: R) F := oE (a1n (l₁ := [a0])) h
theorem eH (h : T β n ds Γ (d :: a0 :: a1 :: R) F) : T β n ds Γ (a0 :: a1 :: d :: R) F := oE (a1n (l₁ := [a0, a1])) h
theorem dM (h : T β n ds Γ (d :: a0 :: a1 :: a2 :: R) F) : T β n ds Γ (a0 :: a1 :: a2 :: d :: R) F := oE (a1n (l₁ := [a0, a1, a2])) h
theorem bH (h : T β n ds Γ (d :: a0 :: a1 :: a2 :: a3 :: R) F) : T β n ds Γ (a0 :: a1 :: a2 :: a3 :: d :: R) F := oE (a1n (l₁ := [a0, a1, a2, a3])) h
theorem cR (h : T β n ds Γ (d :: a0 :: a1 :: a2 :: a3 :: a4 :: R) F) : T β n ds Γ (a0 :: a1 :: a2 :: a3 :: a4 :: d :: R) F := oE (a1n (l₁ := [a0, a1, a2, a3, a4])) h
theorem aQ (h : T β n ds Γ (d :: a0 :: a1 :: a2 :: a3 :: a4 :: a5 :: R) F) : T β n ds Γ (a0 :: a1 :: a2 :: a3 :: a4 :: a5 :: d :: R) F := oE (a1n (l₁ := [a0, a1, a2, a3, a4, a5])) h
theorem dF (h : T β n ds Γ (d :: a0 :: a1 :: a2 :: a3 :: a4 :: a5 :: a6 :: R) F) : T β n ds Γ (a0 :: a1 :: a2 :: a3 :: a4 :: a5 :: a6 :: d :: R) F := oE (a1n (l₁ := [a0, a1, a2, a3, a4, a5, a6])) h
theorem T_fr8 (h : T β n ds Γ (d :: a0 :: a1 :: a2 :: a3 :: a4 :: a5 :: a6 :: a7 :: R) F) : T β n ds Γ (a0 :: a1 :: a2 :: a3 :: a4 :: a5 :: a6 :: a7 :: d :: R) F := oE (a1n (l₁ := [a0, a1, a2, a3, a4, a5, a6, a7])) h
theorem T_fr9 (h : T β n ds Γ (d :: a0 :: a1 :: a2 :: a3 :: a4 :: a5 :: a6 :: a7 :: a8 :: R) F) : T β n ds Γ (a0 :: a1 :: a2 :: a3 :: a4 :: a5 :: a6 :: a7 :: a8 :: d :: R) F := oE (a1n (l₁ := [a0, a1, a2, a3, a4, a5, a6, a7, a8])) h
end
open Go.SX
theorem aFc {β : bJ} {m : Mem} {L : Ai} {w : World} (h : St β m L w) (hfp : β.fp = []) (may : MemPlace -> Prop) : β.w.keptBut w may := by
 refine ⟨h.os, h.output, fun i hi => ?_⟩
 rw [h.frame i hi (by rw [hfp]; exact List.not_mem_nil)]
 cases β.w.heap[i]? with
 | none => rfl
 | some o =>
  cases o with
  | cells c t fr => exact ⟨rfl, rfl, rfl, fun j _ => rfl⟩
  | map es clock => exact .inr ⟨rfl, rfl⟩
  | _ => rfl
def iM (W : World) : Mem := fun b => W.heap[b]?
theorem st_memOf (W : World) : St ⟨W, iM W, []⟩ (iM W) [] W :=
 ⟨fun _ _ h => h, fun x h => (by cases h), fun x h => (by cases h), List.nodup_nil, Mem.le_refl _, fun _ hb => absurd rfl hb, fun x h => (by cases h), a1y _, fun _ _ _ => rfl, rfl, rfl, rfl⟩
theorem FnS.calls {P : Program} {f : FuncId} {args : List AJ} {Φ : AJ} {W : World} {vs : List Value} (h : FnS P f args [] Φ (fun _ => [])) (hv : aV args (iM W) vs) :
  Calls P f vs.toArray W fun e w' => ∃ m' v, e = .returned v /\ Φ.p m' v /\ St ⟨W, iM W, []⟩ m' [] w' :=
 (h (iM W) [] vs hv rfl W (st_memOf W)).mono fun e w' ⟨m', L', hS, v, he, hp, hL⟩ => ⟨m', v, he, hp, by have : L' = [] := hL; subst this; exact hS⟩
open Go.SX
theorem hh {Γ : Ctx} {x : Operand} {φ : AJ} (h : evT Γ x = some φ := by exact rfl) : Has Γ x φ := has h
theorem bs {α γ : Type} {o : Option α} {f : α -> Option γ} {r : γ} {G : Prop} (k : ∀ x, o = some x -> f x = some r -> G) (h : o.bind f = some r) : G := let ⟨x, h1, h2⟩ := bind_some h; k x h1 h2
theorem is {γ : Type} {p : Prop} [Decidable p] {a b : Option γ} {r : γ} {G : Prop} (k : decide p = true -> a = some r -> G) (k' : decide p = false -> b = some r -> G) (h : (if p then a else b) = some r) : G := (ite_some h).elim (fun x => k x.1 x.2) (fun x => k' x.1 x.2)
theorem cs {γ : Type} {c : Bool} {a b : Option γ} {r : γ} {G : Prop} (k : c = true -> a = some r -> G) (k' : c = false -> b = some r -> G) (h : (bif c then a else b) = some r) : G := (aHC h).elim (fun x => k x.1 x.2) (fun x => k' x.1 x.2)
section
variable {P : Program} {β : bJ} {n : Nat} {ds : List Deferred} {Γ : Ctx} {Δ : List Tk} {r : Option Nat} {Q Q' : Exit -> Act -> World -> Prop} {N F : Act -> World -> Prop} {ops : Array Oper} {o : Oper} {rest : List Oper}
theorem Sr {id : Nat} {l : List Oper} {y : Code} (h : T β n ds Γ Δ (wpListIn (fw r) 0 P l.toArray (Exit.then (y.wpIn (fw r) 0 P Q) Q) l)) : T β n ds Γ Δ ((Code.seq (Code.region id l.toArray false) y).wpIn (fw r) 0 P Q) := aJ (aB7 h)
theorem Nn (h : T β n ds Γ Δ N) : T β n ds Γ Δ (wpListIn (fw r) 0 P ops (Exit.then N Q) []) := T_nil (aCg h)
theorem Rr (h : T β n ds Γ Δ (Q .ret)) : T β n ds Γ Δ (Code.ret.wpIn (fw r) 0 P (Exit.then N Q)) := T_retc (aEl h)
theorem Yy {d : Nat} {φ : AJ} (h : OpT P Γ [] o φ) (k : T β n ds ((d, φ) :: Γ) Δ (wpListIn (fw r) 0 P ops Q rest)) (hw : cN ops Γ o := by exact trivial) (hd : o.dst = some d := by exact rfl) (hn : Nat.ble (d + 1) n = true := by exact rfl) : T β n ds Γ Δ (wpListIn (fw r) 0 P ops Q (o :: rest)) := T_y hw hd hn h k
theorem Ym {d : Nat} {x : Operand} {φ : AJ} (k : T β n ds ((d, φ) :: Γ) Δ (wpListIn (fw r) 0 P ops Q rest)) (hw : cN ops Γ o := by exact trivial) (hd : o.dst = some d := by exact rfl) (hn : Nat.ble (d + 1) n = true := by exact rfl) (ho : o.op = .move x := by exact rfl) (hx : evT Γ x = some φ := by exact rfl) :
  T β n ds Γ Δ (wpListIn (fw r) 0 P ops Q (o :: rest)) := T_y hw hd hn (bC ho (has hx)) k
theorem Ya {d : Nat} {x : Operand} {φ : AJ} (k : T β n ds ((d, φ) :: Γ) Δ (wpListIn (fw r) 0 P ops Q rest)) (hw : cN ops Γ o := by exact trivial) (hd : o.dst = some d := by exact rfl) (hn : Nat.ble (d + 1) n = true := by exact rfl) (ho : o.op = .assign x := by exact rfl) (hx : evT Γ x = some φ := by exact rfl) :
  T β n ds Γ Δ (wpListIn (fw r) 0 P ops Q (o :: rest)) := T_y hw hd hn (zT ho (has hx)) k
theorem Sc {t : Nat} {φ : AJ} {Γ' : Ctx} (k : bQ Γ' Γ) (h : lk Γ t = some φ := by exact rfl) : bQ ((t, φ) :: Γ') Γ := bQ.cons (bU h) k
def GW (ops : Array Oper) (Γ : Ctx) (o : Oper) (c want : Bool) : Prop := ∃ j d, o.guard = some (j, want) /\ (ops[j]?).bind (·.dst) = some d /\ lk Γ d = some (aF c)
theorem GW.wants {c want : Bool} (h : GW ops Γ o c want) (hc : c = want) : cN ops Γ o := by
 obtain ⟨j, d, h1, h2, h3⟩ := h
 unfold cN; rw [h1]; exact ⟨d, c, h2, h3, hc⟩
theorem GW.unwants {c want : Bool} (h : GW ops Γ o c want) (hc : c ≠ want) : uQ ops Γ o := by
 obtain ⟨j, d, h1, h2, h3⟩ := h
 exact ⟨j, want, d, _, h1, h2, h3, nb hc⟩
theorem Yg {d : Nat} {φ : AJ} {c want : Bool} (hc : c = want) (h : OpT P Γ [] o φ) (k : T β n ds ((d, φ) :: Γ) Δ (wpListIn (fw r) 0 P ops Q rest)) (hg : GW ops Γ o c want := by exact ⟨_, _, rfl, rfl, rfl⟩) (hd : o.dst = some d := by exact rfl) (hn : Nat.ble (d + 1) n = true := by exact rfl) :
  T β n ds Γ Δ (wpListIn (fw r) 0 P ops Q (o :: rest)) := T_y (hg.wants hc) hd hn h k
theorem Yt {d : Nat} {c : Bool} (hc : c = true) (k : T β n ds ((d, fEq undef) :: Γ) Δ (wpListIn (fw r) 0 P ops Q rest)) (hg : GW ops Γ o c false := by exact ⟨_, _, rfl, rfl, rfl⟩) (hd : o.dst = some d := by exact rfl) (hn : Nat.ble (d + 1) n = true := by exact rfl) :
  T β n ds Γ Δ (wpListIn (fw r) 0 P ops Q (o :: rest)) := cQ (hg.unwants (ne_ft hc)) hd hn k
theorem Yf {d : Nat} {c : Bool} (hc : c = false) (k : T β n ds ((d, fEq undef) :: Γ) Δ (wpListIn (fw r) 0 P ops Q rest)) (hg : GW ops Γ o c true := by exact ⟨_, _, rfl, rfl, rfl⟩) (hd : o.dst = some d := by exact rfl) (hn : Nat.ble (d + 1) n = true := by exact rfl) :
  T β n ds Γ Δ (wpListIn (fw r) 0 P ops Q (o :: rest)) := cQ (hg.unwants (ne_tf hc)) hd hn k
theorem Yo {d : Nat} {φ : AJ} {τ : Tk} (i : Nat) (hτ : Δ[i]? = some τ) (h : OpT P Γ [τ] o φ) (k : T β n ds ((d, φ) :: Γ) Δ (wpListIn (fw r) 0 P ops Q rest)) (hw : cN ops Γ o := by exact trivial) (hd : o.dst = some d := by exact rfl) (hn : Nat.ble (d + 1) n = true := by exact rfl) :
  T β n ds Γ Δ (wpListIn (fw r) 0 P ops Q (o :: rest)) := T_o1 i hw hτ hd hn h k
theorem Yh {d : Nat} {φ : AJ} {τ : Tk} {c want : Bool} (i : Nat) (hτ : Δ[i]? = some τ) (hc : c = want) (h : OpT P Γ [τ] o φ) (k : T β n ds ((d, φ) :: Γ) Δ (wpListIn (fw r) 0 P ops Q rest)) (hg : GW ops Γ o c want := by exact ⟨_, _, rfl, rfl, rfl⟩) (hd : o.dst = some d := by exact rfl) (hn : Nat.ble (d + 1) n = true := by exact rfl) :
  T β n ds Γ Δ (wpListIn (fw r) 0 P ops Q (o :: rest)) := T_o1 i (hg.wants hc) hτ hd hn h k
end
open Go.SX
def odS : Env' -> OD := fun _ => .skip
def odC (ps : List Nat) (wr : Bool) (φ : AJ) (Δo : List Tk) : Env' -> OD := fun _ => .op ps wr (fun _ => φ) (fun _ => Δo)
def odN (ps : List Nat) (wr : Bool) (Φ : Nat -> Value -> AJ) (Δo : Nat -> Value -> List Tk) : Env' -> OD := fun _ => .op ps wr (fun c => Φ c.n c.v) (fun c => Δo c.n c.v)
def od1 (j : Nat) (ps : List Nat) (wr : Bool) (Φ : Nat -> Value -> AJ) (Δo : Nat -> Value -> List Tk) : Env' -> OD := fun e => .op ps wr (fun _ => Φ (e j).n (e j).v) (fun _ => Δo (e j).n (e j).v)
def od2 (j k : Nat) (ps : List Nat) (wr : Bool) (Φ : Nat -> Value -> Nat -> Value -> AJ) (Δo : Nat -> Value -> Nat -> Value -> List Tk) : Env' -> OD :=
 fun e => .op ps wr (fun _ => Φ (e j).n (e j).v (e k).n (e k).v) (fun _ => Δo (e j).n (e j).v (e k).n (e k).v)
def od3 (j k l : Nat) (ps : List Nat) (wr : Bool) (Φ : Nat -> Value -> Nat -> Value -> Nat -> Value -> AJ) (Δo : Nat -> Value -> Nat -> Value -> Nat -> Value -> List Tk) : Env' -> OD :=
 fun e => .op ps wr (fun _ => Φ (e j).n (e j).v (e k).n (e k).v (e l).n (e l).v) (fun _ => Δo (e j).n (e j).v (e k).n (e k).v (e l).n (e l).v)
def odN1 (j : Nat) (ps : List Nat) (wr : Bool) (Φ : Nat -> Value -> Nat -> Value -> AJ) (Δo : Nat -> Value -> Nat -> Value -> List Tk) : Env' -> OD :=
 fun e => .op ps wr (fun c => Φ (e j).n (e j).v c.n c.v) (fun c => Δo (e j).n (e j).v c.n c.v)
def odN2 (j k : Nat) (ps : List Nat) (wr : Bool) (Φ : Nat -> Value -> Nat -> Value -> Nat -> Value -> AJ) (Δo : Nat -> Value -> Nat -> Value -> Nat -> Value -> List Tk) : Env' -> OD :=
 fun e => .op ps wr (fun c => Φ (e j).n (e j).v (e k).n (e k).v c.n c.v) (fun c => Δo (e j).n (e j).v (e k).n (e k).v c.n c.v)
def odN3 (j k l : Nat) (ps : List Nat) (wr : Bool) (Φ : Nat -> Value -> Nat -> Value -> Nat -> Value -> Nat -> Value -> AJ) (Δo : Nat -> Value -> Nat -> Value -> Nat -> Value -> Nat -> Value -> List Tk) : Env' -> OD :=
 fun e => .op ps wr (fun c => Φ (e j).n (e j).v (e k).n (e k).v (e l).n (e l).v c.n c.v) (fun c => Δo (e j).n (e j).v (e k).n (e k).v (e l).n (e l).v c.n c.v)
section
variable {ods : List (Env' -> OD)} {us : List Us} {ps : List Nat} {wr : Bool}
theorem FkS (h : dP ods us) : dP (odS :: ods) (([], false, []) :: us) := .cons (fits0 rfl rfl) h
theorem FkC {φ : AJ} {Δo : List Tk} (h : dP ods us) : dP (odC ps wr φ Δo :: ods) ((ps, wr, []) :: us) := .cons (fits0 rfl rfl) h
theorem FkN {Φ : Nat -> Value -> AJ} {Δo : Nat -> Value -> List Tk} (h : dP ods us) : dP (odN ps wr Φ Δo :: ods) ((ps, wr, []) :: us) := .cons (fits0 rfl rfl) h
theorem FkD1 {j : Nat} {Φ : Nat -> Value -> AJ} {Δo : Nat -> Value -> List Tk} (h : dP ods us) : dP (od1 j ps wr Φ Δo :: ods) ((ps, wr, [j]) :: us) := .cons (fits1 (od := fun c => .op ps wr (fun _ => Φ c.n c.v) (fun _ => Δo c.n c.v)) fun _ => ⟨rfl, rfl⟩) h
theorem FkD2 {j k : Nat} {Φ : Nat -> Value -> Nat -> Value -> AJ} {Δo : Nat -> Value -> Nat -> Value -> List Tk} (h : dP ods us) : dP (od2 j k ps wr Φ Δo :: ods) ((ps, wr, [j, k]) :: us) :=
 .cons (fits2 (od := fun c d => .op ps wr (fun _ => Φ c.n c.v d.n d.v) (fun _ => Δo c.n c.v d.n d.v)) fun _ _ => ⟨rfl, rfl⟩) h
theorem FkD3 {j k l : Nat} {Φ : Nat -> Value -> Nat -> Value -> Nat -> Value -> AJ} {Δo : Nat -> Value -> Nat -> Value -> Nat -> Value -> List Tk} (h : dP ods us) : dP (od3 j k l ps wr Φ Δo :: ods) ((ps, wr, [j, k, l]) :: us) :=
 .cons (fits3 (od := fun c d b => .op ps wr (fun _ => Φ c.n c.v d.n d.v b.n b.v) (fun _ => Δo c.n c.v d.n d.v b.n b.v)) fun _ _ _ => ⟨rfl, rfl⟩) h
theorem FkN1 {j : Nat} {Φ : Nat -> Value -> Nat -> Value -> AJ} {Δo : Nat -> Value -> Nat -> Value -> List Tk} (h : dP ods us) : dP (odN1 j ps wr Φ Δo :: ods) ((ps, wr, [j]) :: us) := .cons (fits1 (od := fun c => .op ps wr (fun d => Φ c.n c.v d.n d.v) (fun d => Δo c.n c.v d.n d.v)) fun _ => ⟨rfl, rfl⟩) h
theorem FkN2 {j k : Nat} {Φ : Nat -> Value -> Nat -> Value -> Nat -> Value -> AJ} {Δo : Nat -> Value -> Nat -> Value -> Nat -> Value -> List Tk} (h : dP ods us) : dP (odN2 j k ps wr Φ Δo :: ods) ((ps, wr, [j, k]) :: us) :=
 .cons (fits2 (od := fun c d => .op ps wr (fun b => Φ c.n c.v d.n d.v b.n b.v) (fun b => Δo c.n c.v d.n d.v b.n b.v)) fun _ _ => ⟨rfl, rfl⟩) h
theorem FkN3 {j k l : Nat} {Φ : Nat -> Value -> Nat -> Value -> Nat -> Value -> Nat -> Value -> AJ} {Δo : Nat -> Value -> Nat -> Value -> Nat -> Value -> Nat -> Value -> List Tk} (h : dP ods us) : dP (odN3 j k l ps wr Φ Δo :: ods) ((ps, wr, [j, k, l]) :: us) :=
 .cons (fits3 (od := fun c d a => .op ps wr (fun b => Φ c.n c.v d.n d.v a.n a.v b.n b.v) (fun b => Δo c.n c.v d.n d.v a.n a.v b.n b.v)) fun _ _ _ => ⟨rfl, rfl⟩) h
end
section
variable {P : Program} {r : Option Nat} {ops : Array Oper} {β : bJ} {n : Nat} {ds : List Deferred} {Γ : Ctx} {Δ : List Tk} {o : Oper} {l : List NO} {e : Env'} {i : Nat} {G : Env' -> Cf -> (Nat -> Tk) -> Prop} {Q : Exit -> Act -> World -> Prop}
theorem bL {id : Nat} {lo : List Oper} {ods : List (Env' -> OD)} {us : List Us} (h k q : Nat) (hm : P.follows .mixedOrders = true) (hle : (lo.take h).length = h) (hol : ods.length = h) (hq : (Δ ++ List.replicate k dA).length = q)
  (hn : NC P r lo.toArray (NG P r lo.toArray β n ds Q (lo.drop h) q) (gU 0 (lo.take h) ods) env0 (lk Γ) (dOf (Δ ++ List.replicate k dA))) (hu : dP ods us) (hB : (netB lo.toArray h us && ((lo.take h).zip us).all (wfU n q)) = true) :
  T β n ds Γ Δ ((Code.region id lo.toArray true).wpIn (fw r) 0 P Q) := by
 rw [a0j] at hB
 exact T_net h ods us k q hm hu hB.1 hle hol hB.2 hq hn
theorem My {d : Nat} {φ : AJ} (h : OpT P Γ [] o φ) (k : ∀ b, NC P r ops G l (e.set i b) (lk ((d, φ) :: Γ)) (dOf Δ)) (hw : cN ops Γ o := by exact trivial) (hd : o.dst = some d := by exact rfl) :
  NC P r ops G ((i, o, odC [] false φ []) :: l) e (lk Γ) (dOf Δ) := N_y rfl (fun _ => rfl) hw hd h k
theorem Mg {d : Nat} {φ : AJ} {c want : Bool} (hc : c = want) (h : OpT P Γ [] o φ) (k : ∀ b, NC P r ops G l (e.set i b) (lk ((d, φ) :: Γ)) (dOf Δ)) (hg : GW ops Γ o c want := by exact ⟨_, _, rfl, rfl, rfl⟩) (hd : o.dst = some d := by exact rfl) :
  NC P r ops G ((i, o, odC [] false φ []) :: l) e (lk Γ) (dOf Δ) := N_y rfl (fun _ => rfl) (hg.wants hc) hd h k
theorem Mo {d : Nat} {φ : AJ} {τ : Tk} (p : Nat) (hp : [p].map (dOf Δ) = [τ]) (h : OpT P Γ [τ] o φ) (k : ∀ b, NC P r ops G l (e.set i b) (lk ((d, φ) :: Γ)) (dOf Δ)) (hw : cN ops Γ o := by exact trivial) (hd : o.dst = some d := by exact rfl) :
  NC P r ops G ((i, o, odC [p] false φ [dA]) :: l) e (lk Γ) (dOf Δ) := dQ (ps := [p]) rfl (fun _ => rfl) hw hp hd h k
theorem Mt {d : Nat} {c : Bool} (hc : c = true) (k : ∀ b, NC P r ops G l (e.set i b) (lk ((d, fEq undef) :: Γ)) (dOf Δ)) (hg : GW ops Γ o c false := by exact ⟨_, _, rfl, rfl, rfl⟩) (hd : o.dst = some d := by exact rfl) : NC P r ops G ((i, o, odS) :: l) e (lk Γ) (dOf Δ) := cT rfl (hg.unwants (ne_ft hc)) hd k
theorem Mz {d : Nat} {c : Bool} (hc : c = false) (k : ∀ b, NC P r ops G l (e.set i b) (lk ((d, fEq undef) :: Γ)) (dOf Δ)) (hg : GW ops Γ o c true := by exact ⟨_, _, rfl, rfl, rfl⟩) (hd : o.dst = some d := by exact rfl) : NC P r ops G ((i, o, odS) :: l) e (lk Γ) (dOf Δ) := cT rfl (hg.unwants (ne_tf hc)) hd k
theorem Mn {d : Nat} (p : Nat) (f : Nat -> Value) (τ : Nat -> Tk) (hp : Δ[p]? = some dA) (h : OpN P Γ o f τ) (k : ∀ b u, NC P r ops G l (e.set i ⟨b, u⟩) (lk ((d, fEq (f b)) :: Γ)) (dOf (Δ.set p (τ b)))) (hw : cN ops Γ o := by exact trivial) (hd : o.dst = some d := by exact rfl) :
  NC P r ops G ((i, o, odN [p] true (fun b _ => fEq (f b)) (fun b _ => [τ b])) :: l) e (lk Γ) (dOf Δ) := N_new rfl (fun _ => rfl) (fun _ => rfl) hw hp hd h k
theorem Mf {d : Nat} {f : Nat -> Value} {τ : Nat -> Tk} {φ : AJ} (h : OpN P Γ o f τ) (hz : ∀ b, Frz (τ b) φ (f b)) (k : ∀ b, NC P r ops G l (e.set i b) (lk ((d, φ) :: Γ)) (dOf Δ)) (hw : cN ops Γ o := by exact trivial) (hd : o.dst = some d := by exact rfl) :
  NC P r ops G ((i, o, odC [] true φ []) :: l) e (lk Γ) (dOf Δ) := N_newF rfl (fun _ => rfl) hw hd h hz k
theorem D1 {d : Nat} (j : Nat) (b : Nat) (u : Value) (Φ : Nat -> Value -> AJ) (hj : e j = ⟨b, u⟩) (h : OpT P Γ [] o (Φ b u)) (k : ∀ c, NC P r ops G l (e.set i c) (lk ((d, Φ b u) :: Γ)) (dOf Δ)) (hw : cN ops Γ o := by exact trivial) (hd : o.dst = some d := by exact rfl) :
  NC P r ops G ((i, o, od1 j [] false Φ (fun _ _ => [])) :: l) e (lk Γ) (dOf Δ) := N_y (f := fun _ => []) (by simp only [od1, hj]) (fun _ => rfl) hw hd h k
theorem D2 {d : Nat} (j j2 : Nat) (b : Nat) (u : Value) (b2 : Nat) (u2 : Value) (Φ : Nat -> Value -> Nat -> Value -> AJ) (hj : e j = ⟨b, u⟩) (hj2 : e j2 = ⟨b2, u2⟩) (h : OpT P Γ [] o (Φ b u b2 u2)) (k : ∀ c, NC P r ops G l (e.set i c) (lk ((d, Φ b u b2 u2) :: Γ)) (dOf Δ)) (hw : cN ops Γ o := by exact trivial) (hd : o.dst = some d := by exact rfl) :
  NC P r ops G ((i, o, od2 j j2 [] false Φ (fun _ _ _ _ => [])) :: l) e (lk Γ) (dOf Δ) := N_y (f := fun _ => []) (by simp only [od2, hj, hj2]) (fun _ => rfl) hw hd h k
end
open Go.SX
structure cW (Q : Prop) : Prop where
 h : Q
def tb : List (Nat × Nat) -> Nat -> Option Nat
 | [], _ => none
 | (a, b) :: l, t => bif Nat.beq a t then some b else tb l t
theorem wM : ∀ {l : List (Nat × Nat)} {t k : Nat}, tb l t = some k -> (t, k) ∈ l
 | (a, b) :: l, t, k, h => by
  unfold tb at h;cases e : Nat.beq a t with
  | true => rw [e] at h; cases h; have := a1v e; subst this; exact .head _
  | false => rw [e] at h; exact .tail _ (wM h)
def tb3 : List (Nat × Nat × Nat) -> Nat -> Nat -> Option Nat
 | [], _, _ => none
 | (a, b, c) :: l, s, f => bif Nat.beq a s && Nat.beq b f then some c else tb3 l s f
theorem aEk : ∀ {l : List (Nat × Nat × Nat)} {s f k : Nat}, tb3 l s f = some k -> (s, f, k) ∈ l
 | (a, b, c) :: l, s, f, k, h => by
  unfold tb3 at h;cases e : Nat.beq a s && Nat.beq b f with
  | true =>
   rw [e] at h; cases h
   have e := Bool.and_eq_true_iff.1 e;have := a1v e.1; subst this;have := a1v e.2; subst this;exact .head _
  | false => rw [e] at h; exact .tail _ (aEk h)
def onb (x : Option Nat) (n : Nat) : Bool := match x with | some m => Nat.beq m n | none => false
theorem xP {x : Option Nat} {n : Nat} (h : onb x n = true) : x = some n := by
 cases x with
 | none => cases h
 | some m => rw [a1v h]
section
variable {P : Program}
def slB (P : Program) (t : TypeId) : Option Nat := match P.underlying t with | some (.slice e) => some e | _ => none
theorem us_of {l : List (Nat × Nat)} (h : (l.all fun p => onb (slB P p.1) p.2) = true) {t e : Nat} (k : tb l t = some e) : fW P t (.slice e) := by
 have := xP (a0s.1 h _ (wM k))
 unfold slB at this
 split at this
 ·rename_i q; cases this; exact q
 ·cases this
theorem el_of {l : List (Nat × Nat)} (h : (l.all fun p => onb (sM P p.1) p.2) = true) {t e : Nat} (k : tb l t = some e) : nM P t e := xP (a0s.1 h _ (wM k))
theorem sz_of {l : List (Nat × Nat)} (h : (l.all fun p => onb (mF P p.1) p.2) = true) {t e : Nat} (k : tb l t = some e) : gJ P t e := xP (a0s.1 h _ (wM k))
theorem ag_of {l : List (Nat × Nat)} (h : (l.all fun p => aggB P p.1 p.2) = true) {t e : Nat} (k : tb l t = some e) : jX P t e := a0s.1 h _ (wM k)
theorem sc_of {l : List Nat} (h : (l.all fun p => scalB P p) = true) {t : Nat} (k : (l.any fun p => Nat.beq p t) = true) : Scal P t := by
 obtain ⟨p, hp, e⟩ := List.any_eq_true.1 k
 have := a1v e; subst this
 exact a0s.1 h _ hp
theorem cb_of {l : List Nat} (h : (l.all fun p => callB P p) = true) {t : Nat} (k : (l.any fun p => Nat.beq p t) = true) : Au P t := by
 obtain ⟨p, hp, e⟩ := List.any_eq_true.1 k
 have := a1v e; subst this
 exact a0s.1 h _ hp
theorem fa_of {l : List (Nat × Nat × Nat)} (h : (l.all fun p => onb (yD P p.1 p.2.1) p.2.2) = true) {s f k : Nat} (e : tb3 l s f = some k) : sR P s f k := xP (a0s.1 h _ (aEk e))
def tb4 : List (Nat × Nat × Nat × Nat) -> Nat -> Option (Nat × Nat × Nat)
 | [], _ => none
 | (a, b) :: l, t => bif Nat.beq a t then some b else tb4 l t
theorem aCt : ∀ {l : List (Nat × Nat × Nat × Nat)} {t : Nat} {k : Nat × Nat × Nat}, tb4 l t = some k -> (t, k) ∈ l
 | (a, b) :: l, t, k, h => by
  unfold tb4 at h;cases e : Nat.beq a t with
  | true => rw [e] at h; cases h; have := a1v e; subst this; exact .head _
  | false => rw [e] at h; exact .tail _ (aCt h)
theorem et_of {l : List (Nat × Nat × Nat × Nat)} (h : (l.all fun p => elB P p.1 p.2.1 p.2.2.1 p.2.2.2) = true) {t e s b : Nat} (k : tb4 l t = some (e, s, b)) : ElT P t e s b := a0s.1 h _ (aCt k)
end
theorem o_nilP {α : Type} {P : Program} {Γ : Ctx} {o : Oper} {t : Ty α} {y : α} {x : Operand} (ho : o.op = .nilCheck x) (hx : Has Γ x (bO t y)) : OpT P Γ [] o (bO t y) := fY ho hx (fun _ _ ⟨p, h, _⟩ => ⟨p, h⟩)
theorem o_nilE {P : Program} {Γ : Ctx} {o : Oper} {p : Addr} {x : Operand} (ho : o.op = .nilCheck x) (hx : Has Γ x (fEq (.pointer (some p)))) : OpT P Γ [] o (fEq (.pointer (some p))) := fY ho hx (fun _ _ h => ⟨_, h⟩)
theorem cc {b w : Bool} (h : b = w := by first | with_reducible assumption | exact rfl | exact iQ (by with_reducible assumption) | exact iU (by with_reducible assumption)) : b = w := h
theorem ct {b : Bool} (h : b = true := by first | with_reducible assumption | exact rfl | exact iU (by with_reducible assumption)) : b = true := h
theorem cf {b : Bool} (h : b = false := by first | with_reducible assumption | exact rfl | exact iQ (by with_reducible assumption)) : b = false := h
theorem cn {b w : Bool} (h : b ≠ w := by first | exact ne_ft ct | exact ne_tf cf) : b ≠ w := h
section
variable {P : Program} {β : bJ} {n : Nat} {ds : List Deferred} {Γ : Ctx} {Δ : List Tk} {r : Option Nat} {Q Q' : Exit -> Act -> World -> Prop} {N F : Act -> World -> Prop} {ops : Array Oper} {o : Oper} {rest : List Oper}
theorem hl {xs : List Operand} {φs : List AJ} (h : aM Γ xs φs := by repeat (first | exact aM.nil | apply aM.cons (has rfl))) : aM Γ xs φs := h
theorem Tc {g : Operand} {args : List Operand} {ts : Array TypeId} {f : FuncId} {first captured : Array Value} {φs ψs : List AJ} {Δi Δr Δo : List Tk} {Φ : AJ} {d : Option Nat} (hc : FnS P f ψs Δi Φ (fun _ => Δo)) (k : T β n ds (putG d Φ Γ) (Δo ++ Δr) (wpListIn (fw r) 0 P ops Q rest))
  (hw : cN ops Γ o := by first | exact trivial | exact ⟨_, _, rfl, rfl, cc⟩) (ho : o.op = .call { callee := .value g, args := args.toArray, argTypes := ts } := by exact rfl) (hd : o.dst = d := by exact rfl) (hn : dstOk d n = true := by exact rfl) (hg : Has Γ g (fEq (.func (.func f) first captured)) := by exact has rfl)
  (hargs : aM Γ args φs := by exact hl) (hall : first.toList.map fEq ++ φs ++ captured.toList.map fEq = ψs := by exact rfl) (hf : Au P f := by exact cb rfl) (hΔ : Δ = Δi ++ Δr := by exact rfl) : T β n ds Γ Δ (wpListIn (fw r) 0 P ops Q (o :: rest)) := iN hw ho hd hn hg hargs hall hf hc hΔ k
theorem Tp {g : Operand} {args : List Operand} {ts : Array TypeId} {f : FuncId} {first captured : Array Value} {φs ψs : List AJ} {Δi Δr : List Tk} {c : List PanicEntry} (hc : FnP P f ψs Δi c) (k : T β n ds Γ Δr (Q (.panic c))) (hw : cN ops Γ o := by first | exact trivial | exact ⟨_, _, rfl, rfl, cc⟩)
  (ho : o.op = .call { callee := .value g, args := args.toArray, argTypes := ts } := by exact rfl) (hg : Has Γ g (fEq (.func (.func f) first captured)) := by exact has rfl) (hargs : aM Γ args φs := by exact hl) (hall : first.toList.map fEq ++ φs ++ captured.toList.map fEq = ψs := by exact rfl) (hf : Au P f := by exact cb rfl)
  (hΔ : Δ = Δi ++ Δr := by exact rfl) : T β n ds Γ Δ (wpListIn (fw r) 0 P ops Q (o :: rest)) := T_callP hw ho hg hargs hall hf hc hΔ k
def AllE (Γ : Ctx) (v : Value) : List Nat -> Prop
 | [] => True
 | s :: ss => lk Γ s = some (fEq v) /\ AllE Γ v ss
theorem AllE.all {v : Value} : ∀ {ss : List Nat}, AllE Γ v ss -> ∀ s ∈ ss, lk Γ s = some (fEq v)
 | _ :: _, h, _, .head _ => h.1
 | _ :: _, h, s, .tail _ k => AllE.all h.2 s k
theorem fz {v : Value} {ss : List Nat} (h : AllE Γ v ss := by repeat (first | exact trivial | refine ⟨by exact rfl, ?_⟩)) : ∀ s ∈ ss, lk Γ s = some (fEq v) := h.all
theorem Tn {d : Nat} {f : Nat -> Value} {τ : Nat -> Tk} (h : OpN P Γ o f τ) (k : ∀ b, T β n ds ((d, fEq (f b)) :: Γ) (τ b :: Δ) (wpListIn (fw r) 0 P ops Q rest)) (hw : cN ops Γ o := by first | exact trivial | exact ⟨_, _, rfl, rfl, cc⟩) (hd : o.dst = some d := by exact rfl) (hn : Nat.ble (d + 1) n = true := by exact rfl) :
  T β n ds Γ Δ (wpListIn (fw r) 0 P ops Q (o :: rest)) := sU hw hd hn h k
theorem sb {Γ' Γ : Ctx} (h : bQ Γ' Γ := by repeat (first | exact bQ.nil | refine Sc ?_)) : bQ Γ' Γ := h
theorem Tm {ι : Type} {ok : ι -> Prop} {Γf : ι -> Ctx} {Δf : ι -> List Tk} (i : ι) (h : ok i) (hs : bQ (Γf i) Γ := by exact sb) (hd : Δ = Δf i := by exact rfl) : T β n ds Γ Δ (fun a w => ∃ i, ok i /\ AtT β n ds (Γf i) (Δf i) a w) := cZ i h hs hd
theorem ij {α : Type} {a b : α} (h : some a = some b) : b = a := (a1L h).symm
theorem ls {n : Nat} : n < n + 1 := a1C n
theorem Tl {ι : Type} {c : Code} (ok : ι -> Prop) (μ : ι -> Nat) (Γf : ι -> Ctx) (Δf : ι -> List Tk) (i₀ : ι) (h₀ : ok i₀) (round : ∀ i, ok i -> T β n ds (Γf i) (Δf i) (c.wpIn (fw r) 0 P (Exit.then (fun a w => ∃ j, (ok j /\ μ j < μ i) /\ AtT β n ds (Γf j) (Δf j) a w) Q)))
  (hs : bQ (Γf i₀) Γ := by exact sb) (hd : Δ = Δf i₀ := by exact rfl) : T β n ds Γ Δ ((Code.loop c).wpIn (fw r) 0 P Q) := pD ok μ Γf Δf i₀ h₀ hs hd round
theorem To {fn : Func} {Φ : AJ} {Δ' : List Tk} {t : Nat} (hr : fn.results = #[.tmp t] := by exact rfl) (hv : gK Γ t Φ := by exact bU rfl) (hd : Δ = Δ' := by exact rfl) : T β n [] Γ Δ (bodyPost P fn (fU β Φ (fun _ => Δ')) .ret) := eE hr hv hd
theorem Zy {d : Nat} {φ : AJ} (hw : cN ops Γ o) (h : OpT P Γ [] o φ) (hd : o.dst = some d) (hn : Nat.ble (d + 1) n = true) (k : T β n ds ((d, φ) :: Γ) Δ (wpListIn (fw r) 0 P ops Q rest)) : T β n ds Γ Δ (wpListIn (fw r) 0 P ops Q (o :: rest)) := T_y hw hd hn h k
theorem Zg {d : Nat} {φ : AJ} {c want : Bool} (hg : GW ops Γ o c want) (hc : c = want) (h : OpT P Γ [] o φ) (hd : o.dst = some d) (hn : Nat.ble (d + 1) n = true) (k : T β n ds ((d, φ) :: Γ) Δ (wpListIn (fw r) 0 P ops Q rest)) :
  T β n ds Γ Δ (wpListIn (fw r) 0 P ops Q (o :: rest)) := T_y (hg.wants hc) hd hn h k
theorem Zk {d : Nat} {c want : Bool} (hg : GW ops Γ o c want) (hc : c ≠ want) (hd : o.dst = some d) (hn : Nat.ble (d + 1) n = true) (k : T β n ds ((d, fEq undef) :: Γ) Δ (wpListIn (fw r) 0 P ops Q rest)) :
  T β n ds Γ Δ (wpListIn (fw r) 0 P ops Q (o :: rest)) := cQ (hg.unwants hc) hd hn k
theorem Zo {d : Nat} {φ : AJ} {τ : Tk} (i : Nat) (hw : cN ops Γ o) (hτ : Δ[i]? = some τ) (h : OpT P Γ [τ] o φ) (hd : o.dst = some d) (hn : Nat.ble (d + 1) n = true) (k : T β n ds ((d, φ) :: Γ) Δ (wpListIn (fw r) 0 P ops Q rest)) :
  T β n ds Γ Δ (wpListIn (fw r) 0 P ops Q (o :: rest)) := T_o1 i hw hτ hd hn h k
theorem Zh {d : Nat} {φ : AJ} {τ : Tk} {c want : Bool} (i : Nat) (hg : GW ops Γ o c want) (hc : c = want) (hτ : Δ[i]? = some τ) (h : OpT P Γ [τ] o φ) (hd : o.dst = some d) (hn : Nat.ble (d + 1) n = true) (k : T β n ds ((d, φ) :: Γ) Δ (wpListIn (fw r) 0 P ops Q rest)) :
  T β n ds Γ Δ (wpListIn (fw r) 0 P ops Q (o :: rest)) := T_o1 i (hg.wants hc) hτ hd hn h k
end
section
variable {P : Program} {r : Option Nat} {ops : Array Oper} {β : bJ} {n : Nat} {ds : List Deferred} {Γ : Ctx} {Δ : List Tk} {o : Oper} {l : List NO} {e : Env'} {i : Nat} {G : Env' -> Cf -> (Nat -> Tk) -> Prop} {Q : Exit -> Act -> World -> Prop}
theorem Ny {d : Nat} {φ : AJ} (hw : cN ops Γ o) (h : OpT P Γ [] o φ) (hd : o.dst = some d) (k : ∀ b, NC P r ops G l (e.set i b) (lk ((d, φ) :: Γ)) (dOf Δ)) :
  NC P r ops G ((i, o, odC [] false φ []) :: l) e (lk Γ) (dOf Δ) := N_y rfl (fun _ => rfl) hw hd h k
theorem Ng {d : Nat} {φ : AJ} {c want : Bool} (hg : GW ops Γ o c want) (hc : c = want) (h : OpT P Γ [] o φ) (hd : o.dst = some d) (k : ∀ b, NC P r ops G l (e.set i b) (lk ((d, φ) :: Γ)) (dOf Δ)) :
  NC P r ops G ((i, o, odC [] false φ []) :: l) e (lk Γ) (dOf Δ) := N_y rfl (fun _ => rfl) (hg.wants hc) hd h k
theorem No {d : Nat} {φ : AJ} {τ : Tk} (p : Nat) (hw : cN ops Γ o) (hp : [p].map (dOf Δ) = [τ]) (h : OpT P Γ [τ] o φ) (hd : o.dst = some d) (k : ∀ b, NC P r ops G l (e.set i b) (lk ((d, φ) :: Γ)) (dOf Δ)) :
  NC P r ops G ((i, o, odC [p] false φ [dA]) :: l) e (lk Γ) (dOf Δ) := dQ (ps := [p]) rfl (fun _ => rfl) hw hp hd h k
theorem Nh {d : Nat} {φ : AJ} {τ : Tk} {c want : Bool} (p : Nat) (hg : GW ops Γ o c want) (hc : c = want) (hp : [p].map (dOf Δ) = [τ]) (h : OpT P Γ [τ] o φ) (hd : o.dst = some d) (k : ∀ b, NC P r ops G l (e.set i b) (lk ((d, φ) :: Γ)) (dOf Δ)) :
  NC P r ops G ((i, o, odC [p] false φ [dA]) :: l) e (lk Γ) (dOf Δ) := dQ (ps := [p]) rfl (fun _ => rfl) (hg.wants hc) hp hd h k
theorem Nc {g : Operand} {args : List Operand} {ts : Array TypeId} {f : FuncId} {first captured : Array Value} {φs ψs : List AJ} {Φ : AJ} {d : Nat} (hc : FnS P f ψs [] Φ (fun _ => [])) (k : ∀ b, NC P r ops G l (e.set i b) (lk ((d, Φ) :: Γ)) (dOf Δ)) (hw : cN ops Γ o := by first | exact trivial | exact ⟨_, _, rfl, rfl, cc⟩)
  (ho : o.op = .call { callee := .value g, args := args.toArray, argTypes := ts } := by exact rfl) (hd : o.dst = some d := by exact rfl) (hg : Has Γ g (fEq (.func (.func f) first captured)) := by exact has rfl) (hargs : aM Γ args φs := by exact hl) (hall : first.toList.map fEq ++ φs ++ captured.toList.map fEq = ψs := by exact rfl) (hf : Au P f := by exact cb rfl) :
  NC P r ops G ((i, o, odC [] true Φ []) :: l) e (lk Γ) (dOf Δ) := sF (od := odC [] true Φ []) rfl (fun _ => rfl) hw ho hd hg hargs hall hf hc k
theorem Nk {d : Nat} {c want : Bool} (hg : GW ops Γ o c want) (hc : c ≠ want) (hd : o.dst = some d) (k : ∀ b, NC P r ops G l (e.set i b) (lk ((d, fEq undef) :: Γ)) (dOf Δ)) : NC P r ops G ((i, o, odS) :: l) e (lk Γ) (dOf Δ) := cT rfl (hg.unwants hc) hd k
theorem fk {ods : List (Env' -> OD)} {us : List Us} (h : dP ods us := by repeat first | exact dP.nil | apply FkC | apply FkS | apply FkN | apply FkD1 | apply FkD2 | apply FkD3 | apply FkN1 | apply FkN2 | apply FkN3) : dP ods us := h
end
end Go.SW
namespace Go.Dt
open Go.SX Go.SW
abbrev fI (n : Int) : AJ := aX .i64 n
abbrev tI : Ty Int := cO .i64
structure AW where
 Op : Int
 N : Int
 AU : List AW
inductive qR (m : Mem) : Addr -> AW -> Prop
 | mk (p : Addr) (x : AW) (v2 : Value) (q2 : Nat -> Addr) : (∃ u, m.cell p = some u /\ (aX .i64 x.Op).p m u) -> (∃ u, m.cell (p.add 1) = some u /\ (aX .i64 x.N).p m u) -> m.cell (p.add 2) = some v2 -> Sl v2 x.AU.length 3 q2 -> x.AU.length <= 1000000000 -> (∀ (i : Nat) y, x.AU[i]? = some y -> qR m (q2 i) y) -> qR m p x
theorem qR.mono {m m' : Mem} (h : Mem.le m m') : ∀ {p : Addr} {x : AW}, qR m p x -> qR m' p x := fun {p x} k => by
 induction k with
 | mk p x v2 q2 e0 e1 c2 s2 l2 _r2 ih2 => exact .mk p x v2 q2 (let ⟨u, a, b⟩ := e0; ⟨u, Mem.cell_mono h a, AJ.mono _ h b⟩) (let ⟨u, a, b⟩ := e1; ⟨u, Mem.cell_mono h a, AJ.mono _ h b⟩) (Mem.cell_mono h c2) s2 l2 ih2
def eF (xs : List AW) : AJ := ⟨fun m v => ∃ q, Sl v xs.length 3 q /\ xs.length <= 1000000000 /\ ∀ (i : Nat) y, xs[i]? = some y -> qR m (q i) y, fun h ⟨q, h1, h2, h3⟩ => ⟨q, h1, h2, fun i y hy => (h3 i y hy).mono h⟩⟩
theorem rD {xs : List AW} : eY (eF xs) := fun _ _ ⟨_, h, _⟩ => h.isCell
def aO : Ty AW := ⟨3, fun x => [aX .i64 x.Op, aX .i64 x.N, eF x.AU], fun _ => rfl, fun x => (aL (aG trivial) (aL (aG trivial) (aL (rD) cE)))⟩
theorem aCu {m : Mem} {p : Addr} {x : AW} : aO.at m p x ↔ qR m p x := by
 constructor
 ·rintro ⟨cs, ⟨c0, r0, rfl, h0, ⟨c1, r1, rfl, h1, ⟨c2, r2, rfl, h2, hn⟩⟩⟩, hc⟩
  have hn : r2 = [] := hn;subst hn;obtain ⟨q2, s2, l2, a2⟩ := h2;exact .mk p x c2 q2 ⟨c0, hc 0 _ rfl, h0⟩ ⟨c1, hc 1 _ rfl, h1⟩ (hc 2 _ rfl) s2 l2 a2
 ·rintro ⟨p, x, v2, q2, ⟨u0, g0, e0⟩, ⟨u1, g1, e1⟩, g2, s2, l2, a2⟩
  refine ⟨[u0, u1, v2], ⟨u0, [u1, v2], rfl, e0, ⟨u1, [v2], rfl, e1, ⟨v2, [], rfl, ⟨q2, s2, l2, a2⟩, rfl⟩⟩⟩, fun j c hj => ?_⟩
  match j, hj with
  | 0, hj => cases hj; exact g0
  | 1, hj => cases hj; exact g1
  | 2, hj => cases hj; exact g2
  | j + 3, hj => simp at hj
theorem fX {xs : List AW} : eF xs = fSl aO xs := AJ.ext' fun m v => by
 constructor
 ·rintro ⟨q, h1, h2, h3⟩; exact ⟨q, h1, h2, fun i x hx => aCu.2 (h3 i x hx)⟩
 ·rintro ⟨q, h1, h2, h3⟩; exact ⟨q, h1, h2, fun i x hx => aCu.1 (h3 i x hx)⟩
theorem wP {φ : AJ} {xs : List AW} (h : Ent φ (fSl aO xs)) : Ent φ (eF xs) := by rw [fX]; exact h
structure Ao where
 Op : Int
 N : Int
 Aa : List AW
 AU : List Int
 AI : List Int
def aT : Ty Ao := ⟨5, fun x => [aX .i64 x.Op, aX .i64 x.N, fSl aO x.Aa, fSl (cO .i64) x.AU, fSl (cO .i64) x.AI], fun _ => rfl, fun x => (aL (aG trivial) (aL (aG trivial) (aL (aY) (aL (aY) (aL (aY) cE)))))⟩
structure Ar where
 At : Int
 Ap : Int
def aW : Ty Ar := ⟨2, fun x => [aX .i64 x.At, aX .i64 x.Ap], fun _ => rfl, fun x => (aL (aG trivial) (aL (aG trivial) cE))⟩
structure As where
 In : Int
 Ab : Int
def bB : Ty As := ⟨2, fun x => [aX .i64 x.In, aX .i64 x.Ab], fun _ => rfl, fun x => (aL (aG trivial) (aL (aG trivial) cE))⟩
structure Al where
 At : Int
 Af : List Int
 Ab : Int
def bF : Ty Al := ⟨3, fun x => [aX .i64 x.At, fSl (cO .i64) x.Af, aX .i64 x.Ab], fun _ => rfl, fun x => (aL (aG trivial) (aL (aY) (aL (aG trivial) cE)))⟩
structure AN where
 AP : List Ar
 AT : List As
 AS : List Al
def aA : Ty AN := ⟨3, fun x => [fSl aW x.AP, fSl bB x.AT, fSl bF x.AS], fun _ => rfl, fun x => (aL (aY) (aL (aY) (aL (aY) cE)))⟩
structure AF where
 AD : List ByteArray
 AI : List Int
 AB : List Ao
 AC : List AN
 AE : Int
def jI : Ty AF := ⟨5, fun x => [fSl aC x.AD, fSl (cO .i64) x.AI, fSl aT x.AB, fSl aA x.AC, aX .i64 x.AE], fun _ => rfl, fun x => (aL (aY) (aL (aY) (aL (aY) (aL (aY) (aL (aG trivial) cE)))))⟩
structure Ae where
 Op : Int
 N : Int
 Aa : List AW
 AU : List Int
def aK : Ty Ae := ⟨4, fun x => [aX .i64 x.Op, aX .i64 x.N, fSl aO x.Aa, fSl (cO .i64) x.AU], fun _ => rfl, fun x => (aL (aG trivial) (aL (aG trivial) (aL (aY) (aL (aY) cE))))⟩
structure AM where
 AD : List ByteArray
 AB : List Ae
 AC : List AN
 AE : Int
def iS : Ty AM := ⟨4, fun x => [fSl aC x.AD, fSl aK x.AB, fSl aA x.AC, aX .i64 x.AE], fun _ => rfl, fun x => (aL (aY) (aL (aY) (aL (aY) (aL (aG trivial) cE))))⟩
structure SolSpot where
 In : Int
 Dead : Bool
structure vX where
 Kind : Int
 N : Int
structure SolGroup where
 Def : Int
 At : Int
 Env : List vX
structure SolMsg where
 Vals : List vX
structure SolQ where
 Group : Int
 Index : Int
 At : Int
 Queue : List SolMsg
structure SolWait where
 At : Int
 Ab : Int
 Env : List vX
structure Sol where
 AT : List SolSpot
 Groups : List SolGroup
 AP : List SolQ
 Waits : List SolWait
structure SolStep where
 Wait : Int
 Group : Int
 Rule : Int
 Picks : List Int
structure Law07_Turn where
 N : Int
 X : SolStep
structure Ag where
 AF : AF
 AQ : List (List Int)
 AR : List (List Int)
 AO : List Bool
 AK : AM
def aEz : Ty Ag := ⟨12, fun x => jI.An x.AF ++ [fSl (tSl (cO .i64)) x.AQ, fSl (tSl (cO .i64)) x.AR, fSl aN x.AO] ++ iS.An x.AK, fun _ => rfl, fun x => (qQ (qQ (jI.cell x.AF) (aL (aY) (aL (aY) (aL (aY) cE)))) (iS.cell x.AK))⟩
structure Ad where
 f : AF
 AO : List Bool
 AQ : List (List Int)
 AV : List Int
 AR : List (List Int)
 p : AM
 bad : Bool
def qP : Ty Ad := ⟨14, fun x => jI.An x.f ++ [fSl aN x.AO, fSl (tSl (cO .i64)) x.AQ, fSl (cO .i64) x.AV, fSl (tSl (cO .i64)) x.AR] ++ iS.An x.p ++ [aF x.bad], fun _ => rfl, fun x => (qQ (qQ (qQ (jI.cell x.f) (aL (aY) (aL (aY) (aL (aY) (aL (aY) cE))))) (iS.cell x.p)) (aL (aG trivial) cE))⟩
structure Ah where
 p : AM
 AV : List Int
 Ak : List Int
 Aj : List Int
 bad : Bool
def tQ : Ty Ah := ⟨8, fun x => iS.An x.p ++ [fSl (cO .i64) x.AV, fSl (cO .i64) x.Ak, fSl (cO .i64) x.Aj, aF x.bad], fun _ => rfl, fun x => (qQ (iS.cell x.p) (aL (aY) (aL (aY) (aL (aY) (aL (aG trivial) cE)))))⟩
structure aAI where
 Deed : Int
 At : Int
 N : Int
 M : Int
 Vals : List vX
structure Ref06_turn where
 p : AM
 s : Sol
 events : List aAI
 work : Int
 much : Bool
structure Flat_machine where
 Sol : Sol
 v : Value
 events : List aAI
 work : Int
structure Am where
 p : AM
 AV : List Int
 AX : List Bool
 AZ : List Bool
def aAb : Ty Am := ⟨7, fun x => iS.An x.p ++ [fSl (cO .i64) x.AV, fSl aN x.AX, fSl aN x.AZ], fun _ => rfl, fun x => (qQ (iS.cell x.p) (aL (aY) (aL (aY) (aL (aY) cE))))⟩
structure Sol_flaw where
 e : Int
structure Sol_machine where
 Sol : Sol
 p : AM
 AV : List Int
 groups : List Int
 acts : bD Int Value
 events : List aAI
 work : Int
structure Scope_speaks where
def aFb : Ty Scope_speaks := ⟨0, fun x => [], fun _ => rfl, fun x => cE⟩
structure Scope_travels where
def aFk : Ty Scope_travels := ⟨0, fun x => [], fun _ => rfl, fun x => cE⟩
structure Scope_flaw where
 e : Int
structure Scope_decides where
def aGW : Ty Scope_decides := ⟨0, fun x => [], fun _ => rfl, fun x => cE⟩
structure Scope_declares where
def aFa : Ty Scope_declares := ⟨0, fun x => [], fun _ => rfl, fun x => cE⟩
structure Sol_job where
 node : Int
 at_ : Int
 env : List vX
end Go.Dt
namespace Go.SW
open Go.SX
section
variable {P : Program} {r : Option Nat} {ops : Array Oper} {Γ : Ctx} {Δ : List Tk} {o : Oper} {l : List NO} {e : Env'} {i : Nat} {G : Env' -> Cf -> (Nat -> Tk) -> Prop} {od : Env' -> OD}
theorem wJ {α : Type} {t : Ty α} {ty te by' d : Nat} {s x : Operand} {ys zs : List α} {Δ' : Oc -> List Tk} (hod : od e = .op [] true (fun _ => fSl t zs) Δ') (hτ : ∀ b, Δ' b = []) (hw : cN ops Γ o) (ho : o.op = .call { callee := .builtin .append, args := #[s, x], argTypes := #[ty, ty] }) (hd : o.dst = some d)
  (hs : Has Γ s (fEq (.slice none 0 0))) (hx : Has Γ x (fSl t ys)) (hT : ElT P ty te t.sz by') (hby : Nat.ble by' 1000 = true) (hz : dR ([] ++ ys) = some zs)
  (k : ∀ b, NC P r ops G l (e.set i b) (lk ((d, fSl t zs) :: Γ)) (dOf Δ)) : NC P r ops G ((i, o, od) :: l) e (lk Γ) (dOf Δ) := by
 refine ⟨?_, fun b => ?_⟩
 ·simp only [hod];refine ⟨hw, ?_, fun b => by rw [hτ]; rfl⟩
  intro β n ds m L R a w K Q hF hL hS hk;have hL0 : L = [] := hL;subst hL0;have he := nT hF;have hse : a.eval s = _ := he.get hs (by rw [ho]; simp [Op.operands, Call.operands])
  obtain ⟨q, ⟨src, cap, hue, _, hq⟩, hyB, hel⟩ := he.get hx (by rw [ho]; simp [Op.operands, Call.operands])
  have hcells : ∀ (l : List α) (f : Nat -> Addr), (∀ (i : Nat) y, l[i]? = some y -> t.at m (f i) y) -> ∃ ns, aV (l.flatMap t.An) m ns /\ ∀ (i j : Nat) c, i < l.length -> j < t.sz -> ns[i * t.sz + j]? = some c -> w.cell? ((f i).add j) = some c := by
   intro l;induction l with
   | nil => intro f _; exact ⟨[], rfl, fun i j c h => by simp at h⟩
   | cons y l ih =>
    intro f hf;obtain ⟨ns, h5, h6⟩ := ih (fun i => f (i + 1)) fun i z hz => hf (i + 1) z (by simpa using hz)
    obtain ⟨cy, h7, h8⟩ := hf 0 y rfl;have hcy : cy.length = t.sz := by rw [h7.length, t.len]
    refine ⟨cy ++ ns, by rw [a0B]; exact h7.append h5, fun i j c hi hj hc => ?_⟩
    cases i with
    | zero =>
     rw [Nat.zero_mul, a1G, a0C (by omega)] at hc;exact hS.cell (h8 j c hc)
    | succ i =>
     have : (i + 1) * t.sz + j = t.sz + (i * t.sz + j) := by rw [a1s]; omega
     rw [this, a0D (by omega), show t.sz + (i * t.sz + j) - cy.length = i * t.sz + j from by omega] at hc
     exact h6 i j c (by simpa using hi) hj hc
  obtain ⟨ns, hns, hnc⟩ := hcells ys q hel;refine aAD (xs := []) (A := []) (R := []) (B := R) ho hd hT hby hz hse hue hS rfl (by simpa using gH.nil (es := t.sz) (T := te)) rfl hns ⟨src, cap, rfl, fun hpos => ?_⟩ fun v' R' cs' w' h5 h6 h7 => ?_
  ·obtain ⟨p, rfl, hp⟩ := hq 0 hpos;refine ⟨p, rfl, fun j c hc => ?_⟩
   have hlt := (a0J.1 hc).1;rw [hns.length, lT] at hlt;have hsz : 0 < t.sz := by
    rcases a1w t.sz with h | h
    ·rw [h] at hlt; simp at hlt
    ·exact h
   have hi : j / t.sz < ys.length := (Nat.div_lt_iff_lt_mul hsz).2 hlt;have hdm : j / t.sz * t.sz + j % t.sz = j := by rw [Nat.mul_comm]; exact Nat.div_add_mod j t.sz
   have h9 := hnc (j / t.sz) (j % t.sz) c hi (Nat.mod_lt _ hsz) (by rw [hdm]; exact hc)
   obtain ⟨p', h10, h11⟩ := hq (j / t.sz) hi;cases h10;rw [<- h11, aBU, hdm] at h9;exact h9
  ·obtain ⟨m', g1, g2, g3⟩ := vO (H := R') (R := R) (by simpa using h7)
   have hp := cU (v := v') (e := te) (t := t) (xs := zs) m R' ⟨cs', h5, (qO hz).1 ▸ (qO hz).2, h6⟩ m' g1 g3;have := hk default m' [] _ _ g1 hp (by simp only [OD.wr, if_true]; rw [hτ]; rfl) g2
   rw [hd] at this;exact this
 ·simp only [hod, fN, fB, if_true, hd, hτ];rw [xW]; exact k b
end
section
variable {P : Program} {β : bJ} {n : Nat} {Γ : Ctx} {Δ : List Tk}
theorem yH {fn : Func} {Φ ψ : AJ} {Δ' : List Tk} {t u b sz : Nat} {ty ty' : TypeId} {φs : List AJ} (hr : fn.results = #[.cell t ty, .tmp u]) (hT : jX P ty sz) (hz : φs.length = sz) (hv : gK Γ t (fEq (ptr b))) (hu : gK Γ u ψ) (he : Ent (eG φs) Φ) (hd : Δ = aD b ty' φs :: Δ') :
  T β n [] Γ Δ (bodyPost P fn (fU β (eM [Φ, ψ]) (fun _ => Δ')) .ret) := fun m L a w hF hL hS => by
 subst hd
 obtain ⟨χ, h1, h2⟩ := hv
 obtain ⟨v, h3, h4⟩ := hF.get t χ h1
 have h5 : v = ptr b := h2 m v h4
 subst h5
 obtain ⟨_, g1, g2⟩ := hu
 obtain ⟨z, g3, g4⟩ := hF.get u _ g1
 obtain ⟨cs, R, rfl, h6, h7⟩ := tH hL
 have hlen : cs.length = sz := by rw [h6.length, hz]
 have hc : ∀ (j : Nat) c, cs[j]? = some c -> w.cell? (Addr.add ⟨b, 0, none⟩ j) = some c := fun j c hj => by
  rw [tW]; exact hS.own_cell (k := 0) (b := b) (c := cs.toArray) (T := ty') (fz := (0, 0)) rfl rfl rfl (by simpa using hj)
 refine ⟨hF.AZ, .tuple #[.agg cs.toArray, z], ?_, m, R, hS.drop (List.sublist_cons_self _ _), _, rfl, ⟨[.agg cs.toArray, z], rfl, _, [z], rfl, he m _ ⟨cs, rfl, h6⟩, z, [], rfl, g2 m z g4, rfl⟩, h7⟩
 have h8 := SX.run_loadCellsFrom (P := P) (w := w) (p := ⟨b, 0, none⟩) cs 0 #[] (fun j v hj => by simpa using hc j v hj)
 have hload : (loadVar ty ⟨b, 0, none⟩).run P w = .ok (.agg cs.toArray) w := by
  rw [hlen] at h8;simp [loadVar, a1O, aAC hT, aA6 hT, loadCells, Sem.run, pure, h8]
 simp [results, hr, a0b, h3, g3, a1O, Sem.run, pure, ptr, asAddr]
 rw [hload]
 rfl
end
section
variable {P : Program} {Γ : Ctx} {o : Oper}
theorem aFj {T e : TypeId} {a : Option Addr} (hT : fW P T (.pointer e)) (n : Nat) (w : World) : (Op.equalIn (n + 1) T (.pointer a) (.pointer none)).run P w = .ok a.isNone w := by
 cases a <;> simp [Op.equalIn, a1O, run_underlying hT, Sem.run, pure]
theorem aH9 {T e : TypeId} {a : Option Addr} (hT : fW P T (.pointer e)) (w : World) : (Op.equal T (.pointer a) (.pointer none)).run P w = .ok a.isNone w := aFj hT 9999 w
theorem opt_val {α : Type} {t : Ty α} {y : Option α} {m : Mem} {v : Value} (h : (fOpt t y).p m v) : ∃ a, v = .pointer a /\ a.isNone = y.isNone := by
 rcases h with ⟨rfl, rfl⟩ | ⟨z, rfl, h⟩
 ·exact ⟨none, rfl, rfl⟩
 ·obtain ⟨a, rfl, _⟩ := h;exact ⟨some a, rfl, rfl⟩
theorem aBZ {α : Type} {t : Ty α} {T U e : TypeId} {x : Operand} {y : Option α} (ho : o.op = .binOp .eql T x (.const (.pointer none)) U) (hx : Has Γ x (fOpt t y)) (hT : fW P T (.pointer e)) : OpT P Γ [] o (aF y.isNone) :=
 eK (by rw [ho]; rfl) fun β m a w he _ => by
  obtain ⟨b, h1, h2⟩ := opt_val (he.get hx (by rw [ho]; simp [Op.operands]))
  refine ⟨.bool b.isNone, ?_, by rw [h2]; rfl⟩
  simp only [execOp, ho, h1];rw [show a.eval (.const (.pointer none)) = .pointer none from rfl, a1O, a1O];cases b <;> simp [eqGuard, binOp, a1O, aH9 hT, Sem.run, pure]
end
end Go.SW
namespace Go.Proofs.YtpgkejpnhnoipaaGreat
open Go.SX Go.SW Go.Dt
theorem bM : Tryz.prog.follows .mixedOrders = true := by kernel_rfl
theorem aFh : iE Tryz.prog 102 [(0, 5), (5, 1), (6, 1), (7, 1), (8, 1), (9, 4), (13, 1)] (.agg #[.slice none 0 0, .slice none 0 0, .slice none 0 0, .slice none 0 0, .int .i64 0, .slice none 0 0, .slice none 0 0, .slice none 0 0, .slice none 0 0, .slice none 0 0, .slice none 0 0, .slice none 0 0, .int .i64 0, .bool false]) := ⟨(by kernel_rfl : gW Tryz.prog 102 = some [(0, 5), (5, 1), (6, 1), (7, 1), (8, 1), (9, 4), (13, 1)]), (by kernel_rfl : dC Tryz.prog 102 = some (.agg #[.slice none 0 0, .slice none 0 0, .slice none 0 0, .slice none 0 0, .int .i64 0, .slice none 0 0, .slice none 0 0, .slice none 0 0, .slice none 0 0, .slice none 0 0, .slice none 0 0, .slice none 0 0, .int .i64 0, .bool false]))⟩
theorem aC6 : iE Tryz.prog 118 [(0, 1), (1, 1), (2, 1), (3, 1)] (.agg #[.int .i64 0, .int .i64 0, .slice none 0 0, .slice none 0 0]) := ⟨(by kernel_rfl : gW Tryz.prog 118 = some [(0, 1), (1, 1), (2, 1), (3, 1)]), (by kernel_rfl : dC Tryz.prog 118 = some (.agg #[.int .i64 0, .int .i64 0, .slice none 0 0, .slice none 0 0]))⟩
theorem aFR : iE Tryz.prog 124 [(0, 1), (1, 1), (2, 1)] (.agg #[.int .i64 0, .int .i64 0, .slice none 0 0]) := ⟨(by kernel_rfl : gW Tryz.prog 124 = some [(0, 1), (1, 1), (2, 1)]), (by kernel_rfl : dC Tryz.prog 124 = some (.agg #[.int .i64 0, .int .i64 0, .slice none 0 0]))⟩
theorem aCW : iE Tryz.prog 130 [(0, 1), (1, 1), (2, 1)] (.agg #[.slice none 0 0, .slice none 0 0, .slice none 0 0]) := ⟨(by kernel_rfl : gW Tryz.prog 130 = some [(0, 1), (1, 1), (2, 1)]), (by kernel_rfl : dC Tryz.prog 130 = some (.agg #[.slice none 0 0, .slice none 0 0, .slice none 0 0]))⟩
theorem aFg : iE Tryz.prog 146 [(0, 4), (4, 1), (5, 1), (6, 1), (7, 1)] (.agg #[.slice none 0 0, .slice none 0 0, .slice none 0 0, .int .i64 0, .slice none 0 0, .slice none 0 0, .slice none 0 0, .bool false]) := ⟨(by kernel_rfl : gW Tryz.prog 146 = some [(0, 4), (4, 1), (5, 1), (6, 1), (7, 1)]), (by kernel_rfl : dC Tryz.prog 146 = some (.agg #[.slice none 0 0, .slice none 0 0, .slice none 0 0, .int .i64 0, .slice none 0 0, .slice none 0 0, .slice none 0 0, .bool false]))⟩
theorem aHJ : iE Tryz.prog 204 [(0, 4), (4, 1), (5, 1), (6, 1)] (.agg #[.slice none 0 0, .slice none 0 0, .slice none 0 0, .int .i64 0, .slice none 0 0, .slice none 0 0, .slice none 0 0]) := ⟨(by kernel_rfl : gW Tryz.prog 204 = some [(0, 4), (4, 1), (5, 1), (6, 1)]), (by kernel_rfl : dC Tryz.prog 204 = some (.agg #[.slice none 0 0, .slice none 0 0, .slice none 0 0, .int .i64 0, .slice none 0 0, .slice none 0 0, .slice none 0 0]))⟩
theorem aE5 : iE Tryz.prog 302 [] (.agg #[]) := ⟨(by kernel_rfl : gW Tryz.prog 302 = some []), (by kernel_rfl : dC Tryz.prog 302 = some (.agg #[]))⟩
theorem aHs : iE Tryz.prog 303 [] (.agg #[]) := ⟨(by kernel_rfl : gW Tryz.prog 303 = some []), (by kernel_rfl : dC Tryz.prog 303 = some (.agg #[]))⟩
theorem aFQ : iE Tryz.prog 334 [(0, 1)] (.agg #[.int .i64 0]) := ⟨(by kernel_rfl : gW Tryz.prog 334 = some [(0, 1)]), (by kernel_rfl : dC Tryz.prog 334 = some (.agg #[.int .i64 0]))⟩
theorem aHI : iE Tryz.prog 339 [] (.agg #[]) := ⟨(by kernel_rfl : gW Tryz.prog 339 = some []), (by kernel_rfl : dC Tryz.prog 339 = some (.agg #[]))⟩
theorem aGH : iE Tryz.prog 340 [] (.agg #[]) := ⟨(by kernel_rfl : gW Tryz.prog 340 = some []), (by kernel_rfl : dC Tryz.prog 340 = some (.agg #[]))⟩
theorem aB8 : iE Tryz.prog 38 [(0, 1), (1, 1), (2, 1), (3, 1)] (.agg #[.slice none 0 0, .slice none 0 0, .slice none 0 0, .int .i64 0]) := ⟨(by kernel_rfl : gW Tryz.prog 38 = some [(0, 1), (1, 1), (2, 1), (3, 1)]), (by kernel_rfl : dC Tryz.prog 38 = some (.agg #[.slice none 0 0, .slice none 0 0, .slice none 0 0, .int .i64 0]))⟩
theorem ty_bu_96 : iE Tryz.prog 96 [(0, 5), (5, 1), (6, 1), (7, 1), (8, 4)] (.agg #[.slice none 0 0, .slice none 0 0, .slice none 0 0, .slice none 0 0, .int .i64 0, .slice none 0 0, .slice none 0 0, .slice none 0 0, .slice none 0 0, .slice none 0 0, .slice none 0 0, .int .i64 0]) := ⟨(by kernel_rfl : gW Tryz.prog 96 = some [(0, 5), (5, 1), (6, 1), (7, 1), (8, 4)]), (by kernel_rfl : dC Tryz.prog 96 = some (.agg #[.slice none 0 0, .slice none 0 0, .slice none 0 0, .slice none 0 0, .int .i64 0, .slice none 0 0, .slice none 0 0, .slice none 0 0, .slice none 0 0, .slice none 0 0, .slice none 0 0, .int .i64 0]))⟩
theorem aEu : mV Tryz.prog 296 kInt (.bool false) := ⟨3, 4, by kernel_rfl, by kernel_rfl, by kernel_rfl⟩
theorem kD : mV Tryz.prog 360 kStr (.bool false) := ⟨9, 4, by kernel_rfl, by kernel_rfl, by kernel_rfl⟩
theorem aDn : niB Tryz.prog 302 = true := by kernel_rfl
theorem aDs : niB Tryz.prog 303 = true := by kernel_rfl
theorem aDm : niB Tryz.prog 334 = true := by kernel_rfl
theorem aCl : niB Tryz.prog 338 = true := by kernel_rfl
theorem aDJ : niB Tryz.prog 339 = true := by kernel_rfl
theorem aDQ : niB Tryz.prog 340 = true := by kernel_rfl
theorem aE6 : fW Tryz.prog 4 .bool := (by kernel_rfl : Tryz.prog.underlying 4 = some .bool)
theorem aEh : Tryz.prog.underlying 20 = some (.interface ((Tryz.prog.underlying 20).elim #[] fun | .interface ms => ms | _ => #[])) := by kernel_rfl
theorem aCw : Tryz.prog.underlying 300 = some (.interface ((Tryz.prog.underlying 300).elim #[] fun | .interface ms => ms | _ => #[])) := by kernel_rfl
theorem aD0 : fW Tryz.prog 92 (.pointer 96) := (by kernel_rfl : Tryz.prog.underlying 92 = some (.pointer 96))
theorem lR : fW Tryz.prog 9 .string := (by kernel_rfl : Tryz.prog.underlying 9 = some .string)
theorem aFK : dC Tryz.prog 302 = some (.agg #[]) := by kernel_rfl
theorem aFD : dC Tryz.prog 303 = some (.agg #[]) := by kernel_rfl
theorem aHO : dC Tryz.prog 334 = some (.agg #[.int .i64 0]) := by kernel_rfl
theorem aIa : dC Tryz.prog 339 = some (.agg #[]) := by kernel_rfl
theorem aFJ : dC Tryz.prog 340 = some (.agg #[]) := by kernel_rfl
theorem sE : SX.Zero Tryz.prog 118 (.agg #[.int .i64 0, .int .i64 0, .slice none 0 0, .slice none 0 0]) := (by kernel_rfl : dC Tryz.prog 118 = some (.agg #[.int .i64 0, .int .i64 0, .slice none 0 0, .slice none 0 0]))
theorem oC : SX.Zero Tryz.prog 124 (.agg #[.int .i64 0, .int .i64 0, .slice none 0 0]) := (by kernel_rfl : dC Tryz.prog 124 = some (.agg #[.int .i64 0, .int .i64 0, .slice none 0 0]))
theorem rT : SX.Zero Tryz.prog 130 (.agg #[.slice none 0 0, .slice none 0 0, .slice none 0 0]) := (by kernel_rfl : dC Tryz.prog 130 = some (.agg #[.slice none 0 0, .slice none 0 0, .slice none 0 0]))
theorem sT : SX.Zero Tryz.prog 134 (.agg #[.int .i64 0, .slice none 0 0, .int .i64 0]) := (by kernel_rfl : dC Tryz.prog 134 = some (.agg #[.int .i64 0, .slice none 0 0, .int .i64 0]))
theorem aBh : SX.Zero Tryz.prog 137 (.agg #[.int .i64 0, .int .i64 0]) := (by kernel_rfl : dC Tryz.prog 137 = some (.agg #[.int .i64 0, .int .i64 0]))
theorem aGr : SX.Zero Tryz.prog 197 (.agg #[.int .i64 0, .int .i64 0]) := (by kernel_rfl : dC Tryz.prog 197 = some (.agg #[.int .i64 0, .int .i64 0]))
theorem yC : SX.Zero Tryz.prog 23 (.slice none 0 0) := (by kernel_rfl : dC Tryz.prog 23 = some (.slice none 0 0))
theorem ty_ze_29 : SX.Zero Tryz.prog 29 (.int .i64 0) := (by kernel_rfl : dC Tryz.prog 29 = some (.int .i64 0))
theorem rZ : SX.Zero Tryz.prog 3 (.int .i64 0) := (by kernel_rfl : dC Tryz.prog 3 = some (.int .i64 0))
theorem aGG : SX.Zero Tryz.prog 334 (.agg #[.int .i64 0]) := (by kernel_rfl : dC Tryz.prog 334 = some (.agg #[.int .i64 0]))
theorem aFO : SX.Zero Tryz.prog 363 (.nilFunc) := (by kernel_rfl : dC Tryz.prog 363 = some (.nilFunc))
theorem wD : SX.Zero Tryz.prog 4 (.bool false) := (by kernel_rfl : dC Tryz.prog 4 = some (.bool false))
theorem aAW : SX.Zero Tryz.prog 55 (.agg #[.int .i64 0, .int .i64 0, .slice none 0 0, .slice none 0 0, .slice none 0 0]) := (by kernel_rfl : dC Tryz.prog 55 = some (.agg #[.int .i64 0, .int .i64 0, .slice none 0 0, .slice none 0 0, .slice none 0 0]))
def aDP (b : Nat) (x : Ag) (v0 v1 v2 v3 : Value) : List Tk := [aD b 96 [fSl aC x.AF.AD, fSl (cO .i64) x.AF.AI, fSl aT x.AF.AB, fSl aA x.AF.AC, aX .i64 x.AF.AE, fEq v0, fEq v1, fEq v2, fSl aC x.AK.AD, fEq v3, fSl aA x.AK.AC, aX .i64 x.AK.AE], aB v0 23 (tSl (cO .i64)) x.AQ, aB v1 23 (tSl (cO .i64)) x.AR, aB v2 4 aN x.AO, aB v3 118 aK x.AK.AB]
def aB9 (b : Nat) (x : Ag) (v0 v1 v2 : Value) : List Tk := [tEx (aDP b x v0 v1 v2)]
def aCk (b : Nat) (x : Ag) (v0 v1 : Value) : List Tk := [tEx (aB9 b x v0 v1)]
def aEC (b : Nat) (x : Ag) (v0 : Value) : List Tk := [tEx (aCk b x v0)]
def mJ (b : Nat) (x : Ag) : Tk := tEx (aEC b x)
theorem mH {β : bJ} {n : Nat} {ds : List Deferred} {Γ : Ctx} {Δ : List Tk} {F : Act -> World -> Prop} {b : Nat} {x : Ag} (h : ∀ v0 v1 v2 v3, T β n ds Γ (aD b 96 [fSl aC x.AF.AD, fSl (cO .i64) x.AF.AI, fSl aT x.AF.AB, fSl aA x.AF.AC, aX .i64 x.AF.AE, fEq v0, fEq v1, fEq v2, fSl aC x.AK.AD, fEq v3, fSl aA x.AK.AC, aX .i64 x.AK.AE] :: aB v0 23 (tSl (cO .i64)) x.AQ :: aB v1 23 (tSl (cO .i64)) x.AR :: aB v2 4 aN x.AO :: aB v3 118 aK x.AK.AB :: Δ) F) : T β n ds Γ (mJ b x :: Δ) F := gQ (fun v0 => gQ (fun v1 => gQ (fun v2 => gQ (fun v3 => h v0 v1 v2 v3))))
theorem eL {β : bJ} {n : Nat} {ds : List Deferred} {Γ : Ctx} {Δ : List Tk} {F : Act -> World -> Prop} {b : Nat} {x : Ag} {v0 v1 v2 v3 : Value} (h : T β n ds Γ (mJ b x :: Δ) F) : T β n ds Γ (aD b 96 [fSl aC x.AF.AD, fSl (cO .i64) x.AF.AI, fSl aT x.AF.AB, fSl aA x.AF.AC, aX .i64 x.AF.AE, fEq v0, fEq v1, fEq v2, fSl aC x.AK.AD, fEq v3, fSl aA x.AK.AC, aX .i64 x.AK.AE] :: aB v0 23 (tSl (cO .i64)) x.AQ :: aB v1 23 (tSl (cO .i64)) x.AR :: aB v2 4 aN x.AO :: aB v3 118 aK x.AK.AB :: Δ) F := hO (f := aDP b x v0 v1 v2) v3 (hO (f := aB9 b x v0 v1) v2 (hO (f := aCk b x v0) v1 (hO (f := aEC b x) v0 (h))))
def aDM (b : Nat) (x : Am) (v0 v1 v2 : Value) : List Tk := [aD b 204 [fSl aC x.p.AD, fSl aK x.p.AB, fSl aA x.p.AC, aX .i64 x.p.AE, fEq v0, fEq v1, fEq v2], aB v0 3 (cO .i64) x.AV, aB v1 4 aN x.AX, aB v2 4 aN x.AZ]
def aDq (b : Nat) (x : Am) (v0 v1 : Value) : List Tk := [tEx (aDM b x v0 v1)]
def aEG (b : Nat) (x : Am) (v0 : Value) : List Tk := [tEx (aDq b x v0)]
def yY (b : Nat) (x : Am) : Tk := tEx (aEG b x)
theorem vK {β : bJ} {n : Nat} {ds : List Deferred} {Γ : Ctx} {Δ : List Tk} {F : Act -> World -> Prop} {b : Nat} {x : Am} (h : ∀ v0 v1 v2, T β n ds Γ (aD b 204 [fSl aC x.p.AD, fSl aK x.p.AB, fSl aA x.p.AC, aX .i64 x.p.AE, fEq v0, fEq v1, fEq v2] :: aB v0 3 (cO .i64) x.AV :: aB v1 4 aN x.AX :: aB v2 4 aN x.AZ :: Δ) F) : T β n ds Γ (yY b x :: Δ) F := gQ (fun v0 => gQ (fun v1 => gQ (fun v2 => h v0 v1 v2)))
theorem wT {β : bJ} {n : Nat} {ds : List Deferred} {Γ : Ctx} {Δ : List Tk} {F : Act -> World -> Prop} {b : Nat} {x : Am} {v0 v1 v2 : Value} (h : T β n ds Γ (yY b x :: Δ) F) : T β n ds Γ (aD b 204 [fSl aC x.p.AD, fSl aK x.p.AB, fSl aA x.p.AC, aX .i64 x.p.AE, fEq v0, fEq v1, fEq v2] :: aB v0 3 (cO .i64) x.AV :: aB v1 4 aN x.AX :: aB v2 4 aN x.AZ :: Δ) F := hO (f := aDM b x v0 v1) v2 (hO (f := aDq b x v0) v1 (hO (f := aEG b x) v0 (h)))
def aCy (b : Nat) (x : Ah) (v0 v1 v2 : Value) : List Tk := [aD b 146 [fSl aC x.p.AD, fSl aK x.p.AB, fSl aA x.p.AC, aX .i64 x.p.AE, fEq v0, fEq v1, fEq v2, aF x.bad], aB v0 3 (cO .i64) x.AV, aB v1 3 (cO .i64) x.Ak, aB v2 3 (cO .i64) x.Aj]
def aEU (b : Nat) (x : Ah) (v0 v1 : Value) : List Tk := [tEx (aCy b x v0 v1)]
def aCO (b : Nat) (x : Ah) (v0 : Value) : List Tk := [tEx (aEU b x v0)]
def pP (b : Nat) (x : Ah) : Tk := tEx (aCO b x)
theorem rB {β : bJ} {n : Nat} {ds : List Deferred} {Γ : Ctx} {Δ : List Tk} {F : Act -> World -> Prop} {b : Nat} {x : Ah} (h : ∀ v0 v1 v2, T β n ds Γ (aD b 146 [fSl aC x.p.AD, fSl aK x.p.AB, fSl aA x.p.AC, aX .i64 x.p.AE, fEq v0, fEq v1, fEq v2, aF x.bad] :: aB v0 3 (cO .i64) x.AV :: aB v1 3 (cO .i64) x.Ak :: aB v2 3 (cO .i64) x.Aj :: Δ) F) : T β n ds Γ (pP b x :: Δ) F := gQ (fun v0 => gQ (fun v1 => gQ (fun v2 => h v0 v1 v2)))
theorem fP {β : bJ} {n : Nat} {ds : List Deferred} {Γ : Ctx} {Δ : List Tk} {F : Act -> World -> Prop} {b : Nat} {x : Ah} {v0 v1 v2 : Value} (h : T β n ds Γ (pP b x :: Δ) F) : T β n ds Γ (aD b 146 [fSl aC x.p.AD, fSl aK x.p.AB, fSl aA x.p.AC, aX .i64 x.p.AE, fEq v0, fEq v1, fEq v2, aF x.bad] :: aB v0 3 (cO .i64) x.AV :: aB v1 3 (cO .i64) x.Ak :: aB v2 3 (cO .i64) x.Aj :: Δ) F := hO (f := aCy b x v0 v1) v2 (hO (f := aEU b x v0) v1 (hO (f := aCO b x) v0 (h)))
def aDe (b : Nat) (x : Ad) (v0 v1 v2 v3 v4 : Value) : List Tk := [aD b 102 [fSl aC x.f.AD, fSl (cO .i64) x.f.AI, fSl aT x.f.AB, fSl aA x.f.AC, aX .i64 x.f.AE, fEq v0, fEq v1, fEq v2, fEq v3, fSl aC x.p.AD, fEq v4, fSl aA x.p.AC, aX .i64 x.p.AE, aF x.bad], aB v0 4 aN x.AO, aB v1 23 (tSl (cO .i64)) x.AQ, aB v2 3 (cO .i64) x.AV, aB v3 23 (tSl (cO .i64)) x.AR, aB v4 118 aK x.p.AB]
def aDC (b : Nat) (x : Ad) (v0 v1 v2 v3 : Value) : List Tk := [tEx (aDe b x v0 v1 v2 v3)]
def aEf (b : Nat) (x : Ad) (v0 v1 v2 : Value) : List Tk := [tEx (aDC b x v0 v1 v2)]
def aDY (b : Nat) (x : Ad) (v0 v1 : Value) : List Tk := [tEx (aEf b x v0 v1)]
def aBW (b : Nat) (x : Ad) (v0 : Value) : List Tk := [tEx (aDY b x v0)]
def oJ (b : Nat) (x : Ad) : Tk := tEx (aBW b x)
theorem qT {β : bJ} {n : Nat} {ds : List Deferred} {Γ : Ctx} {Δ : List Tk} {F : Act -> World -> Prop} {b : Nat} {x : Ad} (h : ∀ v0 v1 v2 v3 v4, T β n ds Γ (aD b 102 [fSl aC x.f.AD, fSl (cO .i64) x.f.AI, fSl aT x.f.AB, fSl aA x.f.AC, aX .i64 x.f.AE, fEq v0, fEq v1, fEq v2, fEq v3, fSl aC x.p.AD, fEq v4, fSl aA x.p.AC, aX .i64 x.p.AE, aF x.bad] :: aB v0 4 aN x.AO :: aB v1 23 (tSl (cO .i64)) x.AQ :: aB v2 3 (cO .i64) x.AV :: aB v3 23 (tSl (cO .i64)) x.AR :: aB v4 118 aK x.p.AB :: Δ) F) : T β n ds Γ (oJ b x :: Δ) F := gQ (fun v0 => gQ (fun v1 => gQ (fun v2 => gQ (fun v3 => gQ (fun v4 => h v0 v1 v2 v3 v4)))))
theorem fA {β : bJ} {n : Nat} {ds : List Deferred} {Γ : Ctx} {Δ : List Tk} {F : Act -> World -> Prop} {b : Nat} {x : Ad} {v0 v1 v2 v3 v4 : Value} (h : T β n ds Γ (oJ b x :: Δ) F) : T β n ds Γ (aD b 102 [fSl aC x.f.AD, fSl (cO .i64) x.f.AI, fSl aT x.f.AB, fSl aA x.f.AC, aX .i64 x.f.AE, fEq v0, fEq v1, fEq v2, fEq v3, fSl aC x.p.AD, fEq v4, fSl aA x.p.AC, aX .i64 x.p.AE, aF x.bad] :: aB v0 4 aN x.AO :: aB v1 23 (tSl (cO .i64)) x.AQ :: aB v2 3 (cO .i64) x.AV :: aB v3 23 (tSl (cO .i64)) x.AR :: aB v4 118 aK x.p.AB :: Δ) F := hO (f := aDe b x v0 v1 v2 v3) v4 (hO (f := aDC b x v0 v1 v2) v3 (hO (f := aEf b x v0 v1) v2 (hO (f := aDY b x v0) v1 (hO (f := aBW b x) v0 (h)))))
def usL : List (Nat × Nat) := [(22, 9), (23, 3), (24, 55), (25, 130), (28, 23), (36, 118), (53, 124), (94, 4), (126, 197), (127, 137), (128, 134)]
theorem usK : (usL.all fun p => onb (slB Tryz.prog p.1) p.2) = true := by kernel_rfl
theorem us {t e : Nat} (h : tb usL t = some e) : fW Tryz.prog t (.slice e) := us_of usK h
def elL : List (Nat × Nat) := [(22, 1), (23, 1), (24, 5), (25, 3), (28, 1), (36, 4), (53, 3), (94, 1), (126, 2), (127, 2), (128, 3)]
theorem elK : (elL.all fun p => onb (sM Tryz.prog p.1) p.2) = true := by kernel_rfl
theorem el {t e : Nat} (h : tb elL t = some e) : nM Tryz.prog t e := el_of elK h
def szL : List (Nat × Nat) := [(3, 1), (4, 1), (23, 1), (25, 1), (28, 1), (29, 1), (38, 4), (53, 1), (55, 5), (94, 1), (118, 4), (124, 3), (128, 1), (130, 3), (134, 3), (137, 2), (197, 2), (334, 1), (363, 1)]
theorem szK : (szL.all fun p => onb (mF Tryz.prog p.1) p.2) = true := by kernel_rfl
theorem sz {t e : Nat} (h : tb szL t = some e) : gJ Tryz.prog t e := sz_of szK h
def agL : List (Nat × Nat) := [(27, 5), (38, 4), (55, 5), (118, 4), (124, 3), (130, 3), (134, 3), (137, 2), (197, 2)]
theorem agK : (agL.all fun p => aggB Tryz.prog p.1 p.2) = true := by kernel_rfl
theorem ag {t e : Nat} (h : tb agL t = some e) : jX Tryz.prog t e := ag_of agK h
def scL : List (Nat) := [3, 4, 9, 22, 23, 24, 25, 28, 29, 36, 52, 53, 94, 122, 126, 127, 128, 363]
theorem scK : (scL.all fun p => scalB Tryz.prog p) = true := by kernel_rfl
theorem sc {t : Nat} (h : (scL.any fun p => Nat.beq p t) = true) : Scal Tryz.prog t := sc_of scK h
def cbL : List (Nat) := [13, 14, 15, 16, 17, 26, 54, 55, 56, 57, 61, 62, 64, 68, 69, 70, 72, 80, 113, 114, 115, 116, 117, 126, 127, 134, 135, 137, 138, 139, 182, 183, 184, 185, 186, 187, 188, 189, 190, 191, 200, 201, 202, 203, 227, 228, 229, 230, 231, 235, 249, 274, 275, 276, 277, 300, 301, 302, 303, 304, 305, 308, 309, 310, 311, 327, 328, 329, 330, 331]
theorem cbK : (cbL.all fun p => callB Tryz.prog p) = true := by kernel_rfl
theorem cb {t : Nat} (h : (cbL.any fun p => Nat.beq p t) = true) : Au Tryz.prog t := cb_of cbK h
def faL : List (Nat × Nat × Nat) := [(27, 0, 0), (27, 1, 1), (27, 2, 2), (27, 3, 3), (27, 4, 4), (38, 0, 0), (38, 1, 1), (38, 2, 2), (38, 3, 3), (55, 0, 0), (55, 1, 1), (55, 2, 2), (55, 3, 3), (55, 4, 4), (96, 0, 0), (96, 1, 5), (96, 2, 6), (96, 3, 7), (96, 4, 8), (102, 0, 0), (102, 1, 5), (102, 2, 6), (102, 3, 7), (102, 4, 8), (102, 5, 9), (102, 6, 13), (118, 0, 0), (118, 1, 1), (118, 2, 2), (118, 3, 3), (124, 0, 0), (124, 1, 1), (124, 2, 2), (130, 0, 0), (130, 1, 1), (130, 2, 2), (134, 0, 0), (134, 1, 1), (134, 2, 2), (137, 0, 0), (137, 1, 1), (146, 0, 0), (146, 1, 4), (146, 2, 5), (146, 3, 6), (146, 4, 7), (197, 0, 0), (197, 1, 1), (204, 0, 0), (204, 1, 4), (204, 2, 5), (204, 3, 6), (334, 0, 0)]
theorem faK : (faL.all fun p => onb (yD Tryz.prog p.1 p.2.1) p.2.2) = true := by kernel_rfl
theorem fa {s f t : Nat} (h : tb3 faL s f = some t) : sR Tryz.prog s f t := fa_of faK h
def etL : List (Nat × Nat × Nat × Nat) := [(22, 9, 1, 16), (23, 3, 1, 8), (25, 130, 3, 72), (28, 23, 1, 24), (36, 118, 4, 64), (53, 124, 3, 40), (94, 4, 1, 1), (126, 197, 2, 16), (127, 137, 2, 16), (128, 134, 3, 40)]
theorem etK : (etL.all fun p => elB Tryz.prog p.1 p.2.1 p.2.2.1 p.2.2.2) = true := by kernel_rfl
theorem et {t e s b : Nat} (h : tb4 etL t = some (e, s, b)) : ElT Tryz.prog t e s b := et_of etK h
theorem ox {Γ : Ctx} {o : Oper} {φ : AJ} (h : OpT Tryz.prog Γ [] o φ := by first
 | exact bC rfl hh
 | exact fQ rfl hh (sc rfl) (by exact rfl)
 | exact cF rfl hh hh (el (by exact rfl)) (by with_reducible assumption)
 | exact eB rfl hh (us rfl)
 | exact bG rfl hh cf hh
 | exact bZ rfl hh ct hh
 | exact qU rfl hh hh
 | exact sH rfl hh hh
 | exact rU rfl hh hh
 | exact eV rfl hh hh
 | exact o_leq rfl hh hh
 | exact gZ rfl hh hh
 | exact dT rfl hh hh (by with_reducible assumption)
 | exact zT rfl hh
 | exact aFo rfl hh (by exact rfl)
 | exact iJ rfl hh
 | exact o_nilP rfl hh
 | exact o_nilE rfl hh
 | exact aAp rfl hh (ag (by exact rfl))
 | exact bE _ rfl hh (fa rfl) rfl
 | exact iL (t' := cO _) rfl hh (fa rfl) (by exact rfl)
 | exact iL (t' := tSl _) rfl hh (fa rfl) (by exact rfl)
 | exact iL (t' := aN) rfl hh (fa rfl) (by exact rfl)
 | exact iL (t' := aC) rfl hh (fa rfl) (by exact rfl)
 | exact iL (t' := tRaw) rfl hh (fa rfl) (by exact rfl)
 | exact o_sub rfl hh hh (by with_reducible assumption)
 | exact o_mul rfl hh hh (by with_reducible assumption)
 | exact o_shr rfl hh hh (by with_reducible assumption)
 | exact o_min rfl hh hh
 | exact o_mulW rfl hh hh
 | exact o_addW rfl hh hh
 | exact o_and rfl hh hh) : OpT Tryz.prog Γ [] o φ := h
theorem oo {Γ : Ctx} {o : Oper} {φ : AJ} {τ : Tk} (h : OpT Tryz.prog Γ [τ] o φ := by first
 | exact aZ rfl hh (sc rfl) (by exact rfl) Ent.rfl
 | exact o_loadBS rfl hh (ag (by exact rfl)) (by exact rfl) (by exact rfl)
 | exact fZ rfl hh hh (el (by exact rfl)) (by with_reducible assumption)
 | exact o_lenR rfl hh (us rfl)) : OpT Tryz.prog Γ [τ] o φ := h
theorem Z1 {P Q : Prop} (q : Q) (h : cW Q -> P := by
 intro q
 first
 | refine Nn ?_
 | refine Ym ?_
 | refine Sr ?_
 | refine Ya ?_
 | refine Zy (by exact trivial) ox (by exact rfl) (by exact rfl) ?_
 | refine Zk (by exact ⟨_, _, rfl, rfl, rfl⟩) cn (by exact rfl) (by exact rfl) ?_
 | refine Zg (by exact ⟨_, _, rfl, rfl, rfl⟩) cc ox (by exact rfl) (by exact rfl) ?_
 | refine aCg ?_
 | refine cL hh ct ?_
 | refine cM hh cf ?_
 | refine Rr ?_
 | refine aEl ?_
 | refine T_in_ret ?_
 | refine aHz ?_
 | refine T_skip ?_
 | refine T_block ?_
 | refine aB7 ?_
 | refine T_in_n ?_
 | refine T_exit ?_
 | refine T_in_hit ?_
 | refine aGN rfl ?_
 | refine T_retc ?_
 | refine N_done rfl ?_
 | refine aGg ?_
 | refine aGu ?_
 | refine T_nil ?_
 | refine Zo 0 (by exact trivial) (by exact rfl) oo (by exact rfl) (by exact rfl) ?_
 | refine Zo 1 (by exact trivial) (by exact rfl) oo (by exact rfl) (by exact rfl) ?_
 | refine Zo 2 (by exact trivial) (by exact rfl) oo (by exact rfl) (by exact rfl) ?_
 | refine Zo 3 (by exact trivial) (by exact rfl) oo (by exact rfl) (by exact rfl) ?_
 | refine Zo 4 (by exact trivial) (by exact rfl) oo (by exact rfl) (by exact rfl) ?_
 | refine Zo 5 (by exact trivial) (by exact rfl) oo (by exact rfl) (by exact rfl) ?_
 | refine Zo 6 (by exact trivial) (by exact rfl) oo (by exact rfl) (by exact rfl) ?_
 | refine Zo 7 (by exact trivial) (by exact rfl) oo (by exact rfl) (by exact rfl) ?_
 | refine Zh 0 (by exact ⟨_, _, rfl, rfl, rfl⟩) cc (by exact rfl) oo (by exact rfl) (by exact rfl) ?_
 | refine Zh 1 (by exact ⟨_, _, rfl, rfl, rfl⟩) cc (by exact rfl) oo (by exact rfl) (by exact rfl) ?_
 | refine Zh 2 (by exact ⟨_, _, rfl, rfl, rfl⟩) cc (by exact rfl) oo (by exact rfl) (by exact rfl) ?_
 | refine Zh 3 (by exact ⟨_, _, rfl, rfl, rfl⟩) cc (by exact rfl) oo (by exact rfl) (by exact rfl) ?_
 | refine Zh 4 (by exact ⟨_, _, rfl, rfl, rfl⟩) cc (by exact rfl) oo (by exact rfl) (by exact rfl) ?_
 | refine Zh 5 (by exact ⟨_, _, rfl, rfl, rfl⟩) cc (by exact rfl) oo (by exact rfl) (by exact rfl) ?_
 | refine Zh 6 (by exact ⟨_, _, rfl, rfl, rfl⟩) cc (by exact rfl) oo (by exact rfl) (by exact rfl) ?_
 | refine Zh 7 (by exact ⟨_, _, rfl, rfl, rfl⟩) cc (by exact rfl) oo (by exact rfl) (by exact rfl) ?_
 exact q.h) : P := h ⟨q⟩
theorem Z2 {P Q : Prop} (q : Q) (h : cW Q -> P := by
 intro q
 refine Z1 ?_
 refine Z1 ?_
 exact q.h) : P := h ⟨q⟩
theorem Z3 {P Q : Prop} (q : Q) (h : cW Q -> P := by
 intro q
 refine Z1 ?_
 refine Z1 ?_
 refine Z1 ?_
 exact q.h) : P := h ⟨q⟩
theorem Z4 {P Q : Prop} (q : Q) (h : cW Q -> P := by
 intro q
 refine Z1 ?_
 refine Z1 ?_
 refine Z1 ?_
 refine Z1 ?_
 exact q.h) : P := h ⟨q⟩
theorem Z5 {P Q : Prop} (q : Q) (h : cW Q -> P := by
 intro q
 refine Z2 ?_
 refine Z3 ?_
 exact q.h) : P := h ⟨q⟩
theorem Z6 {P Q : Prop} (q : Q) (h : cW Q -> P := by
 intro q
 refine Z3 ?_
 refine Z3 ?_
 exact q.h) : P := h ⟨q⟩
theorem Z7 {P Q : Prop} (q : Q) (h : cW Q -> P := by
 intro q
 refine Z3 ?_
 refine Z4 ?_
 exact q.h) : P := h ⟨q⟩
theorem Z8 {P Q : Prop} (q : Q) (h : cW Q -> P := by
 intro q
 refine Z4 ?_
 refine Z4 ?_
 exact q.h) : P := h ⟨q⟩
theorem Z9 {P Q : Prop} (q : Q) (h : cW Q -> P := by
 intro q
 refine Z4 ?_
 refine Z5 ?_
 exact q.h) : P := h ⟨q⟩
theorem Z10 {P Q : Prop} (q : Q) (h : cW Q -> P := by
 intro q
 refine Z5 ?_
 refine Z5 ?_
 exact q.h) : P := h ⟨q⟩
theorem Z11 {P Q : Prop} (q : Q) (h : cW Q -> P := by
 intro q
 refine Z5 ?_
 refine Z6 ?_
 exact q.h) : P := h ⟨q⟩
theorem Z12 {P Q : Prop} (q : Q) (h : cW Q -> P := by
 intro q
 refine Z6 ?_
 refine Z6 ?_
 exact q.h) : P := h ⟨q⟩
theorem B1 {α γ : Type} {o : Option α} {f : α -> Option γ} {r : γ} {P Q : Prop} (q : ∀ x, o = some x -> f x = some r -> Q) (h : cW Q -> P := by
 intro q
 refine Z1 ?_
 exact q.h) (e : o.bind f = some r) : P := bs (fun x a b => h ⟨q x a b⟩) e
theorem I1 {γ : Type} {p : Prop} [Decidable p] {a b : Option γ} {r : γ} {P Q : Prop} (k : decide p = true -> a = some r -> Q) (k' : decide p = false -> b = some r -> Q) (h : cW Q -> P := by
 intro q
 refine Z1 ?_
 exact q.h) (e : (if p then a else b) = some r) : P := is (fun c a => h ⟨k c a⟩) (fun c a => h ⟨k' c a⟩) e
theorem B2 {α γ : Type} {o : Option α} {f : α -> Option γ} {r : γ} {P Q : Prop} (q : ∀ x, o = some x -> f x = some r -> Q) (h : cW Q -> P := by
 intro q
 refine Z2 ?_
 exact q.h) (e : o.bind f = some r) : P := bs (fun x a b => h ⟨q x a b⟩) e
theorem I2 {γ : Type} {p : Prop} [Decidable p] {a b : Option γ} {r : γ} {P Q : Prop} (k : decide p = true -> a = some r -> Q) (k' : decide p = false -> b = some r -> Q) (h : cW Q -> P := by
 intro q
 refine Z2 ?_
 exact q.h) (e : (if p then a else b) = some r) : P := is (fun c a => h ⟨k c a⟩) (fun c a => h ⟨k' c a⟩) e
theorem B3 {α γ : Type} {o : Option α} {f : α -> Option γ} {r : γ} {P Q : Prop} (q : ∀ x, o = some x -> f x = some r -> Q) (h : cW Q -> P := by
 intro q
 refine Z3 ?_
 exact q.h) (e : o.bind f = some r) : P := bs (fun x a b => h ⟨q x a b⟩) e
theorem I3 {γ : Type} {p : Prop} [Decidable p] {a b : Option γ} {r : γ} {P Q : Prop} (k : decide p = true -> a = some r -> Q) (k' : decide p = false -> b = some r -> Q) (h : cW Q -> P := by
 intro q
 refine Z3 ?_
 exact q.h) (e : (if p then a else b) = some r) : P := is (fun c a => h ⟨k c a⟩) (fun c a => h ⟨k' c a⟩) e
theorem B4 {α γ : Type} {o : Option α} {f : α -> Option γ} {r : γ} {P Q : Prop} (q : ∀ x, o = some x -> f x = some r -> Q) (h : cW Q -> P := by
 intro q
 refine Z4 ?_
 exact q.h) (e : o.bind f = some r) : P := bs (fun x a b => h ⟨q x a b⟩) e
theorem I4 {γ : Type} {p : Prop} [Decidable p] {a b : Option γ} {r : γ} {P Q : Prop} (k : decide p = true -> a = some r -> Q) (k' : decide p = false -> b = some r -> Q) (h : cW Q -> P := by
 intro q
 refine Z4 ?_
 exact q.h) (e : (if p then a else b) = some r) : P := is (fun c a => h ⟨k c a⟩) (fun c a => h ⟨k' c a⟩) e
theorem B5 {α γ : Type} {o : Option α} {f : α -> Option γ} {r : γ} {P Q : Prop} (q : ∀ x, o = some x -> f x = some r -> Q) (h : cW Q -> P := by
 intro q
 refine Z5 ?_
 exact q.h) (e : o.bind f = some r) : P := bs (fun x a b => h ⟨q x a b⟩) e
theorem I5 {γ : Type} {p : Prop} [Decidable p] {a b : Option γ} {r : γ} {P Q : Prop} (k : decide p = true -> a = some r -> Q) (k' : decide p = false -> b = some r -> Q) (h : cW Q -> P := by
 intro q
 refine Z5 ?_
 exact q.h) (e : (if p then a else b) = some r) : P := is (fun c a => h ⟨k c a⟩) (fun c a => h ⟨k' c a⟩) e
theorem B6 {α γ : Type} {o : Option α} {f : α -> Option γ} {r : γ} {P Q : Prop} (q : ∀ x, o = some x -> f x = some r -> Q) (h : cW Q -> P := by
 intro q
 refine Z6 ?_
 exact q.h) (e : o.bind f = some r) : P := bs (fun x a b => h ⟨q x a b⟩) e
theorem I6 {γ : Type} {p : Prop} [Decidable p] {a b : Option γ} {r : γ} {P Q : Prop} (k : decide p = true -> a = some r -> Q) (k' : decide p = false -> b = some r -> Q) (h : cW Q -> P := by
 intro q
 refine Z6 ?_
 exact q.h) (e : (if p then a else b) = some r) : P := is (fun c a => h ⟨k c a⟩) (fun c a => h ⟨k' c a⟩) e
theorem B7 {α γ : Type} {o : Option α} {f : α -> Option γ} {r : γ} {P Q : Prop} (q : ∀ x, o = some x -> f x = some r -> Q) (h : cW Q -> P := by
 intro q
 refine Z7 ?_
 exact q.h) (e : o.bind f = some r) : P := bs (fun x a b => h ⟨q x a b⟩) e
theorem I7 {γ : Type} {p : Prop} [Decidable p] {a b : Option γ} {r : γ} {P Q : Prop} (k : decide p = true -> a = some r -> Q) (k' : decide p = false -> b = some r -> Q) (h : cW Q -> P := by
 intro q
 refine Z7 ?_
 exact q.h) (e : (if p then a else b) = some r) : P := is (fun c a => h ⟨k c a⟩) (fun c a => h ⟨k' c a⟩) e
theorem B8 {α γ : Type} {o : Option α} {f : α -> Option γ} {r : γ} {P Q : Prop} (q : ∀ x, o = some x -> f x = some r -> Q) (h : cW Q -> P := by
 intro q
 refine Z8 ?_
 exact q.h) (e : o.bind f = some r) : P := bs (fun x a b => h ⟨q x a b⟩) e
theorem B9 {α γ : Type} {o : Option α} {f : α -> Option γ} {r : γ} {P Q : Prop} (q : ∀ x, o = some x -> f x = some r -> Q) (h : cW Q -> P := by
 intro q
 refine Z9 ?_
 exact q.h) (e : o.bind f = some r) : P := bs (fun x a b => h ⟨q x a b⟩) e
theorem I9 {γ : Type} {p : Prop} [Decidable p] {a b : Option γ} {r : γ} {P Q : Prop} (k : decide p = true -> a = some r -> Q) (k' : decide p = false -> b = some r -> Q) (h : cW Q -> P := by
 intro q
 refine Z9 ?_
 exact q.h) (e : (if p then a else b) = some r) : P := is (fun c a => h ⟨k c a⟩) (fun c a => h ⟨k' c a⟩) e
theorem B10 {α γ : Type} {o : Option α} {f : α -> Option γ} {r : γ} {P Q : Prop} (q : ∀ x, o = some x -> f x = some r -> Q) (h : cW Q -> P := by
 intro q
 refine Z10 ?_
 exact q.h) (e : o.bind f = some r) : P := bs (fun x a b => h ⟨q x a b⟩) e
theorem I10 {γ : Type} {p : Prop} [Decidable p] {a b : Option γ} {r : γ} {P Q : Prop} (k : decide p = true -> a = some r -> Q) (k' : decide p = false -> b = some r -> Q) (h : cW Q -> P := by
 intro q
 refine Z10 ?_
 exact q.h) (e : (if p then a else b) = some r) : P := is (fun c a => h ⟨k c a⟩) (fun c a => h ⟨k' c a⟩) e
theorem B11 {α γ : Type} {o : Option α} {f : α -> Option γ} {r : γ} {P Q : Prop} (q : ∀ x, o = some x -> f x = some r -> Q) (h : cW Q -> P := by
 intro q
 refine Z11 ?_
 exact q.h) (e : o.bind f = some r) : P := bs (fun x a b => h ⟨q x a b⟩) e
theorem B12 {α γ : Type} {o : Option α} {f : α -> Option γ} {r : γ} {P Q : Prop} (q : ∀ x, o = some x -> f x = some r -> Q) (h : cW Q -> P := by
 intro q
 refine Z12 ?_
 exact q.h) (e : o.bind f = some r) : P := bs (fun x a b => h ⟨q x a b⟩) e
theorem ND {P Q : Prop} (q : Q) (h : cW Q -> P := by
 intro q
 dsimp only [gU, List.take, List.replicate, List.append, List.drop]
 exact q.h) : P := h ⟨q⟩
theorem M1 {P Q : Prop} (q : Q) (h : cW Q -> P := by
 intro q
 first
 | refine Ny (by exact trivial) ox (by exact rfl) ?_
 | refine Nk (by exact ⟨_, _, rfl, rfl, rfl⟩) cn (by exact rfl) ?_
 | refine Ng (by exact ⟨_, _, rfl, rfl, rfl⟩) cc ox (by exact rfl) ?_
 | refine No 0 (by exact trivial) (by exact rfl) oo (by exact rfl) ?_
 | refine No 1 (by exact trivial) (by exact rfl) oo (by exact rfl) ?_
 | refine No 2 (by exact trivial) (by exact rfl) oo (by exact rfl) ?_
 | refine No 3 (by exact trivial) (by exact rfl) oo (by exact rfl) ?_
 | refine No 4 (by exact trivial) (by exact rfl) oo (by exact rfl) ?_
 | refine No 5 (by exact trivial) (by exact rfl) oo (by exact rfl) ?_
 | refine No 6 (by exact trivial) (by exact rfl) oo (by exact rfl) ?_
 | refine No 7 (by exact trivial) (by exact rfl) oo (by exact rfl) ?_
 | refine Nh 0 (by exact ⟨_, _, rfl, rfl, rfl⟩) cc (by exact rfl) oo (by exact rfl) ?_
 | refine Nh 1 (by exact ⟨_, _, rfl, rfl, rfl⟩) cc (by exact rfl) oo (by exact rfl) ?_
 | refine Nh 2 (by exact ⟨_, _, rfl, rfl, rfl⟩) cc (by exact rfl) oo (by exact rfl) ?_
 | refine Nh 3 (by exact ⟨_, _, rfl, rfl, rfl⟩) cc (by exact rfl) oo (by exact rfl) ?_
 | refine Nh 4 (by exact ⟨_, _, rfl, rfl, rfl⟩) cc (by exact rfl) oo (by exact rfl) ?_
 | refine Nh 5 (by exact ⟨_, _, rfl, rfl, rfl⟩) cc (by exact rfl) oo (by exact rfl) ?_
 | refine Nh 6 (by exact ⟨_, _, rfl, rfl, rfl⟩) cc (by exact rfl) oo (by exact rfl) ?_
 | refine Nh 7 (by exact ⟨_, _, rfl, rfl, rfl⟩) cc (by exact rfl) oo (by exact rfl) ?_
 exact q.h) : P := h ⟨q⟩
theorem M2 {P Q : Prop} (q : Q) (h : cW Q -> P := by
 intro q
 refine M1 ?_
 intro b1
 refine M1 ?_
 revert b1
 exact q.h) : P := h ⟨q⟩
theorem M3 {P Q : Prop} (q : Q) (h : cW Q -> P := by
 intro q
 refine M1 ?_
 intro b1
 refine M1 ?_
 intro b2
 refine M1 ?_
 revert b1 b2
 exact q.h) : P := h ⟨q⟩
theorem M4 {P Q : Prop} (q : Q) (h : cW Q -> P := by
 intro q
 refine M1 ?_
 intro b1
 refine M1 ?_
 intro b2
 refine M1 ?_
 intro b3
 refine M1 ?_
 revert b1 b2 b3
 exact q.h) : P := h ⟨q⟩
theorem M5 {P Q : Prop} (q : Q) (h : cW Q -> P := by
 intro q
 refine M1 ?_
 intro b1
 refine M1 ?_
 intro b2
 refine M1 ?_
 intro b3
 refine M1 ?_
 intro b4
 refine M1 ?_
 revert b1 b2 b3 b4
 exact q.h) : P := h ⟨q⟩
theorem M6 {P Q : Prop} (q : Q) (h : cW Q -> P := by
 intro q
 refine M1 ?_
 intro b1
 refine M1 ?_
 intro b2
 refine M1 ?_
 intro b3
 refine M1 ?_
 intro b4
 refine M1 ?_
 intro b5
 refine M1 ?_
 revert b1 b2 b3 b4 b5
 exact q.h) : P := h ⟨q⟩
theorem M7 {P Q : Prop} (q : Q) (h : cW Q -> P := by
 intro q
 refine M1 ?_
 intro b1
 refine M1 ?_
 intro b2
 refine M1 ?_
 intro b3
 refine M1 ?_
 intro b4
 refine M1 ?_
 intro b5
 refine M1 ?_
 intro b6
 refine M1 ?_
 revert b1 b2 b3 b4 b5 b6
 exact q.h) : P := h ⟨q⟩
theorem M8 {P Q : Prop} (q : Q) (h : cW Q -> P := by
 intro q
 refine M1 ?_
 intro b1
 refine M1 ?_
 intro b2
 refine M1 ?_
 intro b3
 refine M1 ?_
 intro b4
 refine M1 ?_
 intro b5
 refine M1 ?_
 intro b6
 refine M1 ?_
 intro b7
 refine M1 ?_
 revert b1 b2 b3 b4 b5 b6 b7
 exact q.h) : P := h ⟨q⟩
open Go.SX Go.SW Go.Dt
attribute [local irreducible] Code.wpIn wpListIn Exit.then Exit.inBlock
def iH (a0 : List Int) : Option (List Int) :=
 (dR (([] : List Int) ++ a0)).bind fun z1 =>
 some z1
theorem aDA  (a0 : List Int) (r : List Int) (H : iH a0 = some r) : FnS Tryz.prog 55 [fSl tI a0] [] dN (fun v => [(fun v => aB v 3 tI r) v]) := by
 unfold iH at H
 refine bS Tryz.func55 rfl Tryz.ntmps55 rfl (fun β => ?_)
 refine Z3 ?_
 refine aJ ?_
 refine Z2 ?_
 refine Yy (yS rfl hh (us rfl)) ?_
 refine Z1 ?_
 refine yL (has rfl) (fun hx => ?_) ?_
 replace H : some ([] : List Int) = some r := by subst hx; exact H
 refine Z4 ?_
 refine gR tI 3 ?_
 cases H
 exact T_outO rfl (bU rfl) (fun _ _ _ => trivial) rfl
 refine Z3 ?_
 refine Tn (fV (t := tI) (xs := ([] : List Int)) rfl (et rfl) cP.nil rfl rfl rfl) fun b1 => ?_
 generalize (Value.slice (some ⟨b1, 0, none⟩) _ _) = v1
 refine aE 0 rfl (fun hc_v1 => ?_)
 revert H; refine B1 fun z1 h1 H => ?_
 refine pE (ys := a0) a1W rfl rfl rfl (has rfl) (has rfl) (et rfl) rfl h1 (fun v2 => ?_)
 refine aE 0 rfl (fun hc_v2 => ?_)
 refine Z3 ?_
 cases H
 exact T_outO rfl (bU rfl) (fun _ _ _ => trivial) rfl
theorem yK  (a0 : List Int) (r : List Int) (H : iH a0 = some r) : FnS Tryz.prog 55 [fSl tI a0] [] (fSl tI r) (fun _ => []) := (aDA a0 r H).frz (fun v => cU)
def yB (a0 : List ByteArray) : Option (List ByteArray) :=
 (dR (([] : List ByteArray) ++ a0)).bind fun z1 =>
 some z1
theorem aFC  (a0 : List ByteArray) (r : List ByteArray) (H : yB a0 = some r) : FnS Tryz.prog 61 [fSl aC a0] [] (fSl aC r) (fun _ => []) := by
 unfold yB at H
 refine bS Tryz.func61 rfl Tryz.ntmps61 rfl (fun β => ?_)
 refine Z3 ?_
 refine aJ ?_
 refine Z2 ?_
 refine Yy (yS rfl hh (us rfl)) ?_
 refine Z1 ?_
 refine yL (has rfl) (fun hx => ?_) ?_
 replace H : some [] = some r := by subst hx; exact H
 refine Z4 ?_
 cases H
 exact eE rfl (fK rfl cH) rfl
 refine Z3 ?_
 refine Tn (fV (t := aC) (xs := ([] : List ByteArray)) rfl (et rfl) cP.nil rfl rfl rfl) fun b1 => ?_
 generalize (Value.slice (some ⟨b1, 0, none⟩) _ _) = v1
 refine aE 0 rfl (fun hc_v1 => ?_)
 revert H; refine B1 fun z1 h1 H => ?_
 refine pE (ys := a0) a1W rfl rfl rfl (has rfl) (has rfl) (et rfl) rfl h1 (fun v2 => ?_)
 refine aE 0 rfl (fun hc_v2 => ?_)
 refine Z3 ?_
 refine bY (φ := fSl aC z1) (v := v2) [2, 7] cU fz ?_
 refine bX ?_
 cases H
 exact To
def yP (a0 : List Ar) : Option (List Ar) :=
 (dR (([] : List Ar) ++ a0)).bind fun z1 =>
 some z1
theorem aHv  (a0 : List Ar) (r : List Ar) (H : yP a0 = some r) : FnS Tryz.prog 126 [fSl aW a0] [] (fSl aW r) (fun _ => []) := by
 unfold yP at H
 refine bS Tryz.func126 rfl Tryz.ntmps126 rfl (fun β => ?_)
 refine Z3 ?_
 refine aJ ?_
 refine Z2 ?_
 refine Yy (yS rfl hh (us rfl)) ?_
 refine Z1 ?_
 refine yL (has rfl) (fun hx => ?_) ?_
 replace H : some [] = some r := by subst hx; exact H
 refine Z4 ?_
 cases H
 exact eE rfl (fK rfl cH) rfl
 refine Z3 ?_
 refine Tn (fV (t := aW) (xs := ([] : List Ar)) rfl (et rfl) cP.nil rfl rfl rfl) fun b1 => ?_
 generalize (Value.slice (some ⟨b1, 0, none⟩) _ _) = v1
 refine aE 0 rfl (fun hc_v1 => ?_)
 revert H; refine B1 fun z1 h1 H => ?_
 refine pE (ys := a0) a1W rfl rfl rfl (has rfl) (has rfl) (et rfl) rfl h1 (fun v2 => ?_)
 refine aE 0 rfl (fun hc_v2 => ?_)
 refine Z3 ?_
 refine bY (φ := fSl aW z1) (v := v2) [2, 7] cU fz ?_
 refine bX ?_
 cases H
 exact To
def aAj (a0 : List As) : Option (List As) :=
 (dR (([] : List As) ++ a0)).bind fun z1 =>
 some z1
theorem aHh  (a0 : List As) (r : List As) (H : aAj a0 = some r) : FnS Tryz.prog 127 [fSl bB a0] [] (fSl bB r) (fun _ => []) := by
 unfold aAj at H
 refine bS Tryz.func127 rfl Tryz.ntmps127 rfl (fun β => ?_)
 refine Z3 ?_
 refine aJ ?_
 refine Z2 ?_
 refine Yy (yS rfl hh (us rfl)) ?_
 refine Z1 ?_
 refine yL (has rfl) (fun hx => ?_) ?_
 replace H : some [] = some r := by subst hx; exact H
 refine Z4 ?_
 cases H
 exact eE rfl (fK rfl cH) rfl
 refine Z3 ?_
 refine Tn (fV (t := bB) (xs := ([] : List As)) rfl (et rfl) cP.nil rfl rfl rfl) fun b1 => ?_
 generalize (Value.slice (some ⟨b1, 0, none⟩) _ _) = v1
 refine aE 0 rfl (fun hc_v1 => ?_)
 revert H; refine B1 fun z1 h1 H => ?_
 refine pE (ys := a0) a1W rfl rfl rfl (has rfl) (has rfl) (et rfl) rfl h1 (fun v2 => ?_)
 refine aE 0 rfl (fun hc_v2 => ?_)
 refine Z3 ?_
 refine bY (φ := fSl bB z1) (v := v2) [2, 7] cU fz ?_
 refine bX ?_
 cases H
 exact To
def nN (y1 : AN) : Nat -> Int -> (List Al) -> Option (List Al)
| 0, _, _ => none
| k + 1, x10, x11 =>
 if x10 < (y1.AS.length : Int) then
  (idx y1.AS x10).bind fun y4 =>
  (iH y4.Af).bind fun y5 =>
  (dR (x11 ++ [(⟨y4.At, y5, y4.Ab⟩ : Al)])).bind fun z1 =>
  (chk (x10 + 1)).bind fun z2 =>
  nN y1 k z2 z1
 else
  some x11
def nC (AA : Nat) (a0 : List AN) : Nat -> (List AN) -> Int -> Option (List AN)
| 0, _, _ => none
| k + 1, x4, x5 =>
 if x5 < (a0.length : Int) then
  ((idx a0 x5).bind fun y1 =>
  (yP y1.AP).bind fun y2 =>
  (aAj y1.AT).bind fun y3 =>
  (nN y1 AA 0 []).bind fun x7 =>
  (dR (x4 ++ [(⟨y2, y3, x7⟩ : AN)])).bind fun z3 =>
  some z3).bind fun x6 =>
  (chk (x5 + 1)).bind fun z4 =>
  nC AA a0 k x6 z4
 else
  some x4
def xE (AA : Nat) (a0 : List AN) : Option (List AN) :=
 (nC AA a0 AA [] 0).bind fun x1 =>
 some x1
theorem aGQ (AA : Nat)  (a0 : List AN) (r : List AN) (H : xE AA a0 = some r) : FnS Tryz.prog 62 [fSl aA a0] [] (fSl aA r) (fun _ => []) := by
 unfold xE at H
 refine bS Tryz.func62 rfl Tryz.ntmps62 rfl (fun β => ?_)
 revert H; refine B6 fun o1 H Hr1 => ?_
 refine aP (ι := List AN × Value) (fun i => o1 = i.1) (fun i => [(3, fEq i.2)]) (fun i => [aB i.2 130 aA i.1]) ?_ ?_
 refine Z6 ?_
 refine gR aA 130 ?_
 refine Tl (ι := Nat × List AN × Int × Value) (fun i => nC AA a0 i.1 i.2.1 i.2.2.1 = _) (fun i => i.1) (fun i => [(3, fEq i.2.2.2), (9, fSl aA a0), (10, fI (a0.length : Int)), (11, fI i.2.2.1)]) (fun i => [aB i.2.2.2 130 aA i.2.1]) (AA, [], 0, (.slice none 0 0)) H ?_
 clear H; rintro ⟨k1, x4, x5, v3⟩ H
 replace H : nC AA a0 k1 x4 x5 = _ := H
 try dsimp only
 obtain _ | k1 := k1
 rw [nC] at H; cases H
 rw [nC] at H
 refine aE 0 rfl (fun hc_v3 => ?_)
 refine Z3 ?_
 refine aJ ?_
 revert H; refine is (fun c1 H => ?_) fun c1 H => ?_
 revert H; refine B3 fun o2 H Hr2 => ?_
 refine aP (ι := List AN × Value) (fun i => o2 = i.1) (fun i => [(9, fSl aA a0), (10, fI (a0.length : Int)), (11, fI x5), (3, fEq i.2)]) (fun i => [aB i.2 130 aA i.1]) ?_ ?_
 revert H; refine B2 fun y1 h1 H => ?_
 refine Z2 ?_
 refine Tn (dG rfl rT rfl) fun b1 => ?_
 refine dV (φs' := [fSl aW y1.AP, fSl bB y1.AT, fSl bF y1.AS]) a1W rfl rfl (has rfl) (has rfl) (aL (aY) (aL (aY) (aL (aY) cE))) (sz rfl) rfl rfl rfl ?_
 refine Z1 ?_
 refine aJ ?_
 revert H; refine bs fun y2 h2 H => ?_
 revert H; refine bs fun y3 h3 H => ?_
 apply bL (ods := [_, _, _, _, _, _, _, _, _]) 9 1 3 bM rfl rfl rfl
 refine ND ?_
 refine M2 ?_
 intros
 refine Nc (aHv _ _ h2) fun _ => ?_
 refine M2 ?_
 intros
 refine Nc (aHh _ _ h3) fun _ => ?_
 refine My (gL (ψs := [fSl aW y2, fSl bB y3, fEq (.slice none 0 0)]) rfl aCW rfl (bP.cons (has rfl) (cY (aY)) (bP.cons (has rfl) (cY (aY)) bP.nil)) rfl) fun _ => ?_
 refine Mn 2 (fun b2 => ptr b2) (fun b2 => aD b2 130 [fEq (.slice none 0 0), fEq (.slice none 0 0), fEq (.slice none 0 0)]) rfl (dG rfl rT rfl) (fun b2 u1 => ?_)
 refine oX (od := od1 7 [2] true (fun b2 _ => dN) (fun b2 _ => [aD b2 130 [fSl aW y2, fSl bB y3, fEq (.slice none 0 0)]])) (p := 2) (φs' := [fSl aW y2, fSl bB y3, fEq (.slice none 0 0)]) rfl (fun _ => rfl) (fun _ => rfl) a1W rfl rfl rfl (has rfl) (has rfl) (aL (aY) (aL (aY) (aL (aG a1W) cE))) (sz rfl) rfl rfl rfl (fun _ => ?_)
 revert H; refine B2 fun o3 H Hr3 => ?_
 refine aP (ι := List Al × Value) (fun i => o3 = i.1) (fun i => [(3, fEq v3), (9, fSl aA a0), (10, fI (a0.length : Int)), (11, fI x5), (6, fEq (ptr b2))]) (fun i => [aD b1 130 [fSl aW y1.AP, fSl bB y1.AT, fSl bF y1.AS], aD b2 130 [fSl aW y2, fSl bB y3, fEq i.2], aB v3 130 aA x4, aB i.2 134 bF i.1]) ?_ ?_
 refine Z7 ?_
 refine gR bF 134 ?_
 refine aH [1, 3, 2, 0] (by decide) ?_
 refine Tl (ι := Nat × Int × List Al × Value) (fun i => nN y1 i.1 i.2.1 i.2.2.1 = _) (fun i => i.1) (fun i => [(3, fEq v3), (9, fSl aA a0), (10, fI (a0.length : Int)), (11, fI x5), (6, fEq (ptr b2)), (23, fSl bF y1.AS), (24, fI (y1.AS.length : Int)), (25, fI i.2.1)]) (fun i => [aD b1 130 [fSl aW y1.AP, fSl bB y1.AT, fSl bF y1.AS], aD b2 130 [fSl aW y2, fSl bB y3, fEq i.2.2.2], aB v3 130 aA x4, aB i.2.2.2 134 bF i.2.2.1]) (AA, 0, [], (.slice none 0 0)) H ?_
 clear H; rintro ⟨k2, x10, x11, v7⟩ H
 replace H : nN y1 k2 x10 x11 = _ := H
 try dsimp only
 obtain _ | k2 := k2
 rw [nN] at H; cases H
 rw [nN] at H
 refine aE 3 rfl (fun hc_v7 => ?_)
 refine Z3 ?_
 refine aJ ?_
 revert H; refine is (fun c2 H => ?_) fun c2 H => ?_
 refine Z3 ?_
 refine aJ ?_
 revert H; refine B2 fun y4 h4 H => ?_
 refine Z2 ?_
 refine Tn (dG rfl sT rfl) fun b3 => ?_
 refine dV (φs' := [fI y4.At, fSl tI y4.Af, fI y4.Ab]) a1W rfl rfl (has rfl) (has rfl) (aL (aG a1W) (aL (aY) (aL (aG a1W) cE))) (sz rfl) rfl rfl rfl ?_
 revert H; refine B4 fun y5 h5 H => ?_
 refine iN a1W rfl rfl rfl hh (aM.cons hh aM.nil) rfl (cb rfl) (yK y4.Af y5 h5) rfl ?_
 refine Z1 ?_
 refine bK (φs' := [fI y4.At, fSl tI y5, fI y4.Ab]) a1W rfl rfl (has rfl) (has rfl) (aY) (sz rfl) rfl rfl ?_
 refine Z5 ?_
 refine Tn (fV (t := bF) (xs := [(⟨y4.At, y5, y4.Ab⟩ : Al)]) rfl (et rfl) (cP.cons rfl hh cJ cP.nil) rfl rfl rfl) fun b4 => ?_
 generalize (Value.slice (some ⟨b4, 0, none⟩) _ _) = v8
 refine aE 0 rfl (fun hc_v8 => ?_)
 revert H; refine bs fun z1 h6 H => ?_
 refine cR ?_
 refine bI ?_
 refine jT a1W rfl rfl rfl (has rfl) (has rfl) (et rfl) rfl h6 (fun v9 => ?_)
 refine aE 0 rfl (fun hc_v9 => ?_)
 refine Z1 ?_
 refine dM ?_
 refine bK (φs' := [fSl aW y2, fSl bB y3, fEq v9]) a1W rfl rfl (has rfl) (has rfl) (aG hc_v9) (sz rfl) rfl rfl ?_
 revert H; refine B4 fun z2 h7 H => ?_
 refine Z3 ?_
 refine aH [3, 0, 4, 1] (by decide) ?_
 exact Tm ((k2, z2, z1, v9)) ⟨H, ls⟩
 refine Z6 ?_
 exact Tm ((x11, v7)) (ij H)
 clear H; intro i hi; obtain ⟨x7, v5⟩ := i; subst o3; have H := Hr3; clear Hr3; try dsimp only at H
 try dsimp only
 refine aE 3 rfl (fun hc_v5 => ?_)
 refine Z3 ?_
 refine dM ?_
 refine bY (φ := fSl bF x7) (v := v5) [] cU (fun _ h => nomatch h) ?_
 refine eH ?_
 refine bI ?_
 refine dJ (φs' := [fSl aW y2, fSl bB y3, fSl bF x7]) (i := 2) rfl rfl ?_
 refine lP 41 (ψ := eG [fSl aW y2, fSl bB y3, fEq v5]) rfl (mN (i := 2) (φs := [fSl aW y2, fSl bB y3, fEq v5]) (φs' := [fSl aW y2, fSl bB y3, fSl bF x7]) rfl rfl) ?_
 refine bX ?_
 refine Tn (fV (t := aA) (xs := [(⟨y2, y3, x7⟩ : AN)]) rfl (et rfl) (cP.cons rfl hh cJ cP.nil) rfl rfl rfl) fun b5 => ?_
 generalize (Value.slice (some ⟨b5, 0, none⟩) _ _) = v10
 refine aE 0 rfl (fun hc_v10 => ?_)
 revert H; refine bs fun z3 h8 H => ?_
 refine dM ?_
 refine bI ?_
 refine jT a1W rfl rfl rfl (has rfl) (has rfl) (et rfl) rfl h8 (fun v11 => ?_)
 refine aE 0 rfl (fun hc_v11 => ?_)
 refine Z4 ?_
 refine aH [0] (by decide) ?_
 exact Tm ((z3, v11)) (ij H)
 exact fk
 kernel_rfl
 clear H; intro i hi; obtain ⟨x6, v4⟩ := i; subst o2; have H := Hr2; clear Hr2; try dsimp only at H
 try dsimp only
 refine aE 0 rfl (fun hc_v4 => ?_)
 revert H; refine B1 fun z4 h9 H => ?_
 refine Z3 ?_
 exact Tm ((k1, x6, z4, v4)) ⟨H, ls⟩
 refine Z6 ?_
 exact Tm ((x4, v3)) (ij H)
 clear H; intro i hi; obtain ⟨x1, v1⟩ := i; subst o1; have H := Hr1; clear Hr1; try dsimp only at H
 try dsimp only
 refine aE 0 rfl (fun hc_v1 => ?_)
 refine Z5 ?_
 refine bY (φ := fSl aA x1) (v := v1) [3, 45, 2] cU fz ?_
 refine bX ?_
 cases H
 exact To
def jY (a0 : List Int) (a1 : Int) : Nat -> Int -> Option ((Unit) ⊕ (Bool))
| 0, _ => none
| k + 1, x2 =>
 if x2 < (a0.length : Int) then
  ((idx a0 x2).bind fun y1 =>
  if y1 < 0 then
   ((some false).bind fun r => some (Sum.inr r)).bind fun r => some (Sum.inr r)
  else
   if a1 <= y1 then
    ((some false).bind fun r => some (Sum.inr r)).bind fun r => some (Sum.inr r)
   else
    if 0 < x2 then
     (chk (x2 - 1)).bind fun z1 =>
     (idx a0 z1).bind fun y2 =>
     if y1 <= y2 then
      ((some false).bind fun r => some (Sum.inr r)).bind fun r => some (Sum.inr r)
     else
      some (Sum.inl ())
    else
     some (Sum.inl ())).bind fun o => match o with
  | Sum.inr r => some r
  | Sum.inl _ =>
  (chk (x2 + 1)).bind fun z2 =>
  jY a0 a1 k z2
 else
  some (Sum.inl ())
def oY (AA : Nat) (a0 : List Int) (a1 : Int) : Option (Bool) :=
 (jY a0 a1 AA 0).bind fun o => match o with
 | Sum.inr r => some r
 | Sum.inl _ =>
 some true
theorem aAE (AA : Nat)  (a0 : List Int) (a1 : Int) (r : Bool) (H : oY AA a0 a1 = some r) : FnS Tryz.prog 113 [fSl tI a0, fI a1] [] (aF r) (fun _ => []) := by
 unfold oY at H
 refine bS Tryz.func113 rfl Tryz.ntmps113 rfl (fun β => ?_)
 revert H; refine B3 fun o1 H Hr1 => ?_
 refine aP (ι := Unit) (fun i => o1 = Sum.inl ()) (fun i => []) (fun i => []) ?_ ?_
 refine Z6 ?_
 refine Tl (ι := Nat × Int) (fun i => jY a0 a1 i.1 i.2 = _) (fun i => i.1) (fun i => [(0, fSl tI a0), (1, fI a1), (7, fSl tI a0), (8, fI (a0.length : Int)), (9, fI i.2)]) (fun i => []) (AA, 0) H ?_
 clear H; rintro ⟨k1, x2⟩ H
 replace H : jY a0 a1 k1 x2 = _ := H
 try dsimp only
 obtain _ | k1 := k1
 rw [jY] at H; cases H
 rw [jY] at H
 refine Z3 ?_
 refine aJ ?_
 revert H; refine is (fun c1 H => ?_) fun c1 H => ?_
 revert H; refine B3 fun o2 H Hr2 => ?_
 refine aP (ι := Unit) (fun i => o2 = Sum.inl ()) (fun i => [(0, fSl tI a0), (1, fI a1), (7, fSl tI a0), (8, fI (a0.length : Int)), (9, fI x2)]) (fun i => []) ?_ ?_
 revert H; refine B3 fun y1 h1 H => ?_
 revert H; refine I9 (fun c2 H => ?_) fun c2 H => ?_
 refine Z8 ?_
 refine cQ (⟨_, _, _, _, rfl, rfl, rfl, nu⟩) rfl rfl ?_
 refine cQ (⟨_, _, _, _, rfl, rfl, rfl, nu⟩) rfl rfl ?_
 refine cQ (⟨_, _, _, _, rfl, rfl, rfl, nu⟩) rfl rfl ?_
 refine cQ (⟨_, _, _, _, rfl, rfl, rfl, nu⟩) rfl rfl ?_
 refine cQ (⟨_, _, _, _, rfl, rfl, rfl, nu⟩) rfl rfl ?_
 refine cQ (⟨_, _, _, _, rfl, rfl, rfl, nu⟩) rfl rfl ?_
 refine cQ (⟨_, _, _, _, rfl, rfl, rfl, nu⟩) rfl rfl ?_
 revert H; refine B10 fun r1 H e1 => ?_
 cases e1; cases Hr2
 revert H; refine B3 fun r2 H e2 => ?_
 cases e2; cases Hr1
 cases H
 exact To
 revert H; refine I5 (fun c3 H => ?_) fun c3 H => ?_
 refine Z3 ?_
 refine cQ (⟨_, _, _, _, rfl, rfl, rfl, nu⟩) rfl rfl ?_
 refine cQ (⟨_, _, _, _, rfl, rfl, rfl, nu⟩) rfl rfl ?_
 refine cQ (⟨_, _, _, _, rfl, rfl, rfl, nu⟩) rfl rfl ?_
 refine cQ (⟨_, _, _, _, rfl, rfl, rfl, nu⟩) rfl rfl ?_
 refine cQ (⟨_, _, _, _, rfl, rfl, rfl, nu⟩) rfl rfl ?_
 refine cQ (⟨_, _, _, _, rfl, rfl, rfl, nu⟩) rfl rfl ?_
 refine cQ (⟨_, _, _, _, rfl, rfl, rfl, nu⟩) rfl rfl ?_
 revert H; refine B10 fun r3 H e3 => ?_
 cases e3; cases Hr2
 revert H; refine B3 fun r4 H e4 => ?_
 cases e4; cases Hr1
 cases H
 exact To
 revert H; refine I3 (fun c4 H => ?_) fun c4 H => ?_
 revert H; refine B3 fun z1 h2 H => ?_
 revert H; refine B1 fun y2 h3 H => ?_
 revert H; refine I6 (fun c5 H => ?_) fun c5 H => ?_
 revert H; refine B7 fun r5 H e5 => ?_
 cases e5; cases Hr2
 revert H; refine B3 fun r6 H e6 => ?_
 cases e6; cases Hr1
 cases H
 exact To
 refine Z4 ?_
 exact Tm (()) (ij H)
 refine Z12 ?_
 refine Z2 ?_
 exact Tm (()) (ij H)
 clear H; intro i hi; subst o2; have H := Hr2; clear Hr2; try dsimp only at H
 try dsimp only
 revert H; refine B1 fun z2 h4 H => ?_
 refine Z3 ?_
 exact Tm ((k1, z2)) ⟨H, ls⟩
 refine Z6 ?_
 exact Tm (()) (ij H)
 clear H; intro i hi; subst o1; have H := Hr1; clear Hr1; try dsimp only at H
 try dsimp only
 refine Z4 ?_
 cases H
 exact To
def tK (a0 : Int) : Option (Bool) :=
 (if a0 = 4 then
  some true
 else
  if a0 = 6 then
   some true
  else
   if a0 = 7 then
    some true
   else
    some (decide (a0 = 8))).bind fun x1 =>
 some x1
theorem aHD  (a0 : Int) (r : Bool) (H : tK a0 = some r) : FnS Tryz.prog 64 [fI a0] [] (aF r) (fun _ => []) := by
 unfold tK at H
 refine bS Tryz.func64 rfl Tryz.ntmps64 rfl (fun β => ?_)
 revert H; refine B3 fun o1 H Hr1 => ?_
 refine aP (ι := Bool) (fun i => o1 = i) (fun i => [(2, aF i)]) (fun i => []) ?_ ?_
 revert H; refine I4 (fun c1 H => ?_) fun c1 H => ?_
 refine Z12 ?_
 refine Z1 ?_
 exact Tm (true) (ij H)
 revert H; refine I4 (fun c2 H => ?_) fun c2 H => ?_
 refine Z9 ?_
 exact Tm (true) (ij H)
 revert H; refine I4 (fun c3 H => ?_) fun c3 H => ?_
 refine Z5 ?_
 exact Tm (true) (ij H)
 refine Z5 ?_
 exact Tm (decide (a0 = 8)) (ij H)
 clear H; intro x1 hi; subst o1; have H := Hr1; clear Hr1; try dsimp only at H
 try dsimp only
 refine Z1 ?_
 cases H
 exact To
def kI (a0 : List Int) (a1 : List Int) : Nat -> (List Int) -> Int -> Option (List Int)
| 0, _, _ => none
| k + 1, x4, x5 =>
 if x5 < (a1.length : Int) then
  (idx a1 x5).bind fun y1 =>
  (idx a0 y1).bind fun y2 =>
  (dR (x4 ++ [y2])).bind fun z1 =>
  (chk (x5 + 1)).bind fun z2 =>
  kI a0 a1 k z1 z2
 else
  some x4
def rK (AA : Nat) (a0 : List Int) (a1 : List Int) : Option (List Int) :=
 (kI a0 a1 AA [] 0).bind fun x1 =>
 some x1
theorem aG2 (AA : Nat)  (a0 : List Int) (a1 : List Int) (r : List Int) (H : rK AA a0 a1 = some r) : FnS Tryz.prog 182 [fSl tI a0, fSl tI a1] [] (fSl tI r) (fun _ => []) := by
 unfold rK at H
 refine bS Tryz.func182 rfl Tryz.ntmps182 rfl (fun β => ?_)
 revert H; refine B6 fun o1 H Hr1 => ?_
 refine aP (ι := List Int × Value) (fun i => o1 = i.1) (fun i => [(5, fEq i.2)]) (fun i => [aB i.2 3 tI i.1]) ?_ ?_
 refine Z6 ?_
 refine gR tI 3 ?_
 refine Tl (ι := Nat × List Int × Int × Value) (fun i => kI a0 a1 i.1 i.2.1 i.2.2.1 = _) (fun i => i.1) (fun i => [(0, fSl tI a0), (5, fEq i.2.2.2), (8, fSl tI a1), (9, fI (a1.length : Int)), (10, fI i.2.2.1)]) (fun i => [aB i.2.2.2 3 tI i.2.1]) (AA, [], 0, (.slice none 0 0)) H ?_
 clear H; rintro ⟨k1, x4, x5, v3⟩ H
 replace H : kI a0 a1 k1 x4 x5 = _ := H
 try dsimp only
 obtain _ | k1 := k1
 rw [kI] at H; cases H
 rw [kI] at H
 refine aE 0 rfl (fun hc_v3 => ?_)
 refine Z3 ?_
 refine aJ ?_
 revert H; refine is (fun c1 H => ?_) fun c1 H => ?_
 refine Z3 ?_
 refine aJ ?_
 revert H; refine B2 fun y1 h1 H => ?_
 revert H; refine B8 fun y2 h2 H => ?_
 refine Z2 ?_
 refine Tn (fV (t := tI) (xs := [y2]) rfl (et rfl) (cP.cons rfl (has rfl) (cY (aG a1W)) cP.nil) rfl rfl rfl) fun b1 => ?_
 generalize (Value.slice (some ⟨b1, 0, none⟩) _ _) = v4
 refine aE 0 rfl (fun hc_v4 => ?_)
 revert H; refine bs fun z1 h3 H => ?_
 refine jT a1W rfl rfl rfl (has rfl) (has rfl) (et rfl) rfl h3 (fun v5 => ?_)
 refine aE 0 rfl (fun hc_v5 => ?_)
 revert H; refine B5 fun z2 h4 H => ?_
 refine Z3 ?_
 exact Tm ((k1, z1, z2, v5)) ⟨H, ls⟩
 refine Z6 ?_
 exact Tm ((x4, v3)) (ij H)
 clear H; intro i hi; obtain ⟨x1, v1⟩ := i; subst o1; have H := Hr1; clear Hr1; try dsimp only at H
 try dsimp only
 refine aE 0 rfl (fun hc_v1 => ?_)
 refine Z5 ?_
 refine bY (φ := fSl tI x1) (v := v1) [5, 22, 4] cU fz ?_
 refine bX ?_
 cases H
 exact To
def lY (rec_flat_exp : AW -> (List Int) -> Option (AW × Bool)) (a0 : AW) (a1 : List Int) (x1 : Int) : Nat -> Int -> (List AW) -> Option ((List AW) ⊕ (AW × Bool))
| 0, _, _ => none
| k + 1, x5, x6 =>
 if x5 < (a0.AU.length : Int) then
  (idx a0.AU x5).bind fun y2 =>
  (rec_flat_exp (⟨y2.Op, y2.N, y2.AU⟩ : AW) a1).bind fun y3 =>
  bif y3.2 then
   (dR (x6 ++ [(⟨y3.1.Op, y3.1.N, y3.1.AU⟩ : AW)])).bind fun z1 =>
   (chk (x5 + 1)).bind fun z2 =>
   lY rec_flat_exp a0 a1 x1 k z2 z1
  else
   (some ((⟨a0.Op, x1, x6⟩ : AW), false)).bind fun r => some (Sum.inr r)
 else
  some (Sum.inl x6)
def kX : Nat -> AW -> (List Int) -> Option (AW × Bool)
| 0, _, _ => none
| AA + 1, a0, a1 =>
 (if a0.Op = 2 then
  if a0.N < 0 then
   (some ((⟨a0.Op, a0.N, []⟩ : AW), false)).bind fun r => some (Sum.inr r)
  else
   if (a1.length : Int) <= a0.N then
    (some ((⟨a0.Op, a0.N, []⟩ : AW), false)).bind fun r => some (Sum.inr r)
   else
    (idx a1 a0.N).bind fun y1 =>
    some (Sum.inl y1)
 else
  some (Sum.inl a0.N)).bind fun o => match o with
 | Sum.inr r => some r
 | Sum.inl x1 =>
 (lY (kX AA) a0 a1 x1 AA 0 []).bind fun o => match o with
 | Sum.inr r => some r
 | Sum.inl x2 =>
 some ((⟨a0.Op, x1, x2⟩ : AW), true)
theorem aHG : ∀ (AA : Nat), (∀  (a0 : AW) (a1 : List Int) (r : AW × Bool) (H : kX AA a0 a1 = some r), FnS Tryz.prog 183 [fSt aO a0, fSl tI a1] [] (eM [fSt aO r.1, aF r.2]) (fun _ => [])) := by
 intro AA
 induction AA with
 | zero => exact fun a0 a1 r H => (by rw [kX] at H; cases H)
 | succ AA ih =>
 have ih_flat_exp := ih
 refine ?_
 intro a0 a1 r H
 rw [kX] at H
 refine bS Tryz.func183 rfl Tryz.ntmps183 rfl (fun β => ?_)
 refine Z1 ?_
 refine Tn (cV rfl hh cJ) fun b1 => ?_
 refine Tn (dG rfl oC rfl) fun b2 => ?_
 refine Z7 ?_
 refine Yy (gL (ψs := [fI a0.Op, fI a0.N, fEq (.slice none 0 0)]) rfl aFR rfl (bP.cons (has rfl) (cY (aG a1W)) (bP.cons (has rfl) (cY (aG a1W)) bP.nil)) rfl) ?_
 refine Tn (dG rfl oC rfl) fun b3 => ?_
 refine dV (φs' := [fI a0.Op, fI a0.N, fEq (.slice none 0 0)]) a1W rfl rfl (has rfl) (has rfl) (aL (aG a1W) (aL (aG a1W) (aL (aG a1W) cE))) (sz rfl) rfl rfl rfl ?_
 revert H; refine B1 fun o1 H Hr1 => ?_
 refine aP (ι := Int) (fun i => o1 = Sum.inl i) (fun i => [(1, fSl tI a1), (2, fEq (ptr b1)), (4, fEq (ptr b2)), (6, fEq (ptr b3))]) (fun i => [aD b3 124 [fI a0.Op, fI i, fEq (.slice none 0 0)], aD b2 124 [fI 0, fI 0, fEq (.slice none 0 0)], aD b1 124 [fI a0.Op, fI a0.N, eF a0.AU]]) ?_ ?_
 revert H; refine I5 (fun c1 H => ?_) fun c1 H => ?_
 refine Z1 ?_
 refine aJ ?_
 revert H; refine I5 (fun c2 H => ?_) fun c2 H => ?_
 refine Z10 ?_
 refine bI ?_
 refine dV (φs' := [fI a0.Op, fI a0.N, fEq (.slice none 0 0)]) a1W rfl rfl (has rfl) (has rfl) (aL (aG a1W) (aL (aG a1W) (aL (aG a1W) cE))) (sz rfl) rfl rfl rfl ?_
 revert H; refine B4 fun r1 H e1 => ?_
 cases e1; cases Hr1
 cases H
 refine aH [0] (by decide) ?_
 exact yH rfl (ag rfl) rfl (bU rfl) (bU rfl) (xK (aI.cons Ent.rfl (aI.cons Ent.rfl (aI.cons (wP cH) aI.nil)))) rfl
 revert H; refine I7 (fun c3 H => ?_) fun c3 H => ?_
 refine Z3 ?_
 refine bI ?_
 refine dV (φs' := [fI a0.Op, fI a0.N, fEq (.slice none 0 0)]) a1W rfl rfl (has rfl) (has rfl) (aL (aG a1W) (aL (aG a1W) (aL (aG a1W) cE))) (sz rfl) rfl rfl rfl ?_
 revert H; refine B4 fun r2 H e2 => ?_
 cases e2; cases Hr1
 cases H
 refine aH [0] (by decide) ?_
 exact yH rfl (ag rfl) rfl (bU rfl) (bU rfl) (xK (aI.cons Ent.rfl (aI.cons Ent.rfl (aI.cons (wP cH) aI.nil)))) rfl
 revert H; refine B7 fun y1 h1 H => ?_
 refine Z3 ?_
 refine bK (φs' := [fI a0.Op, fI y1, fEq (.slice none 0 0)]) a1W rfl rfl (has rfl) (has rfl) (aG a1W) (sz rfl) rfl rfl ?_
 refine Z1 ?_
 exact Tm (y1) (ij H)
 refine Z3 ?_
 exact Tm (a0.N) (ij H)
 clear H; intro x1 hi; subst o1; have H := Hr1; clear Hr1; try dsimp only at H
 try dsimp only
 revert H; refine bs fun o2 H Hr2 => ?_
 refine aP (ι := List AW × Value) (fun i => o2 = Sum.inl i.1) (fun i => [(4, fEq (ptr b2)), (6, fEq (ptr b3))]) (fun i => [aD b3 124 [fI a0.Op, fI x1, fEq i.2], aD b2 124 [fI 0, fI 0, fEq (.slice none 0 0)], aD b1 124 [fI a0.Op, fI a0.N, eF a0.AU], aB i.2 124 aO i.1]) ?_ ?_
 refine Z2 ?_
 refine Yo 2 rfl (aZ rfl hh (sc rfl) rfl (gI fX)) ?_
 refine Z4 ?_
 refine gR aO 124 ?_
 refine aH [1, 2, 3, 0] (by decide) ?_
 refine Tl (ι := Nat × Int × List AW × Value) (fun i => lY (kX AA) a0 a1 x1 i.1 i.2.1 i.2.2.1 = _) (fun i => i.1) (fun i => [(1, fSl tI a1), (4, fEq (ptr b2)), (6, fEq (ptr b3)), (37, fSl aO a0.AU), (38, fI (a0.AU.length : Int)), (39, fI i.2.1)]) (fun i => [aD b3 124 [fI a0.Op, fI x1, fEq i.2.2.2], aD b2 124 [fI 0, fI 0, fEq (.slice none 0 0)], aD b1 124 [fI a0.Op, fI a0.N, eF a0.AU], aB i.2.2.2 124 aO i.2.2.1]) (AA, 0, [], (.slice none 0 0)) H ?_
 clear H; rintro ⟨k1, x5, x6, v3⟩ H
 replace H : lY (kX AA) a0 a1 x1 k1 x5 x6 = _ := H
 try dsimp only
 obtain _ | k1 := k1
 rw [lY] at H; cases H
 rw [lY] at H
 refine aE 3 rfl (fun hc_v3 => ?_)
 refine Z3 ?_
 refine aJ ?_
 revert H; refine is (fun c4 H => ?_) fun c4 H => ?_
 refine Z3 ?_
 refine aJ ?_
 revert H; refine B2 fun y2 h2 H => ?_
 refine Z2 ?_
 refine Tn (dG rfl oC rfl) fun b4 => ?_
 refine dV (φs' := [fI y2.Op, fI y2.N, eF y2.AU]) a1W rfl rfl (has rfl) (has rfl) (aL (aG a1W) (aL (aG a1W) (aL (rD) cE))) (sz rfl) rfl rfl rfl ?_
 revert H; refine B4 fun y3 h3 H => ?_
 refine Tc (ih_flat_exp _ _ _ h3) ?_
 refine Z3 ?_
 refine Tn (dG rfl oC rfl) fun b5 => ?_
 refine dV (φs' := [fI y3.1.Op, fI y3.1.N, eF y3.1.AU]) a1W rfl rfl (has rfl) (has rfl) (aL (aG a1W) (aL (aG a1W) (aL (rD) cE))) (sz rfl) rfl rfl rfl ?_
 refine Z2 ?_
 refine aJ ?_
 refine Z4 ?_
 revert H; refine cs (fun c5 H => ?_) fun c5 H => ?_
 refine Z7 ?_
 refine Tn (fV (t := aO) (xs := [(⟨y3.1.Op, y3.1.N, y3.1.AU⟩ : AW)]) rfl (et rfl) (cP.cons rfl hh cJ cP.nil) rfl rfl rfl) fun b6 => ?_
 generalize (Value.slice (some ⟨b6, 0, none⟩) _ _) = v4
 refine aE 0 rfl (fun hc_v4 => ?_)
 revert H; refine bs fun z1 h4 H => ?_
 refine aQ ?_
 refine bI ?_
 refine jT a1W rfl rfl rfl (has rfl) (has rfl) (et rfl) rfl h4 (fun v5 => ?_)
 refine aE 0 rfl (fun hc_v5 => ?_)
 refine Z1 ?_
 refine dM ?_
 refine bK (φs' := [fI a0.Op, fI x1, fEq v5]) a1W rfl rfl (has rfl) (has rfl) (aG hc_v5) (sz rfl) rfl rfl ?_
 revert H; refine B4 fun z2 h5 H => ?_
 refine Z3 ?_
 refine aH [0, 4, 5, 1] (by decide) ?_
 exact Tm ((k1, z2, z1, v5)) ⟨H, ls⟩
 refine Z3 ?_
 refine dM ?_
 refine dV (φs' := [fI a0.Op, fI x1, fEq v3]) a1W rfl rfl (has rfl) (has rfl) (aL (aG a1W) (aL (aG a1W) (aL (aG hc_v3) cE))) (sz rfl) rfl rfl rfl ?_
 revert H; refine B8 fun r3 H e3 => ?_
 cases e3; cases Hr2
 refine cR ?_
 refine bY (φ := fSl aO x6) (v := v3) [] cU (fun _ h => nomatch h) ?_
 refine bH ?_
 refine bI ?_
 refine dJ (φs' := [fI a0.Op, fI x1, fSl aO x6]) (i := 2) rfl rfl ?_
 refine eH ?_
 refine bI ?_
 refine dJ (φs' := [fI a0.Op, fI x1, fSl aO x6]) (i := 2) rfl rfl ?_
 refine lP 51 (ψ := eG [fI a0.Op, fI x1, fEq v3]) rfl (mN (i := 2) (φs := [fI a0.Op, fI x1, fEq v3]) (φs' := [fI a0.Op, fI x1, fSl aO x6]) rfl rfl) ?_
 refine bX ?_
 cases H
 refine aH [0] (by decide) ?_
 exact yH rfl (ag rfl) rfl (bU rfl) (bU rfl) (xK (aI.cons Ent.rfl (aI.cons Ent.rfl (aI.cons (wP .rfl) aI.nil)))) rfl
 refine Z6 ?_
 exact Tm ((x6, v3)) (ij H)
 clear H; intro i hi; obtain ⟨x2, v1⟩ := i; subst o2; have H := Hr2; clear Hr2; try dsimp only at H
 try dsimp only
 refine aE 3 rfl (fun hc_v1 => ?_)
 refine Z2 ?_
 refine bI ?_
 refine dV (φs' := [fI a0.Op, fI x1, fEq v1]) a1W rfl rfl (has rfl) (has rfl) (aL (aG a1W) (aL (aG a1W) (aL (aG hc_v1) cE))) (sz rfl) rfl rfl rfl ?_
 refine Z3 ?_
 refine dM ?_
 refine bY (φ := fSl aO x2) (v := v1) [] cU (fun _ h => nomatch h) ?_
 refine eH ?_
 refine bI ?_
 refine dJ (φs' := [fI a0.Op, fI x1, fSl aO x2]) (i := 2) rfl rfl ?_
 refine eH ?_
 refine bI ?_
 refine dJ (φs' := [fI a0.Op, fI x1, fSl aO x2]) (i := 2) rfl rfl ?_
 refine lP 59 (ψ := eG [fI a0.Op, fI x1, fEq v1]) rfl (mN (i := 2) (φs := [fI a0.Op, fI x1, fEq v1]) (φs' := [fI a0.Op, fI x1, fSl aO x2]) rfl rfl) ?_
 refine bX ?_
 cases H
 refine aH [0] (by decide) ?_
 exact yH rfl (ag rfl) rfl (bU rfl) (bU rfl) (xK (aI.cons Ent.rfl (aI.cons Ent.rfl (aI.cons (wP .rfl) aI.nil)))) rfl
def mK (a0 : Int) (a1 : Int) : Nat -> (List Int) -> Int -> Option (List Int)
| 0, _, _ => none
| k + 1, x4, x5 =>
 if x5 < a1 then
  (chk (a0 + x5)).bind fun z1 =>
  (dR (x4 ++ [z1])).bind fun z2 =>
  (chk (x5 + 1)).bind fun z3 =>
  mK a0 a1 k z2 z3
 else
  some x4
def sQ (AA : Nat) (a0 : Int) (a1 : Int) : Option (List Int) :=
 (mK a0 a1 AA [] 0).bind fun x1 =>
 some x1
theorem aDF (AA : Nat)  (a0 : Int) (a1 : Int) (r : List Int) (H : sQ AA a0 a1 = some r) : FnS Tryz.prog 68 [fI a0, fI a1] [] (fSl tI r) (fun _ => []) := by
 unfold sQ at H
 refine bS Tryz.func68 rfl Tryz.ntmps68 rfl (fun β => ?_)
 revert H; refine B6 fun o1 H Hr1 => ?_
 refine aP (ι := List Int × Value) (fun i => o1 = i.1) (fun i => [(5, fEq i.2)]) (fun i => [aB i.2 3 tI i.1]) ?_ ?_
 refine Z5 ?_
 refine gR tI 3 ?_
 refine Tl (ι := Nat × List Int × Int × Value) (fun i => mK a0 a1 i.1 i.2.1 i.2.2.1 = _) (fun i => i.1) (fun i => [(0, fI a0), (5, fEq i.2.2.2), (7, fI a1), (8, fI i.2.2.1)]) (fun i => [aB i.2.2.2 3 tI i.2.1]) (AA, [], 0, (.slice none 0 0)) H ?_
 clear H; rintro ⟨k1, x4, x5, v3⟩ H
 replace H : mK a0 a1 k1 x4 x5 = _ := H
 try dsimp only
 obtain _ | k1 := k1
 rw [mK] at H; cases H
 rw [mK] at H
 refine aE 0 rfl (fun hc_v3 => ?_)
 refine Z3 ?_
 refine aJ ?_
 revert H; refine is (fun c1 H => ?_) fun c1 H => ?_
 refine Z3 ?_
 refine aJ ?_
 revert H; refine B9 fun z1 h1 H => ?_
 refine Z1 ?_
 refine Tn (fV (t := tI) (xs := [z1]) rfl (et rfl) (cP.cons rfl (has rfl) (cY (aG a1W)) cP.nil) rfl rfl rfl) fun b1 => ?_
 generalize (Value.slice (some ⟨b1, 0, none⟩) _ _) = v4
 refine aE 0 rfl (fun hc_v4 => ?_)
 revert H; refine bs fun z2 h2 H => ?_
 refine jT a1W rfl rfl rfl (has rfl) (has rfl) (et rfl) rfl h2 (fun v5 => ?_)
 refine aE 0 rfl (fun hc_v5 => ?_)
 revert H; refine B5 fun z3 h3 H => ?_
 refine Z3 ?_
 exact Tm ((k1, z2, z3, v5)) ⟨H, ls⟩
 refine Z6 ?_
 exact Tm ((x4, v3)) (ij H)
 clear H; intro i hi; obtain ⟨x1, v1⟩ := i; subst o1; have H := Hr1; clear Hr1; try dsimp only at H
 try dsimp only
 refine aE 0 rfl (fun hc_v1 => ?_)
 refine Z5 ?_
 refine bY (φ := fSl tI x1) (v := v1) [5, 18, 4] cU fz ?_
 refine bX ?_
 cases H
 exact To
def rJ (a0 : List Int) (a1 : List Int) : Option (List Int) :=
 (iH a0).bind fun y1 =>
 (dR (y1 ++ a1)).bind fun z1 =>
 some z1
theorem aA3  (a0 : List Int) (a1 : List Int) (r : List Int) (H : rJ a0 a1 = some r) : FnS Tryz.prog 69 [fSl tI a0, fSl tI a1] [] (fSl tI r) (fun _ => []) := by
 unfold rJ at H
 refine bS Tryz.func69 rfl Tryz.ntmps69 rfl (fun β => ?_)
 revert H; refine B5 fun y1 h1 H => ?_
 refine T_callO a1W rfl rfl rfl (has rfl) (aM.cons (has rfl) aM.nil) rfl (cb rfl) (aDA a0 y1 h1) (Δi := []) rfl (fun v1 => ?_)
 dsimp only [List.append, a0v, a1k]
 refine aE 0 rfl (fun hc_v1 => ?_)
 revert H; refine B1 fun z1 h2 H => ?_
 refine pE (ys := a1) a1W rfl rfl rfl (has rfl) (has rfl) (et rfl) rfl h2 (fun v2 => ?_)
 refine aE 0 rfl (fun hc_v2 => ?_)
 refine Z3 ?_
 refine bY (φ := fSl tI z1) (v := v2) [4, 8] cU fz ?_
 refine bX ?_
 cases H
 exact To
open Go.SX Go.SW Go.Dt
def kO (a0 : AN) (a1 : Al) : Nat -> Int -> Int -> Option ((Int) ⊕ (Int))
| 0, _, _ => none
| k + 1, x4, x5 =>
 if x5 < (a1.Af.length : Int) then
  (idx a1.Af x5).bind fun y1 =>
  if y1 < 0 then
   (some (-1)).bind fun r => some (Sum.inr r)
  else
   if (a0.AP.length : Int) <= y1 then
    (some (-1)).bind fun r => some (Sum.inr r)
   else
    (idx a0.AP y1).bind fun y2 =>
    if y2.Ap < 0 then
     (some (-1)).bind fun r => some (Sum.inr r)
    else
     (idx a0.AP y1).bind fun y3 =>
     if 3 < y3.Ap then
      (some (-1)).bind fun r => some (Sum.inr r)
     else
      (idx a0.AP y1).bind fun y4 =>
      (chk (x4 + y4.Ap)).bind fun z1 =>
      (chk (x5 + 1)).bind fun z2 =>
      kO a0 a1 k z1 z2
 else
  some (Sum.inl x4)
def qD (AA : Nat) (a0 : AN) (a1 : Al) : Option (Int) :=
 (kO a0 a1 AA 0 0).bind fun o => match o with
 | Sum.inr r => some r
 | Sum.inl x1 =>
 some x1
theorem aFu (AA : Nat)  (a0 : AN) (a1 : Al) (r : Int) (H : qD AA a0 a1 = some r) : FnS Tryz.prog 70 [fSt aA a0, fSt bF a1] [] (fI r) (fun _ => []) := by
 unfold qD at H
 refine bS Tryz.func70 rfl Tryz.ntmps70 rfl (fun β => ?_)
 refine Z1 ?_
 refine Tn (cV rfl hh cJ) fun b1 => ?_
 refine Tn (cV rfl hh cJ) fun b2 => ?_
 revert H; refine B5 fun o1 H Hr1 => ?_
 refine aP (ι := Int) (fun i => o1 = Sum.inl i) (fun i => [(5, fI i)]) (fun i => [aD b2 134 [fI a1.At, fSl tI a1.Af, fI a1.Ab], aD b1 130 [fSl aW a0.AP, fSl bB a0.AT, fSl bF a0.AS]]) ?_ ?_
 refine Z7 ?_
 refine Tl (ι := Nat × Int × Int) (fun i => kO a0 a1 i.1 i.2.1 i.2.2 = _) (fun i => i.1) (fun i => [(2, fEq (ptr b1)), (5, fI i.2.1), (9, fSl tI a1.Af), (10, fI (a1.Af.length : Int)), (11, fI i.2.2)]) (fun i => [aD b2 134 [fI a1.At, fSl tI a1.Af, fI a1.Ab], aD b1 130 [fSl aW a0.AP, fSl bB a0.AT, fSl bF a0.AS]]) (AA, 0, 0) H ?_
 clear H; rintro ⟨k1, x4, x5⟩ H
 replace H : kO a0 a1 k1 x4 x5 = _ := H
 try dsimp only
 obtain _ | k1 := k1
 rw [kO] at H; cases H
 rw [kO] at H
 refine Z3 ?_
 refine aJ ?_
 revert H; refine is (fun c1 H => ?_) fun c1 H => ?_
 refine Z3 ?_
 refine aJ ?_
 revert H; refine B2 fun y1 h1 H => ?_
 refine Z4 ?_
 refine aJ ?_
 revert H; refine I4 (fun c2 H => ?_) fun c2 H => ?_
 refine Z12 ?_
 refine Z12 ?_
 revert H; refine B11 fun r1 H e1 => ?_
 cases e1; cases Hr1
 cases H
 refine aH [] (by decide) ?_
 exact To
 revert H; refine I7 (fun c3 H => ?_) fun c3 H => ?_
 refine Z12 ?_
 refine Z12 ?_
 revert H; refine B4 fun r2 H e2 => ?_
 cases e2; cases Hr1
 cases H
 refine aH [] (by decide) ?_
 exact To
 revert H; refine B3 fun y2 h2 H => ?_
 revert H; refine I6 (fun c4 H => ?_) fun c4 H => ?_
 refine Z12 ?_
 revert H; refine B7 fun r3 H e3 => ?_
 cases e3; cases Hr1
 cases H
 refine aH [] (by decide) ?_
 exact To
 revert H; refine B3 fun y3 h3 H => ?_
 revert H; refine I6 (fun c5 H => ?_) fun c5 H => ?_
 revert H; refine B10 fun r4 H e4 => ?_
 cases e4; cases Hr1
 cases H
 refine aH [] (by decide) ?_
 exact To
 revert H; refine B8 fun y4 h4 H => ?_
 revert H; refine B3 fun z1 h5 H => ?_
 revert H; refine B6 fun z2 h6 H => ?_
 refine Z3 ?_
 exact Tm ((k1, z1, z2)) ⟨H, ls⟩
 refine Z6 ?_
 exact Tm (x4) (ij H)
 clear H; intro x1 hi; subst o1; have H := Hr1; clear Hr1; try dsimp only at H
 try dsimp only
 refine Z5 ?_
 cases H
 refine aH [] (by decide) ?_
 exact To
open Go.SX Go.SW Go.Dt
def mL (AA : Nat) (a0 : Ag) (a1 : Int) (a2 : List Int) (y4 : Ao) (y8 : List Int) : Nat -> Int -> (List AW) -> Option ((List AW) ⊕ (Ag × Bool))
| 0, _, _ => none
| k + 1, x8, x9 =>
 if x8 < (y4.Aa.length : Int) then
  (idx y4.Aa x8).bind fun y13 =>
  (kX AA (⟨y13.Op, y13.N, y13.AU⟩ : AW) a2).bind fun y14 =>
  bif y14.2 then
   (dR (x9 ++ [(⟨y14.1.Op, y14.1.N, y14.1.AU⟩ : AW)])).bind fun z1 =>
   (chk (x8 + 1)).bind fun z2 =>
   mL AA a0 a1 a2 y4 y8 k z2 z1
  else
   (some ((⟨(⟨a0.AF.AD, a0.AF.AI, a0.AF.AB, a0.AF.AC, a0.AF.AE⟩ : AF), a0.AQ.set a1.toNat a2, a0.AR.set a1.toNat y8, a0.AO.set a1.toNat true, (⟨a0.AK.AD, a0.AK.AB, a0.AK.AC, a0.AK.AE⟩ : AM)⟩ : Ag), false)).bind fun r => some (Sum.inr r)
 else
  some (Sum.inl x9)
def lO (AA : Nat) (rec_flat_view_node : Ag -> Int -> (List Int) -> Int -> Option (Ag × Bool)) (y2 : AN) (z2 : Int) (y5 : List Int) : Nat -> Int -> (List ByteArray) -> (List Int) -> (List Ao) -> (List AN) -> Int -> (List (List Int)) -> (List (List Int)) -> (List Bool) -> (List ByteArray) -> (List Ae) -> (List AN) -> Int -> Option ((List ByteArray × List Int × List Ao × List AN × Int × List (List Int) × List (List Int) × List Bool × List ByteArray × List Ae × List AN × Int) ⊕ (Ag × Bool))
| 0, _, _, _, _, _, _, _, _, _, _, _, _, _ => none
| k + 1, x26, x27, x28, x29, x30, x31, x32, x33, x34, x35, x36, x37, x38 =>
 if x26 < (y2.AS.length : Int) then
  (idx y2.AS x26).bind fun y6 =>
  (qD AA (⟨y2.AP, y2.AT, y2.AS⟩ : AN) (⟨y6.At, y6.Af, y6.Ab⟩ : Al)).bind fun y7 =>
  if y7 < 0 then
   (some ((⟨(⟨x27, x28, x29, x30, x31⟩ : AF), x32, x33, x34, (⟨x35, x36, x37, x38⟩ : AM)⟩ : Ag), false)).bind fun r => some (Sum.inr r)
  else
   (sQ AA z2 y7).bind fun y8 =>
   (rJ y5 y8).bind fun y9 =>
   (chk (z2 + y7)).bind fun z3 =>
   (rec_flat_view_node (⟨(⟨x27, x28, x29, x30, x31⟩ : AF), x32, x33, x34, (⟨x35, x36, x37, x38⟩ : AM)⟩ : Ag) y6.Ab y9 z3).bind fun y10 =>
   bif y10.2 then
    (chk (x26 + 1)).bind fun z4 =>
    lO AA rec_flat_view_node y2 z2 y5 k z4 y10.1.AF.AD y10.1.AF.AI y10.1.AF.AB y10.1.AF.AC y10.1.AF.AE y10.1.AQ y10.1.AR y10.1.AO y10.1.AK.AD y10.1.AK.AB y10.1.AK.AC y10.1.AK.AE
   else
    (some ((⟨(⟨y10.1.AF.AD, y10.1.AF.AI, y10.1.AF.AB, y10.1.AF.AC, y10.1.AF.AE⟩ : AF), y10.1.AQ, y10.1.AR, y10.1.AO, (⟨y10.1.AK.AD, y10.1.AK.AB, y10.1.AK.AC, y10.1.AK.AE⟩ : AM)⟩ : Ag), false)).bind fun r => some (Sum.inr r)
 else
  some (Sum.inl (x27, x28, x29, x30, x31, x32, x33, x34, x35, x36, x37, x38))
def lQ (rec_flat_view_node : Ag -> Int -> (List Int) -> Int -> Option (Ag × Bool)) (y2 : AN) (z2 : Int) (y5 : List Int) : Nat -> Int -> (List ByteArray) -> (List Int) -> (List Ao) -> (List AN) -> Int -> (List (List Int)) -> (List (List Int)) -> (List Bool) -> (List ByteArray) -> (List Ae) -> (List AN) -> Int -> Option ((List ByteArray × List Int × List Ao × List AN × Int × List (List Int) × List (List Int) × List Bool × List ByteArray × List Ae × List AN × Int) ⊕ (Ag × Bool))
| 0, _, _, _, _, _, _, _, _, _, _, _, _, _ => none
| k + 1, x64, x65, x66, x67, x68, x69, x70, x71, x72, x73, x74, x75, x76 =>
 if x64 < (y2.AT.length : Int) then
  (idx y2.AT x64).bind fun y11 =>
  (rec_flat_view_node (⟨(⟨x65, x66, x67, x68, x69⟩ : AF), x70, x71, x72, (⟨x73, x74, x75, x76⟩ : AM)⟩ : Ag) y11.Ab y5 z2).bind fun y12 =>
  bif y12.2 then
   (chk (x64 + 1)).bind fun z5 =>
   lQ rec_flat_view_node y2 z2 y5 k z5 y12.1.AF.AD y12.1.AF.AI y12.1.AF.AB y12.1.AF.AC y12.1.AF.AE y12.1.AQ y12.1.AR y12.1.AO y12.1.AK.AD y12.1.AK.AB y12.1.AK.AC y12.1.AK.AE
  else
   (some ((⟨(⟨y12.1.AF.AD, y12.1.AF.AI, y12.1.AF.AB, y12.1.AF.AC, y12.1.AF.AE⟩ : AF), y12.1.AQ, y12.1.AR, y12.1.AO, (⟨y12.1.AK.AD, y12.1.AK.AB, y12.1.AK.AC, y12.1.AK.AE⟩ : AM)⟩ : Ag), false)).bind fun r => some (Sum.inr r)
 else
  some (Sum.inl (x65, x66, x67, x68, x69, x70, x71, x72, x73, x74, x75, x76))
def mD (rec_flat_view_node : Ag -> Int -> (List Int) -> Int -> Option (Ag × Bool)) (a1 : List Int) (a2 : List Int) (a3 : Int) : Nat -> Int -> (List ByteArray) -> (List Int) -> (List Ao) -> (List AN) -> Int -> (List (List Int)) -> (List (List Int)) -> (List Bool) -> (List ByteArray) -> (List Ae) -> (List AN) -> Int -> Option ((List ByteArray × List Int × List Ao × List AN × Int × List (List Int) × List (List Int) × List Bool × List ByteArray × List Ae × List AN × Int) ⊕ (Ag × Bool))
| 0, _, _, _, _, _, _, _, _, _, _, _, _, _ => none
| k + 1, x26, x27, x28, x29, x30, x31, x32, x33, x34, x35, x36, x37, x38 =>
 if x26 < (a1.length : Int) then
  (idx a1 x26).bind fun y1 =>
  (rec_flat_view_node (⟨(⟨x27, x28, x29, x30, x31⟩ : AF), x32, x33, x34, (⟨x35, x36, x37, x38⟩ : AM)⟩ : Ag) y1 a2 a3).bind fun y2 =>
  bif y2.2 then
   (chk (x26 + 1)).bind fun z1 =>
   mD rec_flat_view_node a1 a2 a3 k z1 y2.1.AF.AD y2.1.AF.AI y2.1.AF.AB y2.1.AF.AC y2.1.AF.AE y2.1.AQ y2.1.AR y2.1.AO y2.1.AK.AD y2.1.AK.AB y2.1.AK.AC y2.1.AK.AE
  else
   (some ((⟨(⟨y2.1.AF.AD, y2.1.AF.AI, y2.1.AF.AB, y2.1.AF.AC, y2.1.AF.AE⟩ : AF), y2.1.AQ, y2.1.AR, y2.1.AO, (⟨y2.1.AK.AD, y2.1.AK.AB, y2.1.AK.AC, y2.1.AK.AE⟩ : AM)⟩ : Ag), false)).bind fun r => some (Sum.inr r)
 else
  some (Sum.inl (x27, x28, x29, x30, x31, x32, x33, x34, x35, x36, x37, x38))
mutual
def eC : Nat -> Ag -> Int -> (List Int) -> Int -> Option (Ag × Bool)
| 0, _, _, _, _ => none
| AA + 1, a0, a1, a2, a3 =>
 if a1 < 0 then
  some ((⟨(⟨a0.AF.AD, a0.AF.AI, a0.AF.AB, a0.AF.AC, a0.AF.AE⟩ : AF), a0.AQ, a0.AR, a0.AO, (⟨a0.AK.AD, a0.AK.AB, a0.AK.AC, a0.AK.AE⟩ : AM)⟩ : Ag), false)
 else
  if (a0.AF.AB.length : Int) <= a1 then
   some ((⟨(⟨a0.AF.AD, a0.AF.AI, a0.AF.AB, a0.AF.AC, a0.AF.AE⟩ : AF), a0.AQ, a0.AR, a0.AO, (⟨a0.AK.AD, a0.AK.AB, a0.AK.AC, a0.AK.AE⟩ : AM)⟩ : Ag), false)
  else
   (idx a0.AO a1).bind fun y1 =>
   bif y1 then
    some ((⟨(⟨a0.AF.AD, a0.AF.AI, a0.AF.AB, a0.AF.AC, a0.AF.AE⟩ : AF), a0.AQ, a0.AR, a0.AO, (⟨a0.AK.AD, a0.AK.AB, a0.AK.AC, a0.AK.AE⟩ : AM)⟩ : Ag), false)
   else
    (idx a0.AO a1).bind fun y2 =>
    (idx a0.AQ a1).bind fun y3 =>
    (idx a0.AF.AB a1).bind fun y4 =>
    ((tK y4.Op).bind fun y5 =>
    bif !y5 then
     if 0 < (y4.AI.length : Int) then
      (some ((⟨(⟨a0.AF.AD, a0.AF.AI, a0.AF.AB, a0.AF.AC, a0.AF.AE⟩ : AF), a0.AQ.set a1.toNat a2, a0.AR, a0.AO.set a1.toNat true, (⟨a0.AK.AD, a0.AK.AB, a0.AK.AC, a0.AK.AE⟩ : AM)⟩ : Ag), false)).bind fun r => some (Sum.inr r)
     else
      (oY AA y4.AI (a2.length : Int)).bind fun y6 =>
      bif y6 then
       some (Sum.inl ())
      else
       (some ((⟨(⟨a0.AF.AD, a0.AF.AI, a0.AF.AB, a0.AF.AC, a0.AF.AE⟩ : AF), a0.AQ.set a1.toNat a2, a0.AR, a0.AO.set a1.toNat true, (⟨a0.AK.AD, a0.AK.AB, a0.AK.AC, a0.AK.AE⟩ : AM)⟩ : Ag), false)).bind fun r => some (Sum.inr r)
    else
     (oY AA y4.AI (a2.length : Int)).bind fun y7 =>
     bif y7 then
      some (Sum.inl ())
     else
      (some ((⟨(⟨a0.AF.AD, a0.AF.AI, a0.AF.AB, a0.AF.AC, a0.AF.AE⟩ : AF), a0.AQ.set a1.toNat a2, a0.AR, a0.AO.set a1.toNat true, (⟨a0.AK.AD, a0.AK.AB, a0.AK.AC, a0.AK.AE⟩ : AM)⟩ : Ag), false)).bind fun r => some (Sum.inr r)).bind fun o => match o with
    | Sum.inr r => some r
    | Sum.inl _ =>
    (rK AA a2 y4.AI).bind fun y8 =>
    (idx a0.AR a1).bind fun y9 =>
    (iH y4.AU).bind fun y10 =>
    ((if y4.Op = 6 then
     some (decide (y4.Op = 6))
    else
     some (decide (y4.Op = 8))).bind fun x2 =>
    bif x2 then
     (idx (a0.AR.set a1.toNat y8) a1).bind fun y11 =>
     some y11
    else
     some a2).bind fun x1 =>
    ((if y4.Op = 2 then
     some (decide (y4.Op = 2))
    else
     if y4.Op = 6 then
      some (decide (y4.Op = 6))
     else
      some (decide (y4.Op = 8))).bind fun x4 =>
    bif x4 then
     if y4.N < 0 then
      (some ((⟨(⟨a0.AF.AD, a0.AF.AI, a0.AF.AB, a0.AF.AC, a0.AF.AE⟩ : AF), a0.AQ.set a1.toNat a2, a0.AR.set a1.toNat y8, a0.AO.set a1.toNat true, (⟨a0.AK.AD, a0.AK.AB, a0.AK.AC, a0.AK.AE⟩ : AM)⟩ : Ag), false)).bind fun r => some (Sum.inr r)
     else
      if (x1.length : Int) <= y4.N then
       (some ((⟨(⟨a0.AF.AD, a0.AF.AI, a0.AF.AB, a0.AF.AC, a0.AF.AE⟩ : AF), a0.AQ.set a1.toNat a2, a0.AR.set a1.toNat y8, a0.AO.set a1.toNat true, (⟨a0.AK.AD, a0.AK.AB, a0.AK.AC, a0.AK.AE⟩ : AM)⟩ : Ag), false)).bind fun r => some (Sum.inr r)
      else
       (idx x1 y4.N).bind fun y12 =>
       some (Sum.inl y12)
    else
     some (Sum.inl y4.N)).bind fun o => match o with
    | Sum.inr r => some r
    | Sum.inl x3 =>
    (mL AA a0 a1 a2 y4 y8 AA 0 []).bind fun o => match o with
    | Sum.inr r => some r
    | Sum.inl x5 =>
    (idx a0.AK.AB a1).bind fun y15 =>
    if y4.Op = 4 then
     ((pN AA) (⟨(⟨a0.AF.AD, a0.AF.AI, a0.AF.AB, a0.AF.AC, a0.AF.AE⟩ : AF), a0.AQ.set a1.toNat a2, a0.AR.set a1.toNat y8, a0.AO.set a1.toNat true, (⟨a0.AK.AD, a0.AK.AB.set a1.toNat (⟨y4.Op, x3, x5, y10⟩ : Ae), a0.AK.AC, a0.AK.AE⟩ : AM)⟩ : Ag) a1 a2 a3).bind fun y16 =>
     some ((⟨(⟨y16.1.AF.AD, y16.1.AF.AI, y16.1.AF.AB, y16.1.AF.AC, y16.1.AF.AE⟩ : AF), y16.1.AQ, y16.1.AR, y16.1.AO, (⟨y16.1.AK.AD, y16.1.AK.AB, y16.1.AK.AC, y16.1.AK.AE⟩ : AM)⟩ : Ag), y16.2)
    else
     ((mI AA) (⟨(⟨a0.AF.AD, a0.AF.AI, a0.AF.AB, a0.AF.AC, a0.AF.AE⟩ : AF), a0.AQ.set a1.toNat a2, a0.AR.set a1.toNat y8, a0.AO.set a1.toNat true, (⟨a0.AK.AD, a0.AK.AB.set a1.toNat (⟨y4.Op, x3, x5, y10⟩ : Ae), a0.AK.AC, a0.AK.AE⟩ : AM)⟩ : Ag) y4.AU x1 a3).bind fun y17 =>
     some ((⟨(⟨y17.1.AF.AD, y17.1.AF.AI, y17.1.AF.AB, y17.1.AF.AC, y17.1.AF.AE⟩ : AF), y17.1.AQ, y17.1.AR, y17.1.AO, (⟨y17.1.AK.AD, y17.1.AK.AB, y17.1.AK.AC, y17.1.AK.AE⟩ : AM)⟩ : Ag), y17.2)
def pN : Nat -> Ag -> Int -> (List Int) -> Int -> Option (Ag × Bool)
| 0, _, _, _, _ => none
| AA + 1, a0, a1, a2, a3 =>
 (idx a0.AF.AB a1).bind fun y1 =>
 if y1.N < 0 then
  some ((⟨(⟨a0.AF.AD, a0.AF.AI, a0.AF.AB, a0.AF.AC, a0.AF.AE⟩ : AF), a0.AQ, a0.AR, a0.AO, (⟨a0.AK.AD, a0.AK.AB, a0.AK.AC, a0.AK.AE⟩ : AM)⟩ : Ag), false)
 else
  if (a0.AF.AC.length : Int) <= y1.N then
   some ((⟨(⟨a0.AF.AD, a0.AF.AI, a0.AF.AB, a0.AF.AC, a0.AF.AE⟩ : AF), a0.AQ, a0.AR, a0.AO, (⟨a0.AK.AD, a0.AK.AB, a0.AK.AC, a0.AK.AE⟩ : AM)⟩ : Ag), false)
  else
   (idx a0.AF.AC y1.N).bind fun y2 =>
   (chk ((y2.AP.length : Int) + (y2.AT.length : Int))).bind fun z1 =>
   (sQ AA a3 z1).bind fun y3 =>
   (chk (a3 + (y3.length : Int))).bind fun z2 =>
   (idx a0.AR a1).bind fun y4 =>
   (rJ y4 y3).bind fun y5 =>
   (lO AA (eC AA) y2 z2 y5 AA 0 a0.AF.AD a0.AF.AI a0.AF.AB a0.AF.AC a0.AF.AE a0.AQ a0.AR a0.AO a0.AK.AD a0.AK.AB a0.AK.AC a0.AK.AE).bind fun o => match o with
   | Sum.inr r => some r
   | Sum.inl (x1, x2, x3, x4, x5, x6, x7, x8, x9, x10, x11, x12) =>
   (lQ (eC AA) y2 z2 y5 AA 0 x1 x2 x3 x4 x5 x6 x7 x8 x9 x10 x11 x12).bind fun o => match o with
   | Sum.inr r => some r
   | Sum.inl (x39, x40, x41, x42, x43, x44, x45, x46, x47, x48, x49, x50) =>
   (rJ a2 y3).bind fun y13 =>
   ((mI AA) (⟨(⟨x39, x40, x41, x42, x43⟩ : AF), x44, x45, x46, (⟨x47, x48, x49, x50⟩ : AM)⟩ : Ag) y1.AU y13 z2).bind fun y14 =>
   some ((⟨(⟨y14.1.AF.AD, y14.1.AF.AI, y14.1.AF.AB, y14.1.AF.AC, y14.1.AF.AE⟩ : AF), y14.1.AQ, y14.1.AR, y14.1.AO, (⟨y14.1.AK.AD, y14.1.AK.AB, y14.1.AK.AC, y14.1.AK.AE⟩ : AM)⟩ : Ag), y14.2)
def mI : Nat -> Ag -> (List Int) -> (List Int) -> Int -> Option (Ag × Bool)
| 0, _, _, _, _ => none
| AA + 1, a0, a1, a2, a3 =>
 (mD (eC AA) a1 a2 a3 AA 0 a0.AF.AD a0.AF.AI a0.AF.AB a0.AF.AC a0.AF.AE a0.AQ a0.AR a0.AO a0.AK.AD a0.AK.AB a0.AK.AC a0.AK.AE).bind fun o => match o with
 | Sum.inr r => some r
 | Sum.inl (x1, x2, x3, x4, x5, x6, x7, x8, x9, x10, x11, x12) =>
 some ((⟨(⟨x1, x2, x3, x4, x5⟩ : AF), x6, x7, x8, (⟨x9, x10, x11, x12⟩ : AM)⟩ : Ag), true)
end
theorem aFn : ∀ (AA : Nat), (∀ (p0 : Nat) (a0 : Ag) (a1 : Int) (a2 : List Int) (a3 : Int) (r : Ag × Bool) (H : eC AA a0 a1 a2 a3 = some r), FnS Tryz.prog 114 [fEq (.pointer (some ⟨p0, 0, none⟩)), fI a1, fSl tI a2, fI a3] [mJ p0 a0] (aF r.2) (fun _ => [mJ p0 r.1])) /\ (∀ (p0 : Nat) (a0 : Ag) (a1 : Int) (a2 : List Int) (a3 : Int) (r : Ag × Bool) (H : pN AA a0 a1 a2 a3 = some r), FnS Tryz.prog 184 [fEq (.pointer (some ⟨p0, 0, none⟩)), fI a1, fSl tI a2, fI a3] [mJ p0 a0] (aF r.2) (fun _ => [mJ p0 r.1])) /\ (∀ (p0 : Nat) (a0 : Ag) (a1 : List Int) (a2 : List Int) (a3 : Int) (r : Ag × Bool) (H : mI AA a0 a1 a2 a3 = some r), FnS Tryz.prog 185 [fEq (.pointer (some ⟨p0, 0, none⟩)), fSl tI a1, fSl tI a2, fI a3] [mJ p0 a0] (aF r.2) (fun _ => [mJ p0 r.1])) := by
 intro AA
 induction AA with
 | zero => exact ⟨fun p0 a0 a1 a2 a3 r H => (by rw [eC] at H; cases H), fun p0 a0 a1 a2 a3 r H => (by rw [pN] at H; cases H), fun p0 a0 a1 a2 a3 r H => (by rw [mI] at H; cases H)⟩
 | succ AA ih =>
 obtain ⟨ih_flat_view_node, ih_flat_view_def, ih_flat_view_kids⟩ := ih
 refine ⟨?_, ?_, ?_⟩
 intro p0 a0 a1 a2 a3 r H
 rw [eC] at H
 refine bS Tryz.func114 rfl Tryz.ntmps114 rfl (fun β => ?_)
 refine mH (fun v1 v2 v3 v4 => ?_)
 refine aE 1 rfl (fun hc_v1 => ?_)
 refine aE 2 rfl (fun hc_v2 => ?_)
 refine aE 3 rfl (fun hc_v3 => ?_)
 refine aE 4 rfl (fun hc_v4 => ?_)
 refine Z3 ?_
 refine aJ ?_
 revert H; refine I4 (fun c1 H => ?_) fun c1 H => ?_
 refine Z12 ?_
 refine Z12 ?_
 refine eL (x := (⟨(⟨a0.AF.AD, a0.AF.AI, a0.AF.AB, a0.AF.AC, a0.AF.AE⟩ : AF), a0.AQ, a0.AR, a0.AO, (⟨a0.AK.AD, a0.AK.AB, a0.AK.AC, a0.AK.AE⟩ : AM)⟩ : Ag)) ?_
 cases H
 exact To
 revert H; refine I10 (fun c2 H => ?_) fun c2 H => ?_
 refine Z12 ?_
 refine Z2 ?_
 refine eL (x := (⟨(⟨a0.AF.AD, a0.AF.AI, a0.AF.AB, a0.AF.AC, a0.AF.AE⟩ : AF), a0.AQ, a0.AR, a0.AO, (⟨a0.AK.AD, a0.AK.AB, a0.AK.AC, a0.AK.AE⟩ : AM)⟩ : Ag)) ?_
 cases H
 exact To
 revert H; refine B5 fun y1 h1 H => ?_
 refine Z1 ?_
 refine Yh 3 rfl c2 (iV rfl rfl hh (sc rfl) (eD h1) rfl) ?_
 refine Z2 ?_
 revert H; refine cs (fun c3 H => ?_) fun c3 H => ?_
 refine Z5 ?_
 refine eL (x := (⟨(⟨a0.AF.AD, a0.AF.AI, a0.AF.AB, a0.AF.AC, a0.AF.AE⟩ : AF), a0.AQ, a0.AR, a0.AO, (⟨a0.AK.AD, a0.AK.AB, a0.AK.AC, a0.AK.AE⟩ : AM)⟩ : Ag)) ?_
 cases H
 exact To
 refine Z3 ?_
 refine aJ ?_
 revert H; refine bs fun y2 h2 H => ?_
 revert H; refine bs fun y3 h3 H => ?_
 apply bL (ods := [_, _, _, _, _, _, _, _, _, _, _, _, _, _, _]) 15 0 5 bM rfl rfl rfl
 refine ND ?_
 refine M8 ?_
 intros
 refine M4 ?_
 intros
 refine nX (od := odC [3] true (dN) [aB v3 4 aN (a0.AO.set a1.toNat true)]) (p := 3) (z' := true) rfl (fun _ => rfl) (fun _ => rfl) a1W rfl rfl rfl rfl (has rfl) (has rfl) (aG a1W) (sz rfl) (eD h2) rfl rfl (fun _ => ?_)
 refine M1 ?_
 intros
 refine nX (od := odC [1] true (dN) [aB v1 23 (tSl tI) (a0.AQ.set a1.toNat a2)]) (p := 1) (z' := a2) rfl (fun _ => rfl) (fun _ => rfl) a1W rfl rfl rfl rfl (has rfl) (has rfl) (aY) (sz rfl) (eD h3) rfl rfl (fun _ => ?_)
 revert H; refine B9 fun y4 h4 H => ?_
 refine Z2 ?_
 refine Tn (dG rfl aAW rfl) fun b1 => ?_
 refine dV (φs' := [fI y4.Op, fI y4.N, fSl aO y4.Aa, fSl tI y4.AU, fSl tI y4.AI]) a1W rfl rfl (has rfl) (has rfl) (aL (aG a1W) (aL (aG a1W) (aL (aY) (aL (aY) (aL (aY) cE))))) (sz rfl) rfl rfl rfl ?_
 revert H; refine B1 fun o1 H Hr1 => ?_
 refine aP (ι := Unit) (fun i => o1 = Sum.inl ()) (fun i => [(0, fEq (ptr p0)), (1, fI a1), (2, fSl tI a2), (3, fI a3), (9, fEq (ptr b1))]) (fun i => [aD b1 55 [fI y4.Op, fI y4.N, fSl aO y4.Aa, fSl tI y4.AU, fSl tI y4.AI], aD p0 96 [fSl aC a0.AF.AD, fSl tI a0.AF.AI, fSl aT a0.AF.AB, fSl aA a0.AF.AC, fI a0.AF.AE, fEq v1, fEq v2, fEq v3, fSl aC a0.AK.AD, fEq v4, fSl aA a0.AK.AC, fI a0.AK.AE], aB v1 23 (tSl tI) (a0.AQ.set a1.toNat a2), aB v2 23 (tSl tI) a0.AR, aB v3 4 aN (a0.AO.set a1.toNat true), aB v4 118 aK a0.AK.AB]) ?_ ?_
 revert H; refine B3 fun y5 h5 H => ?_
 refine Tc (aHD _ _ h5) ?_
 refine Z2 ?_
 revert H; refine cs (fun c4 H => ?_) fun c4 H => ?_
 revert H; refine I6 (fun c5 H => ?_) fun c5 H => ?_
 refine Z12 ?_
 revert H; refine B1 fun r1 H e1 => ?_
 cases e1; cases Hr1
 refine cR ?_
 refine cR ?_
 refine cR ?_
 refine cR ?_
 refine cR ?_
 refine eL (x := (⟨(⟨a0.AF.AD, a0.AF.AI, a0.AF.AB, a0.AF.AC, a0.AF.AE⟩ : AF), a0.AQ.set a1.toNat a2, a0.AR, a0.AO.set a1.toNat true, (⟨a0.AK.AD, a0.AK.AB, a0.AK.AC, a0.AK.AE⟩ : AM)⟩ : Ag)) ?_
 cases H
 refine aH [0] (by decide) ?_
 exact To
 revert H; refine B4 fun y6 h6 H => ?_
 refine Tc (aAE _ _ _ _ h6) ?_
 refine Z3 ?_
 revert H; refine cs (fun c6 H => ?_) fun c6 H => ?_
 refine Z3 ?_
 exact Tm (()) (ij H)
 revert H; refine B5 fun r2 H e2 => ?_
 cases e2; cases Hr1
 refine cR ?_
 refine cR ?_
 refine cR ?_
 refine cR ?_
 refine cR ?_
 refine eL (x := (⟨(⟨a0.AF.AD, a0.AF.AI, a0.AF.AB, a0.AF.AC, a0.AF.AE⟩ : AF), a0.AQ.set a1.toNat a2, a0.AR, a0.AO.set a1.toNat true, (⟨a0.AK.AD, a0.AK.AB, a0.AK.AC, a0.AK.AE⟩ : AM)⟩ : Ag)) ?_
 cases H
 refine aH [0] (by decide) ?_
 exact To
 revert H; refine B10 fun y7 h7 H => ?_
 refine Tc (aAE _ _ _ _ h7) ?_
 refine Z3 ?_
 revert H; refine cs (fun c7 H => ?_) fun c7 H => ?_
 refine Z3 ?_
 exact Tm (()) (ij H)
 revert H; refine B5 fun r3 H e3 => ?_
 cases e3; cases Hr1
 refine cR ?_
 refine cR ?_
 refine cR ?_
 refine cR ?_
 refine cR ?_
 refine eL (x := (⟨(⟨a0.AF.AD, a0.AF.AI, a0.AF.AB, a0.AF.AC, a0.AF.AE⟩ : AF), a0.AQ.set a1.toNat a2, a0.AR, a0.AO.set a1.toNat true, (⟨a0.AK.AD, a0.AK.AB, a0.AK.AC, a0.AK.AE⟩ : AM)⟩ : Ag)) ?_
 cases H
 refine aH [0] (by decide) ?_
 exact To
 clear H; intro i hi; subst o1; have H := Hr1; clear Hr1; try dsimp only at H
 try dsimp only
 refine aJ ?_
 revert H; refine bs fun y8 h8 H => ?_
 revert H; refine bs fun y9 h9 H => ?_
 apply bL (ods := [_, _, _, _, _, _, _, _, _, _, _]) 11 0 6 bM rfl rfl rfl
 refine ND ?_
 refine M8 ?_
 intros
 refine Nc (aG2 _ _ _ _ h8) fun _ => ?_
 refine M1 ?_
 intros
 refine nX (od := odC [3] true (dN) [aB v2 23 (tSl tI) (a0.AR.set a1.toNat y8)]) (p := 3) (z' := y8) rfl (fun _ => rfl) (fun _ => rfl) a1W rfl rfl rfl rfl (has rfl) (has rfl) (aY) (sz rfl) (eD h9) rfl rfl (fun _ => ?_)
 refine Z2 ?_
 refine aJ ?_
 revert H; refine bs fun y10 h10 H => ?_
 apply bL (ods := [_, _, _, _, _, _, _, _, _, _]) 10 1 7 bM rfl rfl rfl
 refine ND ?_
 refine M6 ?_
 intros
 refine sF (od := odC [] true (fSl tI y10) []) (Φ := fSl tI y10) rfl (fun _ => rfl) a1W rfl rfl (has rfl) (aM.cons (has rfl) aM.nil) rfl (cb rfl) (yK y4.AU y10 h10) (fun _ => ?_)
 refine My (gL (ψs := [fI y4.Op, fI y4.N, fEq (.slice none 0 0), fSl tI y10]) rfl aC6 rfl (bP.cons (has rfl) (cY (aG a1W)) (bP.cons (has rfl) (cY (aG a1W)) (bP.cons (has rfl) (cY (aY)) bP.nil))) rfl) fun _ => ?_
 refine Mn 6 (fun b2 => ptr b2) (fun b2 => aD b2 118 [fI 0, fI 0, fEq (.slice none 0 0), fEq (.slice none 0 0)]) rfl (dG rfl sE rfl) (fun b2 u1 => ?_)
 refine oX (od := od1 8 [6] true (fun b2 _ => dN) (fun b2 _ => [aD b2 118 [fI y4.Op, fI y4.N, fEq (.slice none 0 0), fSl tI y10]])) (p := 6) (φs' := [fI y4.Op, fI y4.N, fEq (.slice none 0 0), fSl tI y10]) rfl (fun _ => rfl) (fun _ => rfl) a1W rfl rfl rfl (has rfl) (has rfl) (aL (aG a1W) (aL (aG a1W) (aL (aG a1W) (aL (aY) cE)))) (sz rfl) rfl rfl rfl (fun _ => ?_)
 revert H; refine B6 fun o2 H Hr2 => ?_
 refine aP (ι := List Int) (fun i => o2 = i) (fun i => [(0, fEq (ptr p0)), (1, fI a1), (2, fSl tI a2), (3, fI a3), (9, fEq (ptr b1)), (10, fEq (ptr b2)), (11, fSl tI i)]) (fun i => [aD b1 55 [fI y4.Op, fI y4.N, fSl aO y4.Aa, fSl tI y4.AU, fSl tI y4.AI], aD p0 96 [fSl aC a0.AF.AD, fSl tI a0.AF.AI, fSl aT a0.AF.AB, fSl aA a0.AF.AC, fI a0.AF.AE, fEq v1, fEq v2, fEq v3, fSl aC a0.AK.AD, fEq v4, fSl aA a0.AK.AC, fI a0.AK.AE], aD b2 118 [fI y4.Op, fI y4.N, fEq (.slice none 0 0), fSl tI y10], aB v1 23 (tSl tI) (a0.AQ.set a1.toNat a2), aB v2 23 (tSl tI) (a0.AR.set a1.toNat y8), aB v3 4 aN (a0.AO.set a1.toNat true), aB v4 118 aK a0.AK.AB]) ?_ ?_
 revert H; refine B5 fun o3 H Hr3 => ?_
 refine aP (ι := Bool) (fun i => o3 = i) (fun i => [(0, fEq (ptr p0)), (1, fI a1), (2, fSl tI a2), (3, fI a3), (9, fEq (ptr b1)), (10, fEq (ptr b2)), (11, fSl tI a2), (97, aF i)]) (fun i => [aD b1 55 [fI y4.Op, fI y4.N, fSl aO y4.Aa, fSl tI y4.AU, fSl tI y4.AI], aD p0 96 [fSl aC a0.AF.AD, fSl tI a0.AF.AI, fSl aT a0.AF.AB, fSl aA a0.AF.AC, fI a0.AF.AE, fEq v1, fEq v2, fEq v3, fSl aC a0.AK.AD, fEq v4, fSl aA a0.AK.AC, fI a0.AK.AE], aD b2 118 [fI y4.Op, fI y4.N, fEq (.slice none 0 0), fSl tI y10], aB v1 23 (tSl tI) (a0.AQ.set a1.toNat a2), aB v2 23 (tSl tI) (a0.AR.set a1.toNat y8), aB v3 4 aN (a0.AO.set a1.toNat true), aB v4 118 aK a0.AK.AB]) ?_ ?_
 revert H; refine I4 (fun c8 H => ?_) fun c8 H => ?_
 refine Z3 ?_
 refine aH [0, 1, 6, 2, 3, 4, 5] (by decide) ?_
 exact Tm (decide (y4.Op = 6)) (ij H)
 refine Z5 ?_
 refine aH [0, 1, 6, 2, 3, 4, 5] (by decide) ?_
 exact Tm (decide (y4.Op = 8)) (ij H)
 clear H; intro x2 hi; subst o3; have H := Hr3; clear Hr3; try dsimp only at H
 try dsimp only
 revert H; refine cs (fun c9 H => ?_) fun c9 H => ?_
 revert H; refine B7 fun y11 h11 H => ?_
 refine Z1 ?_
 refine Yo 4 rfl (iV rfl rfl hh (sc rfl) (eD h11) rfl) ?_
 refine Z4 ?_
 exact Tm (y11) (ij H)
 refine Z4 ?_
 exact Tm (a2) (ij H)
 clear H; intro x1 hi; subst o2; have H := Hr2; clear Hr2; try dsimp only at H
 try dsimp only
 revert H; refine bs fun o4 H Hr4 => ?_
 refine aP (ι := Int) (fun i => o4 = Sum.inl i) (fun i => [(0, fEq (ptr p0)), (1, fI a1), (2, fSl tI a2), (3, fI a3), (9, fEq (ptr b1)), (10, fEq (ptr b2)), (11, fSl tI x1)]) (fun i => [aD b2 118 [fI y4.Op, fI i, fEq (.slice none 0 0), fSl tI y10], aD b1 55 [fI y4.Op, fI y4.N, fSl aO y4.Aa, fSl tI y4.AU, fSl tI y4.AI], aD p0 96 [fSl aC a0.AF.AD, fSl tI a0.AF.AI, fSl aT a0.AF.AB, fSl aA a0.AF.AC, fI a0.AF.AE, fEq v1, fEq v2, fEq v3, fSl aC a0.AK.AD, fEq v4, fSl aA a0.AK.AC, fI a0.AK.AE], aB v1 23 (tSl tI) (a0.AQ.set a1.toNat a2), aB v2 23 (tSl tI) (a0.AR.set a1.toNat y8), aB v3 4 aN (a0.AO.set a1.toNat true), aB v4 118 aK a0.AK.AB]) ?_ ?_
 revert H; refine B5 fun o5 H Hr5 => ?_
 refine aP (ι := Bool) (fun i => o5 = i) (fun i => [(0, fEq (ptr p0)), (1, fI a1), (2, fSl tI a2), (3, fI a3), (9, fEq (ptr b1)), (10, fEq (ptr b2)), (11, fSl tI x1), (109, aF i)]) (fun i => [aD b1 55 [fI y4.Op, fI y4.N, fSl aO y4.Aa, fSl tI y4.AU, fSl tI y4.AI], aD p0 96 [fSl aC a0.AF.AD, fSl tI a0.AF.AI, fSl aT a0.AF.AB, fSl aA a0.AF.AC, fI a0.AF.AE, fEq v1, fEq v2, fEq v3, fSl aC a0.AK.AD, fEq v4, fSl aA a0.AK.AC, fI a0.AK.AE], aD b2 118 [fI y4.Op, fI y4.N, fEq (.slice none 0 0), fSl tI y10], aB v1 23 (tSl tI) (a0.AQ.set a1.toNat a2), aB v2 23 (tSl tI) (a0.AR.set a1.toNat y8), aB v3 4 aN (a0.AO.set a1.toNat true), aB v4 118 aK a0.AK.AB]) ?_ ?_
 revert H; refine I4 (fun c10 H => ?_) fun c10 H => ?_
 refine Z3 ?_
 exact Tm (decide (y4.Op = 2)) (ij H)
 revert H; refine I5 (fun c11 H => ?_) fun c11 H => ?_
 refine Z3 ?_
 exact Tm (decide (y4.Op = 6)) (ij H)
 refine Z5 ?_
 exact Tm (decide (y4.Op = 8)) (ij H)
 clear H; intro x4 hi; subst o5; have H := Hr5; clear Hr5; try dsimp only at H
 try dsimp only
 revert H; refine cs (fun c12 H => ?_) fun c12 H => ?_
 refine Z1 ?_
 refine aJ ?_
 revert H; refine I5 (fun c13 H => ?_) fun c13 H => ?_
 refine Z12 ?_
 revert H; refine B2 fun r4 H e4 => ?_
 cases e4; cases Hr4
 refine aQ ?_
 refine aQ ?_
 refine aQ ?_
 refine aQ ?_
 refine cR ?_
 refine eL (x := (⟨(⟨a0.AF.AD, a0.AF.AI, a0.AF.AB, a0.AF.AC, a0.AF.AE⟩ : AF), a0.AQ.set a1.toNat a2, a0.AR.set a1.toNat y8, a0.AO.set a1.toNat true, (⟨a0.AK.AD, a0.AK.AB, a0.AK.AC, a0.AK.AE⟩ : AM)⟩ : Ag)) ?_
 cases H
 refine aH [0] (by decide) ?_
 exact To
 revert H; refine I7 (fun c14 H => ?_) fun c14 H => ?_
 revert H; refine B7 fun r5 H e5 => ?_
 cases e5; cases Hr4
 refine aQ ?_
 refine aQ ?_
 refine aQ ?_
 refine aQ ?_
 refine cR ?_
 refine eL (x := (⟨(⟨a0.AF.AD, a0.AF.AI, a0.AF.AB, a0.AF.AC, a0.AF.AE⟩ : AF), a0.AQ.set a1.toNat a2, a0.AR.set a1.toNat y8, a0.AO.set a1.toNat true, (⟨a0.AK.AD, a0.AK.AB, a0.AK.AC, a0.AK.AE⟩ : AM)⟩ : Ag)) ?_
 cases H
 refine aH [0] (by decide) ?_
 exact To
 revert H; refine B7 fun y12 h12 H => ?_
 refine Z3 ?_
 refine eH ?_
 refine bK (φs' := [fI y4.Op, fI y12, fEq (.slice none 0 0), fSl tI y10]) a1W rfl rfl (has rfl) (has rfl) (aG a1W) (sz rfl) rfl rfl ?_
 refine Z3 ?_
 exact Tm (y12) (ij H)
 refine Z4 ?_
 refine aH [2, 0, 1, 3, 4, 5, 6] (by decide) ?_
 exact Tm (y4.N) (ij H)
 clear H; intro x3 hi; subst o4; have H := Hr4; clear Hr4; try dsimp only at H
 try dsimp only
 revert H; refine bs fun o6 H Hr6 => ?_
 refine aP (ι := List AW × Value) (fun i => o6 = Sum.inl i.1) (fun i => [(0, fEq (ptr p0)), (1, fI a1), (2, fSl tI a2), (3, fI a3), (9, fEq (ptr b1)), (10, fEq (ptr b2)), (11, fSl tI x1)]) (fun i => [aD b2 118 [fI y4.Op, fI x3, fEq i.2, fSl tI y10], aD b1 55 [fI y4.Op, fI y4.N, fSl aO y4.Aa, fSl tI y4.AU, fSl tI y4.AI], aD p0 96 [fSl aC a0.AF.AD, fSl tI a0.AF.AI, fSl aT a0.AF.AB, fSl aA a0.AF.AC, fI a0.AF.AE, fEq v1, fEq v2, fEq v3, fSl aC a0.AK.AD, fEq v4, fSl aA a0.AK.AC, fI a0.AK.AE], aB i.2 124 aO i.1, aB v1 23 (tSl tI) (a0.AQ.set a1.toNat a2), aB v2 23 (tSl tI) (a0.AR.set a1.toNat y8), aB v3 4 aN (a0.AO.set a1.toNat true), aB v4 118 aK a0.AK.AB]) ?_ ?_
 refine Z7 ?_
 refine gR aO 124 ?_
 refine aH [1, 2, 3, 0, 4, 5, 6, 7] (by decide) ?_
 refine Tl (ι := Nat × Int × List AW × Value) (fun i => mL AA a0 a1 a2 y4 y8 i.1 i.2.1 i.2.2.1 = _) (fun i => i.1) (fun i => [(0, fEq (ptr p0)), (1, fI a1), (2, fSl tI a2), (3, fI a3), (9, fEq (ptr b1)), (10, fEq (ptr b2)), (11, fSl tI x1), (130, fSl aO y4.Aa), (131, fI (y4.Aa.length : Int)), (132, fI i.2.1)]) (fun i => [aD b2 118 [fI y4.Op, fI x3, fEq i.2.2.2, fSl tI y10], aD b1 55 [fI y4.Op, fI y4.N, fSl aO y4.Aa, fSl tI y4.AU, fSl tI y4.AI], aD p0 96 [fSl aC a0.AF.AD, fSl tI a0.AF.AI, fSl aT a0.AF.AB, fSl aA a0.AF.AC, fI a0.AF.AE, fEq v1, fEq v2, fEq v3, fSl aC a0.AK.AD, fEq v4, fSl aA a0.AK.AC, fI a0.AK.AE], aB i.2.2.2 124 aO i.2.2.1, aB v1 23 (tSl tI) (a0.AQ.set a1.toNat a2), aB v2 23 (tSl tI) (a0.AR.set a1.toNat y8), aB v3 4 aN (a0.AO.set a1.toNat true), aB v4 118 aK a0.AK.AB]) (AA, 0, [], (.slice none 0 0)) H ?_
 clear H; rintro ⟨k1, x8, x9, v7⟩ H
 replace H : mL AA a0 a1 a2 y4 y8 k1 x8 x9 = _ := H
 try dsimp only
 obtain _ | k1 := k1
 rw [mL] at H; cases H
 rw [mL] at H
 refine aE 3 rfl (fun hc_v7 => ?_)
 refine Z3 ?_
 refine aJ ?_
 revert H; refine is (fun c15 H => ?_) fun c15 H => ?_
 refine Z3 ?_
 refine aJ ?_
 revert H; refine B2 fun y13 h13 H => ?_
 refine Z2 ?_
 refine Tn (dG rfl oC rfl) fun b3 => ?_
 refine dV (φs' := [fI y13.Op, fI y13.N, eF y13.AU]) a1W rfl rfl (has rfl) (has rfl) (aL (aG a1W) (aL (aG a1W) (aL (rD) cE))) (sz rfl) rfl rfl rfl ?_
 revert H; refine B4 fun y14 h14 H => ?_
 refine Tc (aHG _ _ _ _ h14) ?_
 refine Z3 ?_
 refine Tn (dG rfl oC rfl) fun b4 => ?_
 refine dV (φs' := [fI y14.1.Op, fI y14.1.N, eF y14.1.AU]) a1W rfl rfl (has rfl) (has rfl) (aL (aG a1W) (aL (aG a1W) (aL (rD) cE))) (sz rfl) rfl rfl rfl ?_
 refine Z2 ?_
 refine aJ ?_
 refine Z4 ?_
 revert H; refine cs (fun c16 H => ?_) fun c16 H => ?_
 refine Z7 ?_
 refine Tn (fV (t := aO) (xs := [(⟨y14.1.Op, y14.1.N, y14.1.AU⟩ : AW)]) rfl (et rfl) (cP.cons rfl hh cJ cP.nil) rfl rfl rfl) fun b5 => ?_
 generalize (Value.slice (some ⟨b5, 0, none⟩) _ _) = v8
 refine aE 0 rfl (fun hc_v8 => ?_)
 revert H; refine bs fun z1 h15 H => ?_
 refine aQ ?_
 refine bI ?_
 refine jT a1W rfl rfl rfl (has rfl) (has rfl) (et rfl) rfl h15 (fun v9 => ?_)
 refine aE 0 rfl (fun hc_v9 => ?_)
 refine Z1 ?_
 refine dM ?_
 refine bK (φs' := [fI y4.Op, fI x3, fEq v9, fSl tI y10]) a1W rfl rfl (has rfl) (has rfl) (aG hc_v9) (sz rfl) rfl rfl ?_
 revert H; refine B4 fun z2 h16 H => ?_
 refine Z3 ?_
 refine aH [0, 4, 5, 1, 6, 7, 8, 9] (by decide) ?_
 exact Tm ((k1, z2, z1, v9)) ⟨H, ls⟩
 revert H; refine B10 fun r6 H e6 => ?_
 cases e6; cases Hr6
 refine T_fr9 ?_
 refine T_fr9 ?_
 refine T_fr9 ?_
 refine T_fr9 ?_
 refine T_fr8 ?_
 refine eL (x := (⟨(⟨a0.AF.AD, a0.AF.AI, a0.AF.AB, a0.AF.AC, a0.AF.AE⟩ : AF), a0.AQ.set a1.toNat a2, a0.AR.set a1.toNat y8, a0.AO.set a1.toNat true, (⟨a0.AK.AD, a0.AK.AB, a0.AK.AC, a0.AK.AE⟩ : AM)⟩ : Ag)) ?_
 cases H
 refine aH [0] (by decide) ?_
 exact To
 refine Z6 ?_
 exact Tm ((x9, v7)) (ij H)
 clear H; intro i hi; obtain ⟨x5, v5⟩ := i; subst o6; have H := Hr6; clear Hr6; try dsimp only at H
 try dsimp only
 refine aE 3 rfl (fun hc_v5 => ?_)
 refine aJ ?_
 revert H; refine bs fun y15 h17 H => ?_
 apply bL (ods := [_, _, _, _, _, _, _, _]) 8 0 8 bM rfl rfl rfl
 refine ND ?_
 refine M8 ?_
 intros
 refine Z1 ?_
 refine dM ?_
 refine bY (φ := fSl aO x5) (v := v5) [] cU (fun _ h => nomatch h) ?_
 refine dJ (φs' := [fI y4.Op, fI x3, fSl aO x5, fSl tI y10]) (i := 2) rfl rfl ?_
 refine lP 157 (ψ := eG [fI y4.Op, fI x3, fEq v5, fSl tI y10]) rfl (mN (i := 2) (φs := [fI y4.Op, fI x3, fEq v5, fSl tI y10]) (φs' := [fI y4.Op, fI x3, fSl aO x5, fSl tI y10]) rfl rfl) ?_
 refine bX ?_
 refine aQ ?_
 refine aEP (z := (⟨y4.Op, x3, x5, y10⟩ : Ae)) a1W rfl rfl rfl (has rfl) (has rfl) (sz rfl) (a0J.1 (eD h17)).1 ?_
 refine Z1 ?_
 refine aJ ?_
 revert H; refine I5 (fun c17 H => ?_) fun c17 H => ?_
 refine Z6 ?_
 refine aQ ?_
 refine aQ ?_
 refine aQ ?_
 refine aQ ?_
 refine eL (x := (⟨(⟨a0.AF.AD, a0.AF.AI, a0.AF.AB, a0.AF.AC, a0.AF.AE⟩ : AF), a0.AQ.set a1.toNat a2, a0.AR.set a1.toNat y8, a0.AO.set a1.toNat true, (⟨a0.AK.AD, a0.AK.AB.set a1.toNat (⟨y4.Op, x3, x5, y10⟩ : Ae), a0.AK.AC, a0.AK.AE⟩ : AM)⟩ : Ag)) ?_
 revert H; refine bs fun y16 h18 H => ?_
 refine Tc (ih_flat_view_def _ _ _ _ _ _ h18) ?_
 refine mH (fun v10 v11 v12 v13 => ?_)
 refine aE 1 rfl (fun hc_v10 => ?_)
 refine aE 2 rfl (fun hc_v11 => ?_)
 refine aE 3 rfl (fun hc_v12 => ?_)
 refine aE 4 rfl (fun hc_v13 => ?_)
 refine Z3 ?_
 refine eL (x := (⟨(⟨y16.1.AF.AD, y16.1.AF.AI, y16.1.AF.AB, y16.1.AF.AC, y16.1.AF.AE⟩ : AF), y16.1.AQ, y16.1.AR, y16.1.AO, (⟨y16.1.AK.AD, y16.1.AK.AB, y16.1.AK.AC, y16.1.AK.AE⟩ : AM)⟩ : Ag)) ?_
 cases H
 refine aH [0] (by decide) ?_
 exact To
 refine Z9 ?_
 refine aQ ?_
 refine aQ ?_
 refine aQ ?_
 refine aQ ?_
 refine eL (x := (⟨(⟨a0.AF.AD, a0.AF.AI, a0.AF.AB, a0.AF.AC, a0.AF.AE⟩ : AF), a0.AQ.set a1.toNat a2, a0.AR.set a1.toNat y8, a0.AO.set a1.toNat true, (⟨a0.AK.AD, a0.AK.AB.set a1.toNat (⟨y4.Op, x3, x5, y10⟩ : Ae), a0.AK.AC, a0.AK.AE⟩ : AM)⟩ : Ag)) ?_
 revert H; refine bs fun y17 h19 H => ?_
 refine Tc (ih_flat_view_kids _ _ _ _ _ _ h19) ?_
 refine mH (fun v14 v15 v16 v17 => ?_)
 refine aE 1 rfl (fun hc_v14 => ?_)
 refine aE 2 rfl (fun hc_v15 => ?_)
 refine aE 3 rfl (fun hc_v16 => ?_)
 refine aE 4 rfl (fun hc_v17 => ?_)
 refine Z3 ?_
 refine eL (x := (⟨(⟨y17.1.AF.AD, y17.1.AF.AI, y17.1.AF.AB, y17.1.AF.AC, y17.1.AF.AE⟩ : AF), y17.1.AQ, y17.1.AR, y17.1.AO, (⟨y17.1.AK.AD, y17.1.AK.AB, y17.1.AK.AC, y17.1.AK.AE⟩ : AM)⟩ : Ag)) ?_
 cases H
 refine aH [0] (by decide) ?_
 exact To
 exact fk
 kernel_rfl
 exact fk
 kernel_rfl
 exact fk
 kernel_rfl
 exact fk
 kernel_rfl
 intro p0 a0 a1 a2 a3 r H
 rw [pN] at H
 refine bS Tryz.func184 rfl Tryz.ntmps184 rfl (fun β => ?_)
 refine mH (fun v1 v2 v3 v4 => ?_)
 refine aE 1 rfl (fun hc_v1 => ?_)
 refine aE 2 rfl (fun hc_v2 => ?_)
 refine aE 3 rfl (fun hc_v3 => ?_)
 refine aE 4 rfl (fun hc_v4 => ?_)
 revert H; refine B10 fun y1 h1 H => ?_
 refine Z2 ?_
 refine Tn (dG rfl aAW rfl) fun b1 => ?_
 refine dV (φs' := [fI y1.Op, fI y1.N, fSl aO y1.Aa, fSl tI y1.AU, fSl tI y1.AI]) a1W rfl rfl (has rfl) (has rfl) (aL (aG a1W) (aL (aG a1W) (aL (aY) (aL (aY) (aL (aY) cE))))) (sz rfl) rfl rfl rfl ?_
 refine Z1 ?_
 refine aJ ?_
 refine aJ ?_
 revert H; refine is (fun c1 H => ?_) fun c1 H => ?_
 apply bL (ods := [_, _, _, _, _, _, _, _, _, _, _, _, _, _]) 14 0 6 bM rfl rfl rfl
 refine ND ?_
 refine M8 ?_
 intros
 refine M6 ?_
 intros
 refine Z7 ?_
 refine cR ?_
 refine cR ?_
 refine cR ?_
 refine cR ?_
 refine cR ?_
 refine eL (x := (⟨(⟨a0.AF.AD, a0.AF.AI, a0.AF.AB, a0.AF.AC, a0.AF.AE⟩ : AF), a0.AQ, a0.AR, a0.AO, (⟨a0.AK.AD, a0.AK.AB, a0.AK.AC, a0.AK.AE⟩ : AM)⟩ : Ag)) ?_
 cases H
 refine aH [0] (by decide) ?_
 exact To
 exact fk
 kernel_rfl
 apply bL (ods := [_, _, _, _, _, _, _, _, _, _, _, _, _, _]) 14 0 6 bM rfl rfl rfl
 refine ND ?_
 refine M8 ?_
 intros
 refine M6 ?_
 intros
 revert H; refine I2 (fun c2 H => ?_) fun c2 H => ?_
 refine Z5 ?_
 refine cR ?_
 refine cR ?_
 refine cR ?_
 refine cR ?_
 refine cR ?_
 refine eL (x := (⟨(⟨a0.AF.AD, a0.AF.AI, a0.AF.AB, a0.AF.AC, a0.AF.AE⟩ : AF), a0.AQ, a0.AR, a0.AO, (⟨a0.AK.AD, a0.AK.AB, a0.AK.AC, a0.AK.AE⟩ : AM)⟩ : Ag)) ?_
 cases H
 refine aH [0] (by decide) ?_
 exact To
 refine Z3 ?_
 refine aJ ?_
 revert H; refine bs fun y2 h2 H => ?_
 apply bL (ods := [_, _, _, _, _, _, _, _, _, _, _]) 11 1 7 bM rfl rfl rfl
 refine ND ?_
 refine M8 ?_
 intros
 refine M1 ?_
 intros
 refine Mn 6 (fun b2 => ptr b2) (fun b2 => aD b2 130 [fEq (.slice none 0 0), fEq (.slice none 0 0), fEq (.slice none 0 0)]) rfl (dG rfl rT rfl) (fun b2 u1 => ?_)
 refine oX (od := od1 9 [6] true (fun b2 _ => dN) (fun b2 _ => [aD b2 130 [fSl aW y2.AP, fSl bB y2.AT, fSl bF y2.AS]])) (p := 6) (φs' := [fSl aW y2.AP, fSl bB y2.AT, fSl bF y2.AS]) rfl (fun _ => rfl) (fun _ => rfl) a1W rfl rfl rfl (has rfl) (has rfl) (aL (aY) (aL (aY) (aL (aY) cE))) (sz rfl) rfl rfl rfl (fun _ => ?_)
 revert H; refine B10 fun z1 h3 H => ?_
 revert H; refine B1 fun y3 h4 H => ?_
 refine Tc (aDF _ _ _ _ h4) ?_
 revert H; refine B6 fun z2 h5 H => ?_
 revert H; refine B9 fun y4 h6 H => ?_
 refine Z1 ?_
 refine Yo 3 rfl (iV rfl rfl hh (sc rfl) (eD h6) rfl) ?_
 revert H; refine B1 fun y5 h7 H => ?_
 refine Tc (aA3 _ _ _ h7) ?_
 revert H; refine B2 fun o1 H Hr1 => ?_
 refine aP (ι := List ByteArray × List Int × List Ao × List AN × Int × List (List Int) × List (List Int) × List Bool × List ByteArray × List Ae × List AN × Int × Value × Value × Value × Value) (fun i => o1 = Sum.inl (i.1, i.2.1, i.2.2.1, i.2.2.2.1, i.2.2.2.2.1, i.2.2.2.2.2.1, i.2.2.2.2.2.2.1, i.2.2.2.2.2.2.2.1, i.2.2.2.2.2.2.2.2.1, i.2.2.2.2.2.2.2.2.2.1, i.2.2.2.2.2.2.2.2.2.2.1, i.2.2.2.2.2.2.2.2.2.2.2.1)) (fun i => [(0, fEq (ptr p0)), (2, fSl tI a2), (3, fI z2), (9, fEq (ptr b1)), (10, fEq (ptr b2)), (11, fSl tI y3), (12, fSl tI y5)]) (fun i => [aD b1 55 [fI y1.Op, fI y1.N, fSl aO y1.Aa, fSl tI y1.AU, fSl tI y1.AI], aD p0 96 [fSl aC i.1, fSl tI i.2.1, fSl aT i.2.2.1, fSl aA i.2.2.2.1, fI i.2.2.2.2.1, fEq i.2.2.2.2.2.2.2.2.2.2.2.2.1, fEq i.2.2.2.2.2.2.2.2.2.2.2.2.2.1, fEq i.2.2.2.2.2.2.2.2.2.2.2.2.2.2.1, fSl aC i.2.2.2.2.2.2.2.2.1, fEq i.2.2.2.2.2.2.2.2.2.2.2.2.2.2.2, fSl aA i.2.2.2.2.2.2.2.2.2.2.1, fI i.2.2.2.2.2.2.2.2.2.2.2.1], aD b2 130 [fSl aW y2.AP, fSl bB y2.AT, fSl bF y2.AS], aB i.2.2.2.2.2.2.2.2.2.2.2.2.1 23 (tSl tI) i.2.2.2.2.2.1, aB i.2.2.2.2.2.2.2.2.2.2.2.2.2.1 23 (tSl tI) i.2.2.2.2.2.2.1, aB i.2.2.2.2.2.2.2.2.2.2.2.2.2.2.1 4 aN i.2.2.2.2.2.2.2.1, aB i.2.2.2.2.2.2.2.2.2.2.2.2.2.2.2 118 aK i.2.2.2.2.2.2.2.2.2.1]) ?_ ?_
 refine Z7 ?_
 refine aH [0, 1, 6, 2, 3, 4, 5] (by decide) ?_
 refine Tl (ι := Nat × Int × List ByteArray × List Int × List Ao × List AN × Int × List (List Int) × List (List Int) × List Bool × List ByteArray × List Ae × List AN × Int × Value × Value × Value × Value) (fun i => lO AA (eC AA) y2 z2 y5 i.1 i.2.1 i.2.2.1 i.2.2.2.1 i.2.2.2.2.1 i.2.2.2.2.2.1 i.2.2.2.2.2.2.1 i.2.2.2.2.2.2.2.1 i.2.2.2.2.2.2.2.2.1 i.2.2.2.2.2.2.2.2.2.1 i.2.2.2.2.2.2.2.2.2.2.1 i.2.2.2.2.2.2.2.2.2.2.2.1 i.2.2.2.2.2.2.2.2.2.2.2.2.1 i.2.2.2.2.2.2.2.2.2.2.2.2.2.1 = _) (fun i => i.1) (fun i => [(0, fEq (ptr p0)), (2, fSl tI a2), (3, fI z2), (9, fEq (ptr b1)), (10, fEq (ptr b2)), (11, fSl tI y3), (12, fSl tI y5), (72, fSl bF y2.AS), (73, fI (y2.AS.length : Int)), (74, fI i.2.1)]) (fun i => [aD b1 55 [fI y1.Op, fI y1.N, fSl aO y1.Aa, fSl tI y1.AU, fSl tI y1.AI], aD p0 96 [fSl aC i.2.2.1, fSl tI i.2.2.2.1, fSl aT i.2.2.2.2.1, fSl aA i.2.2.2.2.2.1, fI i.2.2.2.2.2.2.1, fEq i.2.2.2.2.2.2.2.2.2.2.2.2.2.2.1, fEq i.2.2.2.2.2.2.2.2.2.2.2.2.2.2.2.1, fEq i.2.2.2.2.2.2.2.2.2.2.2.2.2.2.2.2.1, fSl aC i.2.2.2.2.2.2.2.2.2.2.1, fEq i.2.2.2.2.2.2.2.2.2.2.2.2.2.2.2.2.2, fSl aA i.2.2.2.2.2.2.2.2.2.2.2.2.1, fI i.2.2.2.2.2.2.2.2.2.2.2.2.2.1], aD b2 130 [fSl aW y2.AP, fSl bB y2.AT, fSl bF y2.AS], aB i.2.2.2.2.2.2.2.2.2.2.2.2.2.2.1 23 (tSl tI) i.2.2.2.2.2.2.2.1, aB i.2.2.2.2.2.2.2.2.2.2.2.2.2.2.2.1 23 (tSl tI) i.2.2.2.2.2.2.2.2.1, aB i.2.2.2.2.2.2.2.2.2.2.2.2.2.2.2.2.1 4 aN i.2.2.2.2.2.2.2.2.2.1, aB i.2.2.2.2.2.2.2.2.2.2.2.2.2.2.2.2.2 118 aK i.2.2.2.2.2.2.2.2.2.2.2.1]) (AA, 0, a0.AF.AD, a0.AF.AI, a0.AF.AB, a0.AF.AC, a0.AF.AE, a0.AQ, a0.AR, a0.AO, a0.AK.AD, a0.AK.AB, a0.AK.AC, a0.AK.AE, v1, v2, v3, v4) H ?_
 clear H; rintro ⟨k1, x26, x27, x28, x29, x30, x31, x32, x33, x34, x35, x36, x37, x38, v13, v14, v15, v16⟩ H
 replace H : lO AA (eC AA) y2 z2 y5 k1 x26 x27 x28 x29 x30 x31 x32 x33 x34 x35 x36 x37 x38 = _ := H
 try dsimp only
 obtain _ | k1 := k1
 rw [lO] at H; cases H
 rw [lO] at H
 refine aE 3 rfl (fun hc_v13 => ?_)
 refine aE 4 rfl (fun hc_v14 => ?_)
 refine aE 5 rfl (fun hc_v15 => ?_)
 refine aE 6 rfl (fun hc_v16 => ?_)
 refine Z3 ?_
 refine aJ ?_
 revert H; refine is (fun c3 H => ?_) fun c3 H => ?_
 refine Z3 ?_
 refine aJ ?_
 revert H; refine B2 fun y6 h8 H => ?_
 refine Z2 ?_
 refine Tn (dG rfl sT rfl) fun b3 => ?_
 refine dV (φs' := [fI y6.At, fSl tI y6.Af, fI y6.Ab]) a1W rfl rfl (has rfl) (has rfl) (aL (aG a1W) (aL (aY) (aL (aG a1W) cE))) (sz rfl) rfl rfl rfl ?_
 revert H; refine B4 fun y7 h9 H => ?_
 refine Tc (aFu _ _ _ _ h9) ?_
 refine Z2 ?_
 refine aJ ?_
 revert H; refine is (fun c4 H => ?_) fun c4 H => ?_
 apply bL (ods := [_, _, _, _, _, _, _, _, _, _, _, _, _, _]) 14 0 8 bM rfl rfl rfl
 refine ND ?_
 refine M8 ?_
 intros
 refine M6 ?_
 intros
 refine Z12 ?_
 revert H; refine B3 fun r1 H e1 => ?_
 cases e1; cases Hr1
 refine dF ?_
 refine dF ?_
 refine dF ?_
 refine dF ?_
 refine aQ ?_
 refine eL (x := (⟨(⟨x27, x28, x29, x30, x31⟩ : AF), x32, x33, x34, (⟨x35, x36, x37, x38⟩ : AM)⟩ : Ag)) ?_
 cases H
 refine aH [0] (by decide) ?_
 exact To
 exact fk
 kernel_rfl
 revert H; refine bs fun y8 h10 H => ?_
 revert H; refine bs fun y9 h11 H => ?_
 revert H; refine bs fun z3 h12 H => ?_
 apply bL (ods := [_, _, _, _, _, _, _, _, _, _, _, _, _, _]) 14 0 8 bM rfl rfl rfl
 refine ND ?_
 refine M8 ?_
 intros
 refine M1 ?_
 intros
 refine Nc (aDF _ _ _ _ h10) fun _ => ?_
 refine Nc (aA3 _ _ _ h11) fun _ => ?_
 refine M3 ?_
 intros
 refine Z1 ?_
 refine dF ?_
 refine dF ?_
 refine dF ?_
 refine dF ?_
 refine aQ ?_
 refine eL (x := (⟨(⟨x27, x28, x29, x30, x31⟩ : AF), x32, x33, x34, (⟨x35, x36, x37, x38⟩ : AM)⟩ : Ag)) ?_
 revert H; refine bs fun y10 h13 H => ?_
 refine Tc (ih_flat_view_node _ _ _ _ _ _ h13) ?_
 refine mH (fun v17 v18 v19 v20 => ?_)
 refine aE 1 rfl (fun hc_v17 => ?_)
 refine aE 2 rfl (fun hc_v18 => ?_)
 refine aE 3 rfl (fun hc_v19 => ?_)
 refine aE 4 rfl (fun hc_v20 => ?_)
 refine Z3 ?_
 revert H; refine cs (fun c5 H => ?_) fun c5 H => ?_
 revert H; refine B5 fun z4 h14 H => ?_
 refine Z3 ?_
 refine aH [6, 0, 7, 1, 2, 3, 4] (by decide) ?_
 exact Tm ((k1, z4, y10.1.AF.AD, y10.1.AF.AI, y10.1.AF.AB, y10.1.AF.AC, y10.1.AF.AE, y10.1.AQ, y10.1.AR, y10.1.AO, y10.1.AK.AD, y10.1.AK.AB, y10.1.AK.AC, y10.1.AK.AE, v17, v18, v19, v20)) ⟨H, ls⟩
 revert H; refine B10 fun r2 H e2 => ?_
 cases e2; cases Hr1
 refine eL (x := (⟨(⟨y10.1.AF.AD, y10.1.AF.AI, y10.1.AF.AB, y10.1.AF.AC, y10.1.AF.AE⟩ : AF), y10.1.AQ, y10.1.AR, y10.1.AO, (⟨y10.1.AK.AD, y10.1.AK.AB, y10.1.AK.AC, y10.1.AK.AE⟩ : AM)⟩ : Ag)) ?_
 cases H
 refine aH [0] (by decide) ?_
 exact To
 exact fk
 kernel_rfl
 refine Z6 ?_
 exact Tm ((x27, x28, x29, x30, x31, x32, x33, x34, x35, x36, x37, x38, v13, v14, v15, v16)) (ij H)
 clear H; intro i hi; obtain ⟨x1, x2, x3, x4, x5, x6, x7, x8, x9, x10, x11, x12, v5, v6, v7, v8⟩ := i; subst o1; have H := Hr1; clear Hr1; try dsimp only at H
 try dsimp only
 refine aE 3 rfl (fun hc_v5 => ?_)
 refine aE 4 rfl (fun hc_v6 => ?_)
 refine aE 5 rfl (fun hc_v7 => ?_)
 refine aE 6 rfl (fun hc_v8 => ?_)
 revert H; refine bs fun o2 H Hr2 => ?_
 refine aP (ι := List ByteArray × List Int × List Ao × List AN × Int × List (List Int) × List (List Int) × List Bool × List ByteArray × List Ae × List AN × Int × Value × Value × Value × Value) (fun i => o2 = Sum.inl (i.1, i.2.1, i.2.2.1, i.2.2.2.1, i.2.2.2.2.1, i.2.2.2.2.2.1, i.2.2.2.2.2.2.1, i.2.2.2.2.2.2.2.1, i.2.2.2.2.2.2.2.2.1, i.2.2.2.2.2.2.2.2.2.1, i.2.2.2.2.2.2.2.2.2.2.1, i.2.2.2.2.2.2.2.2.2.2.2.1)) (fun i => [(0, fEq (ptr p0)), (2, fSl tI a2), (3, fI z2), (9, fEq (ptr b1)), (11, fSl tI y3)]) (fun i => [aD b1 55 [fI y1.Op, fI y1.N, fSl aO y1.Aa, fSl tI y1.AU, fSl tI y1.AI], aD p0 96 [fSl aC i.1, fSl tI i.2.1, fSl aT i.2.2.1, fSl aA i.2.2.2.1, fI i.2.2.2.2.1, fEq i.2.2.2.2.2.2.2.2.2.2.2.2.1, fEq i.2.2.2.2.2.2.2.2.2.2.2.2.2.1, fEq i.2.2.2.2.2.2.2.2.2.2.2.2.2.2.1, fSl aC i.2.2.2.2.2.2.2.2.1, fEq i.2.2.2.2.2.2.2.2.2.2.2.2.2.2.2, fSl aA i.2.2.2.2.2.2.2.2.2.2.1, fI i.2.2.2.2.2.2.2.2.2.2.2.1], aD b2 130 [fSl aW y2.AP, fSl bB y2.AT, fSl bF y2.AS], aB i.2.2.2.2.2.2.2.2.2.2.2.2.1 23 (tSl tI) i.2.2.2.2.2.1, aB i.2.2.2.2.2.2.2.2.2.2.2.2.2.1 23 (tSl tI) i.2.2.2.2.2.2.1, aB i.2.2.2.2.2.2.2.2.2.2.2.2.2.2.1 4 aN i.2.2.2.2.2.2.2.1, aB i.2.2.2.2.2.2.2.2.2.2.2.2.2.2.2 118 aK i.2.2.2.2.2.2.2.2.2.1]) ?_ ?_
 refine Z7 ?_
 refine Tl (ι := Nat × Int × List ByteArray × List Int × List Ao × List AN × Int × List (List Int) × List (List Int) × List Bool × List ByteArray × List Ae × List AN × Int × Value × Value × Value × Value) (fun i => lQ (eC AA) y2 z2 y5 i.1 i.2.1 i.2.2.1 i.2.2.2.1 i.2.2.2.2.1 i.2.2.2.2.2.1 i.2.2.2.2.2.2.1 i.2.2.2.2.2.2.2.1 i.2.2.2.2.2.2.2.2.1 i.2.2.2.2.2.2.2.2.2.1 i.2.2.2.2.2.2.2.2.2.2.1 i.2.2.2.2.2.2.2.2.2.2.2.1 i.2.2.2.2.2.2.2.2.2.2.2.2.1 i.2.2.2.2.2.2.2.2.2.2.2.2.2.1 = _) (fun i => i.1) (fun i => [(0, fEq (ptr p0)), (2, fSl tI a2), (3, fI z2), (9, fEq (ptr b1)), (11, fSl tI y3), (12, fSl tI y5), (100, fSl bB y2.AT), (101, fI (y2.AT.length : Int)), (102, fI i.2.1)]) (fun i => [aD b1 55 [fI y1.Op, fI y1.N, fSl aO y1.Aa, fSl tI y1.AU, fSl tI y1.AI], aD p0 96 [fSl aC i.2.2.1, fSl tI i.2.2.2.1, fSl aT i.2.2.2.2.1, fSl aA i.2.2.2.2.2.1, fI i.2.2.2.2.2.2.1, fEq i.2.2.2.2.2.2.2.2.2.2.2.2.2.2.1, fEq i.2.2.2.2.2.2.2.2.2.2.2.2.2.2.2.1, fEq i.2.2.2.2.2.2.2.2.2.2.2.2.2.2.2.2.1, fSl aC i.2.2.2.2.2.2.2.2.2.2.1, fEq i.2.2.2.2.2.2.2.2.2.2.2.2.2.2.2.2.2, fSl aA i.2.2.2.2.2.2.2.2.2.2.2.2.1, fI i.2.2.2.2.2.2.2.2.2.2.2.2.2.1], aD b2 130 [fSl aW y2.AP, fSl bB y2.AT, fSl bF y2.AS], aB i.2.2.2.2.2.2.2.2.2.2.2.2.2.2.1 23 (tSl tI) i.2.2.2.2.2.2.2.1, aB i.2.2.2.2.2.2.2.2.2.2.2.2.2.2.2.1 23 (tSl tI) i.2.2.2.2.2.2.2.2.1, aB i.2.2.2.2.2.2.2.2.2.2.2.2.2.2.2.2.1 4 aN i.2.2.2.2.2.2.2.2.2.1, aB i.2.2.2.2.2.2.2.2.2.2.2.2.2.2.2.2.2 118 aK i.2.2.2.2.2.2.2.2.2.2.2.1]) (AA, 0, x1, x2, x3, x4, x5, x6, x7, x8, x9, x10, x11, x12, v5, v6, v7, v8) H ?_
 clear H; rintro ⟨k2, x64, x65, x66, x67, x68, x69, x70, x71, x72, x73, x74, x75, x76, v29, v30, v31, v32⟩ H
 replace H : lQ (eC AA) y2 z2 y5 k2 x64 x65 x66 x67 x68 x69 x70 x71 x72 x73 x74 x75 x76 = _ := H
 try dsimp only
 obtain _ | k2 := k2
 rw [lQ] at H; cases H
 rw [lQ] at H
 refine aE 3 rfl (fun hc_v29 => ?_)
 refine aE 4 rfl (fun hc_v30 => ?_)
 refine aE 5 rfl (fun hc_v31 => ?_)
 refine aE 6 rfl (fun hc_v32 => ?_)
 refine Z3 ?_
 refine aJ ?_
 revert H; refine is (fun c6 H => ?_) fun c6 H => ?_
 refine Z3 ?_
 refine aJ ?_
 revert H; refine B2 fun y11 h15 H => ?_
 refine Z2 ?_
 refine Tn (dG rfl aBh rfl) fun b4 => ?_
 refine dV (φs' := [fI y11.In, fI y11.Ab]) a1W rfl rfl (has rfl) (has rfl) (aL (aG a1W) (aL (aG a1W) cE)) (sz rfl) rfl rfl rfl ?_
 refine Z7 ?_
 refine dF ?_
 refine dF ?_
 refine dF ?_
 refine dF ?_
 refine aQ ?_
 refine eL (x := (⟨(⟨x65, x66, x67, x68, x69⟩ : AF), x70, x71, x72, (⟨x73, x74, x75, x76⟩ : AM)⟩ : Ag)) ?_
 revert H; refine bs fun y12 h16 H => ?_
 refine Tc (ih_flat_view_node _ _ _ _ _ _ h16) ?_
 refine mH (fun v33 v34 v35 v36 => ?_)
 refine aE 1 rfl (fun hc_v33 => ?_)
 refine aE 2 rfl (fun hc_v34 => ?_)
 refine aE 3 rfl (fun hc_v35 => ?_)
 refine aE 4 rfl (fun hc_v36 => ?_)
 refine Z2 ?_
 revert H; refine cs (fun c7 H => ?_) fun c7 H => ?_
 revert H; refine B5 fun z5 h17 H => ?_
 refine Z3 ?_
 refine aH [6, 0, 7, 1, 2, 3, 4] (by decide) ?_
 exact Tm ((k2, z5, y12.1.AF.AD, y12.1.AF.AI, y12.1.AF.AB, y12.1.AF.AC, y12.1.AF.AE, y12.1.AQ, y12.1.AR, y12.1.AO, y12.1.AK.AD, y12.1.AK.AB, y12.1.AK.AC, y12.1.AK.AE, v33, v34, v35, v36)) ⟨H, ls⟩
 revert H; refine B10 fun r3 H e3 => ?_
 cases e3; cases Hr2
 refine eL (x := (⟨(⟨y12.1.AF.AD, y12.1.AF.AI, y12.1.AF.AB, y12.1.AF.AC, y12.1.AF.AE⟩ : AF), y12.1.AQ, y12.1.AR, y12.1.AO, (⟨y12.1.AK.AD, y12.1.AK.AB, y12.1.AK.AC, y12.1.AK.AE⟩ : AM)⟩ : Ag)) ?_
 cases H
 refine aH [0] (by decide) ?_
 exact To
 refine Z6 ?_
 exact Tm ((x65, x66, x67, x68, x69, x70, x71, x72, x73, x74, x75, x76, v29, v30, v31, v32)) (ij H)
 clear H; intro i hi; obtain ⟨x39, x40, x41, x42, x43, x44, x45, x46, x47, x48, x49, x50, v21, v22, v23, v24⟩ := i; subst o2; have H := Hr2; clear Hr2; try dsimp only at H
 try dsimp only
 refine aE 3 rfl (fun hc_v21 => ?_)
 refine aE 4 rfl (fun hc_v22 => ?_)
 refine aE 5 rfl (fun hc_v23 => ?_)
 refine aE 6 rfl (fun hc_v24 => ?_)
 refine aJ ?_
 revert H; refine bs fun y13 h18 H => ?_
 apply bL (ods := [_, _, _, _, _, _, _]) 7 0 7 bM rfl rfl rfl
 refine ND ?_
 refine M5 ?_
 intros
 refine Nc (aA3 _ _ _ h18) fun _ => ?_
 refine M1 ?_
 intros
 refine Z1 ?_
 refine aQ ?_
 refine aQ ?_
 refine aQ ?_
 refine aQ ?_
 refine cR ?_
 refine eL (x := (⟨(⟨x39, x40, x41, x42, x43⟩ : AF), x44, x45, x46, (⟨x47, x48, x49, x50⟩ : AM)⟩ : Ag)) ?_
 revert H; refine bs fun y14 h19 H => ?_
 refine Tc (ih_flat_view_kids _ _ _ _ _ _ h19) ?_
 refine mH (fun v37 v38 v39 v40 => ?_)
 refine aE 1 rfl (fun hc_v37 => ?_)
 refine aE 2 rfl (fun hc_v38 => ?_)
 refine aE 3 rfl (fun hc_v39 => ?_)
 refine aE 4 rfl (fun hc_v40 => ?_)
 refine Z3 ?_
 refine eL (x := (⟨(⟨y14.1.AF.AD, y14.1.AF.AI, y14.1.AF.AB, y14.1.AF.AC, y14.1.AF.AE⟩ : AF), y14.1.AQ, y14.1.AR, y14.1.AO, (⟨y14.1.AK.AD, y14.1.AK.AB, y14.1.AK.AC, y14.1.AK.AE⟩ : AM)⟩ : Ag)) ?_
 cases H
 refine aH [0] (by decide) ?_
 exact To
 exact fk
 kernel_rfl
 exact fk
 kernel_rfl
 exact fk
 kernel_rfl
 intro p0 a0 a1 a2 a3 r H
 rw [mI] at H
 refine bS Tryz.func185 rfl Tryz.ntmps185 rfl (fun β => ?_)
 refine mH (fun v1 v2 v3 v4 => ?_)
 refine aE 1 rfl (fun hc_v1 => ?_)
 refine aE 2 rfl (fun hc_v2 => ?_)
 refine aE 3 rfl (fun hc_v3 => ?_)
 refine aE 4 rfl (fun hc_v4 => ?_)
 revert H; refine B3 fun o1 H Hr1 => ?_
 refine aP (ι := List ByteArray × List Int × List Ao × List AN × Int × List (List Int) × List (List Int) × List Bool × List ByteArray × List Ae × List AN × Int × Value × Value × Value × Value) (fun i => o1 = Sum.inl (i.1, i.2.1, i.2.2.1, i.2.2.2.1, i.2.2.2.2.1, i.2.2.2.2.2.1, i.2.2.2.2.2.2.1, i.2.2.2.2.2.2.2.1, i.2.2.2.2.2.2.2.2.1, i.2.2.2.2.2.2.2.2.2.1, i.2.2.2.2.2.2.2.2.2.2.1, i.2.2.2.2.2.2.2.2.2.2.2.1)) (fun i => [(0, fEq (ptr p0))]) (fun i => [aD p0 96 [fSl aC i.1, fSl tI i.2.1, fSl aT i.2.2.1, fSl aA i.2.2.2.1, fI i.2.2.2.2.1, fEq i.2.2.2.2.2.2.2.2.2.2.2.2.1, fEq i.2.2.2.2.2.2.2.2.2.2.2.2.2.1, fEq i.2.2.2.2.2.2.2.2.2.2.2.2.2.2.1, fSl aC i.2.2.2.2.2.2.2.2.1, fEq i.2.2.2.2.2.2.2.2.2.2.2.2.2.2.2, fSl aA i.2.2.2.2.2.2.2.2.2.2.1, fI i.2.2.2.2.2.2.2.2.2.2.2.1], aB i.2.2.2.2.2.2.2.2.2.2.2.2.1 23 (tSl tI) i.2.2.2.2.2.1, aB i.2.2.2.2.2.2.2.2.2.2.2.2.2.1 23 (tSl tI) i.2.2.2.2.2.2.1, aB i.2.2.2.2.2.2.2.2.2.2.2.2.2.2.1 4 aN i.2.2.2.2.2.2.2.1, aB i.2.2.2.2.2.2.2.2.2.2.2.2.2.2.2 118 aK i.2.2.2.2.2.2.2.2.2.1]) ?_ ?_
 refine Z6 ?_
 refine Tl (ι := Nat × Int × List ByteArray × List Int × List Ao × List AN × Int × List (List Int) × List (List Int) × List Bool × List ByteArray × List Ae × List AN × Int × Value × Value × Value × Value) (fun i => mD (eC AA) a1 a2 a3 i.1 i.2.1 i.2.2.1 i.2.2.2.1 i.2.2.2.2.1 i.2.2.2.2.2.1 i.2.2.2.2.2.2.1 i.2.2.2.2.2.2.2.1 i.2.2.2.2.2.2.2.2.1 i.2.2.2.2.2.2.2.2.2.1 i.2.2.2.2.2.2.2.2.2.2.1 i.2.2.2.2.2.2.2.2.2.2.2.1 i.2.2.2.2.2.2.2.2.2.2.2.2.1 i.2.2.2.2.2.2.2.2.2.2.2.2.2.1 = _) (fun i => i.1) (fun i => [(0, fEq (ptr p0)), (2, fSl tI a2), (3, fI a3), (11, fSl tI a1), (12, fI (a1.length : Int)), (13, fI i.2.1)]) (fun i => [aD p0 96 [fSl aC i.2.2.1, fSl tI i.2.2.2.1, fSl aT i.2.2.2.2.1, fSl aA i.2.2.2.2.2.1, fI i.2.2.2.2.2.2.1, fEq i.2.2.2.2.2.2.2.2.2.2.2.2.2.2.1, fEq i.2.2.2.2.2.2.2.2.2.2.2.2.2.2.2.1, fEq i.2.2.2.2.2.2.2.2.2.2.2.2.2.2.2.2.1, fSl aC i.2.2.2.2.2.2.2.2.2.2.1, fEq i.2.2.2.2.2.2.2.2.2.2.2.2.2.2.2.2.2, fSl aA i.2.2.2.2.2.2.2.2.2.2.2.2.1, fI i.2.2.2.2.2.2.2.2.2.2.2.2.2.1], aB i.2.2.2.2.2.2.2.2.2.2.2.2.2.2.1 23 (tSl tI) i.2.2.2.2.2.2.2.1, aB i.2.2.2.2.2.2.2.2.2.2.2.2.2.2.2.1 23 (tSl tI) i.2.2.2.2.2.2.2.2.1, aB i.2.2.2.2.2.2.2.2.2.2.2.2.2.2.2.2.1 4 aN i.2.2.2.2.2.2.2.2.2.1, aB i.2.2.2.2.2.2.2.2.2.2.2.2.2.2.2.2.2 118 aK i.2.2.2.2.2.2.2.2.2.2.2.1]) (AA, 0, a0.AF.AD, a0.AF.AI, a0.AF.AB, a0.AF.AC, a0.AF.AE, a0.AQ, a0.AR, a0.AO, a0.AK.AD, a0.AK.AB, a0.AK.AC, a0.AK.AE, v1, v2, v3, v4) H ?_
 clear H; rintro ⟨k1, x26, x27, x28, x29, x30, x31, x32, x33, x34, x35, x36, x37, x38, v13, v14, v15, v16⟩ H
 replace H : mD (eC AA) a1 a2 a3 k1 x26 x27 x28 x29 x30 x31 x32 x33 x34 x35 x36 x37 x38 = _ := H
 try dsimp only
 obtain _ | k1 := k1
 rw [mD] at H; cases H
 rw [mD] at H
 refine aE 1 rfl (fun hc_v13 => ?_)
 refine aE 2 rfl (fun hc_v14 => ?_)
 refine aE 3 rfl (fun hc_v15 => ?_)
 refine aE 4 rfl (fun hc_v16 => ?_)
 refine Z3 ?_
 refine aJ ?_
 revert H; refine is (fun c1 H => ?_) fun c1 H => ?_
 refine Z3 ?_
 refine aJ ?_
 revert H; refine B2 fun y1 h1 H => ?_
 refine Z9 ?_
 refine eL (x := (⟨(⟨x27, x28, x29, x30, x31⟩ : AF), x32, x33, x34, (⟨x35, x36, x37, x38⟩ : AM)⟩ : Ag)) ?_
 revert H; refine bs fun y2 h2 H => ?_
 refine Tc (ih_flat_view_node _ _ _ _ _ _ h2) ?_
 refine mH (fun v17 v18 v19 v20 => ?_)
 refine aE 1 rfl (fun hc_v17 => ?_)
 refine aE 2 rfl (fun hc_v18 => ?_)
 refine aE 3 rfl (fun hc_v19 => ?_)
 refine aE 4 rfl (fun hc_v20 => ?_)
 refine Z2 ?_
 revert H; refine cs (fun c2 H => ?_) fun c2 H => ?_
 revert H; refine B5 fun z1 h3 H => ?_
 refine Z3 ?_
 exact Tm ((k1, z1, y2.1.AF.AD, y2.1.AF.AI, y2.1.AF.AB, y2.1.AF.AC, y2.1.AF.AE, y2.1.AQ, y2.1.AR, y2.1.AO, y2.1.AK.AD, y2.1.AK.AB, y2.1.AK.AC, y2.1.AK.AE, v17, v18, v19, v20)) ⟨H, ls⟩
 revert H; refine B10 fun r1 H e1 => ?_
 cases e1; cases Hr1
 refine eL (x := (⟨(⟨y2.1.AF.AD, y2.1.AF.AI, y2.1.AF.AB, y2.1.AF.AC, y2.1.AF.AE⟩ : AF), y2.1.AQ, y2.1.AR, y2.1.AO, (⟨y2.1.AK.AD, y2.1.AK.AB, y2.1.AK.AC, y2.1.AK.AE⟩ : AM)⟩ : Ag)) ?_
 cases H
 exact To
 refine Z6 ?_
 exact Tm ((x27, x28, x29, x30, x31, x32, x33, x34, x35, x36, x37, x38, v13, v14, v15, v16)) (ij H)
 clear H; intro i hi; obtain ⟨x1, x2, x3, x4, x5, x6, x7, x8, x9, x10, x11, x12, v5, v6, v7, v8⟩ := i; subst o1; have H := Hr1; clear Hr1; try dsimp only at H
 try dsimp only
 refine aE 1 rfl (fun hc_v5 => ?_)
 refine aE 2 rfl (fun hc_v6 => ?_)
 refine aE 3 rfl (fun hc_v7 => ?_)
 refine aE 4 rfl (fun hc_v8 => ?_)
 refine Z4 ?_
 refine eL (x := (⟨(⟨x1, x2, x3, x4, x5⟩ : AF), x6, x7, x8, (⟨x9, x10, x11, x12⟩ : AM)⟩ : Ag)) ?_
 cases H
 exact To
theorem aHn (AA : Nat) (p0 : Nat) (a0 : Ag) (a1 : Int) (a2 : List Int) (a3 : Int) (r : Ag × Bool) (H : eC AA a0 a1 a2 a3 = some r) : FnS Tryz.prog 114 [fEq (.pointer (some ⟨p0, 0, none⟩)), fI a1, fSl tI a2, fI a3] [mJ p0 a0] (aF r.2) (fun _ => [mJ p0 r.1]) := (aFn AA).1 p0 a0 a1 a2 a3 r H
open Go.SX Go.SW Go.Dt
theorem aHK (p0 : Nat) (e0 : Int) : FnD Tryz.prog 227 [fEq (ptr p0)] [aD p0 29 [fI e0]] (.returning) [aD p0 29 [fI e0]] := by
 refine FnD_of Tryz.func227 rfl Tryz.ntmps227 rfl (fun β c₀ cs hc => ?_)
 refine aDX (v := .nilIface) (cs' := c₀ :: cs) (by simp [recoverD, hc]) rfl rfl rfl rfl rfl rfl ⟨rfl, rfl⟩ ?_
 refine T_inS ?_
 refine Z2 ?_
 refine Yy (yE rfl hh aEh (rfl : iF _ = some true)) ?_
 refine Z3 ?_
 exact T_endD (u' := .returning) (.inr rfl) rfl (by cases c₀; cases hc; rfl) rfl rfl
theorem aFG (p0 : Nat) (e0 e1 : Int) : FnD Tryz.prog 227 [fEq (ptr p0)] [aD p0 29 [fI e0]] (.panicking [{ v := (.iface 334 (.agg #[.int .i64 e1])), recovered := false }]) [aD p0 29 [fI e1]] := by
 refine FnD_of Tryz.func227 rfl Tryz.ntmps227 rfl (fun β c₀ cs hc => ?_)
 refine aDX (v := (.iface 334 (.agg #[.int .i64 e1]))) (cs' := { c₀ with mode := .panicking [{ v := (.iface 334 (.agg #[.int .i64 e1])), recovered := true }] } :: cs) (by simp [recoverD, hc]) rfl rfl rfl rfl rfl rfl ⟨rfl, rfl⟩ ?_
 refine T_inS ?_
 refine Z2 ?_
 refine Yy (yE rfl hh aEh (rfl : iF _ = some false)) ?_
 refine Z4 ?_
 refine Yy (aH3 rfl hh aDm aHO) ?_
 refine Z2 ?_
 refine wK 11 rfl (uC [(.int .i64 e1)]) ?_
 refine Z1 ?_
 refine Tn (dG rfl aGG rfl) fun b1 => ?_
 refine dV (φs' := [fI e1]) a1W rfl rfl (has rfl) (has rfl) (aL (aG a1W) cE) (sz rfl) rfl rfl rfl ?_
 refine Z2 ?_
 refine aJ ?_
 refine Z12 ?_
 refine bI ?_
 refine bK (φs' := [fI e1]) a1W rfl rfl (has rfl) (has rfl) (aG a1W) (sz rfl) rfl rfl ?_
 refine Z1 ?_
 refine aH [0] (by decide) ?_
 exact T_endD (u' := .panicking [{ v := (.iface 334 (.agg #[.int .i64 e1])), recovered := true }]) (.inr rfl) rfl rfl rfl rfl
def bN (a0 : Bool) : Option (Unit ⊕ Value) :=
 bif a0 then
  some (Sum.inl ())
 else
  some (Sum.inr (.iface 334 (.agg ([(.int .i64 2)] : List Value).toArray)))
theorem aS  (a0 : Bool) (r : Unit ⊕ Value) (H : bN a0 = some r) : FnE Tryz.prog 274 [aF a0] [] r (fun r => eM []) (fun r => []) := by
 unfold bN at H
 refine qS Tryz.func274 rfl Tryz.ntmps274 rfl (fun β => ?_)
 refine Z4 ?_
 revert H; refine cs (fun c1 H => ?_) fun c1 H => ?_
 refine Z2 ?_
 cases H
 refine pY ?_
 exact dI (.inr rfl) rfl rfl
 refine Z2 ?_
 refine Yy (gL (ψs := [fI 2]) rfl aFQ rfl (bP.cons (has rfl) (cY (aG a1W)) bP.nil) rfl) ?_
 refine Yy (qI rfl (jB rfl (vT [(.int .i64 2)])) aDm) ?_
 refine T_panic a1W rfl (has rfl) ?_
 cases H
 exact bT
def zX  : Option (bD ByteArray Bool) :=
 some (bD.upd (bD.upd (bD.upd (bD.upd (bD.upd (bD.upd (bD.upd (bD.upd (bD.upd (bD.upd (bD.none : bD ByteArray Bool) ({ data := #[97, 110, 100] }) true) ({ data := #[100, 101, 102] }) true) ({ data := #[101, 108, 115, 101] }) true) ({ data := #[103, 111] }) true) ({ data := #[105, 102] }) true) ({ data := #[105, 110] }) true) ({ data := #[112, 108, 97, 99, 101] }) true) ({ data := #[115, 116, 111, 112] }) true) ({ data := #[116, 104, 101, 110] }) true) ({ data := #[119, 97, 116, 99, 104] }) true)
theorem aGO   (r : bD ByteArray Bool) (H : zX = some r) : FnS Tryz.prog 300 [] [] (fMap kStr (fun y => aF y) r) (fun _ => []) := by
 unfold zX at H
 refine bS Tryz.func300 rfl Tryz.ntmps300 rfl (fun β => ?_)
 refine Z4 ?_
 refine Tn (aD2 (fun y => aF y) kStr rfl) fun b1 => ?_
 refine kH (k := { data := #[97, 110, 100] }) (y := true) a1W (.inr rfl) rfl (has rfl) (has rfl) rfl (has rfl) rfl kD ?_
 refine kH (k := { data := #[100, 101, 102] }) (y := true) a1W (.inr rfl) rfl (has rfl) (has rfl) rfl (has rfl) rfl kD ?_
 refine kH (k := { data := #[101, 108, 115, 101] }) (y := true) a1W (.inr rfl) rfl (has rfl) (has rfl) rfl (has rfl) rfl kD ?_
 refine kH (k := { data := #[103, 111] }) (y := true) a1W (.inr rfl) rfl (has rfl) (has rfl) rfl (has rfl) rfl kD ?_
 refine kH (k := { data := #[105, 102] }) (y := true) a1W (.inr rfl) rfl (has rfl) (has rfl) rfl (has rfl) rfl kD ?_
 refine kH (k := { data := #[105, 110] }) (y := true) a1W (.inr rfl) rfl (has rfl) (has rfl) rfl (has rfl) rfl kD ?_
 refine kH (k := { data := #[112, 108, 97, 99, 101] }) (y := true) a1W (.inr rfl) rfl (has rfl) (has rfl) rfl (has rfl) rfl kD ?_
 refine kH (k := { data := #[115, 116, 111, 112] }) (y := true) a1W (.inr rfl) rfl (has rfl) (has rfl) rfl (has rfl) rfl kD ?_
 refine kH (k := { data := #[116, 104, 101, 110] }) (y := true) a1W (.inr rfl) rfl (has rfl) (has rfl) rfl (has rfl) rfl kD ?_
 refine kH (k := { data := #[119, 97, 116, 99, 104] }) (y := true) a1W (.inr rfl) rfl (has rfl) (has rfl) rfl (has rfl) rfl kD ?_
 refine Z4 ?_
 refine bY (φ := fMap kStr (fun y => aF y) (bD.upd (bD.upd (bD.upd (bD.upd (bD.upd (bD.upd (bD.upd (bD.upd (bD.upd (bD.upd (bD.none : bD ByteArray Bool) ({ data := #[97, 110, 100] }) true) ({ data := #[100, 101, 102] }) true) ({ data := #[101, 108, 115, 101] }) true) ({ data := #[103, 111] }) true) ({ data := #[105, 102] }) true) ({ data := #[105, 110] }) true) ({ data := #[112, 108, 97, 99, 101] }) true) ({ data := #[115, 116, 111, 112] }) true) ({ data := #[116, 104, 101, 110] }) true) ({ data := #[119, 97, 116, 99, 104] }) true)) (v := .map (some b1)) [0, 1, 2] frz_map fz ?_
 refine bX ?_
 cases H
 exact To
def kF (a0 : ByteArray) : Nat -> Int -> Option ((Unit) ⊕ (Bool))
| 0, _ => none
| k + 1, x2 =>
 if x2 < (a0.size : Int) then
  (sidx a0 x2).bind fun z1 =>
  if z1 < 97 then
   (some false).bind fun r => some (Sum.inr r)
  else
   (sidx a0 x2).bind fun z2 =>
   if 122 < z2 then
    (some false).bind fun r => some (Sum.inr r)
   else
    (chk (x2 + 1)).bind fun z3 =>
    kF a0 k z3
 else
  some (Sum.inl ())
def qF (AA : Nat) (a0 : ByteArray) : Option (Bool) :=
 (kF a0 AA 0).bind fun o => match o with
 | Sum.inr r => some r
 | Sum.inl _ =>
 (if 0 < (a0.size : Int) then
  if (a0.size : Int) <= 8 then
   (zX).bind fun y1 =>
   some (!((y1.get a0).getD false))
  else
   some false
 else
  some false).bind fun x3 =>
 some x3
theorem aFz (AA : Nat)  (a0 : ByteArray) (r : Bool) (H : qF AA a0 = some r) : FnS Tryz.prog 275 [gD a0] [] (aF r) (fun _ => []) := by
 unfold qF at H
 refine bS Tryz.func275 rfl Tryz.ntmps275 rfl (fun β => ?_)
 revert H; refine B3 fun o1 H Hr1 => ?_
 refine aP (ι := Unit) (fun i => o1 = Sum.inl ()) (fun i => [(0, gD a0)]) (fun i => []) ?_ ?_
 refine Z2 ?_
 refine Yy (sN rfl hh lR) ?_
 refine Z3 ?_
 refine Tl (ι := Nat × Int) (fun i => kF a0 i.1 i.2 = _) (fun i => i.1) (fun i => [(0, gD a0), (5, fI (a0.size : Int)), (6, fI i.2)]) (fun i => []) (AA, 0) H ?_
 clear H; rintro ⟨k1, x2⟩ H
 replace H : kF a0 k1 x2 = _ := H
 try dsimp only
 obtain _ | k1 := k1
 rw [kF] at H; cases H
 rw [kF] at H
 refine Z3 ?_
 refine aJ ?_
 revert H; refine is (fun c1 H => ?_) fun c1 H => ?_
 refine Z3 ?_
 refine aJ ?_
 revert H; refine B8 fun z1 h1 H => ?_
 refine Yy (zK rfl hh hh lR h1) ?_
 revert H; refine I2 (fun c2 H => ?_) fun c2 H => ?_
 refine Z12 ?_
 revert H; refine B4 fun r1 H e1 => ?_
 cases e1; cases Hr1
 cases H
 exact To
 revert H; refine B2 fun z2 h2 H => ?_
 refine Yg c2 (zK rfl hh hh lR h2) ?_
 revert H; refine I3 (fun c3 H => ?_) fun c3 H => ?_
 revert H; refine B10 fun r2 H e2 => ?_
 cases e2; cases Hr1
 cases H
 exact To
 revert H; refine B5 fun z3 h3 H => ?_
 refine Z3 ?_
 exact Tm ((k1, z3)) ⟨H, ls⟩
 refine Z6 ?_
 exact Tm (()) (ij H)
 clear H; intro i hi; subst o1; have H := Hr1; clear Hr1; try dsimp only at H
 try dsimp only
 revert H; refine bs fun o2 H Hr2 => ?_
 refine aP (ι := Bool) (fun i => o2 = i) (fun i => [(2, aF i)]) (fun i => []) ?_ ?_
 refine Z2 ?_
 refine Yy (sN rfl hh lR) ?_
 revert H; refine I2 (fun c4 H => ?_) fun c4 H => ?_
 refine Z1 ?_
 refine Yg c4 (sN rfl hh lR) ?_
 revert H; refine I3 (fun c5 H => ?_) fun c5 H => ?_
 revert H; refine bs fun y1 h4 H => ?_
 refine Tc (aGO _ h4) ?_
 refine Z1 ?_
 refine Yg c5 (o_lookup (zα := false) (k := a0) rfl hh hh rfl kD Ent.rfl) ?_
 refine Z4 ?_
 exact Tm (!((y1.get a0).getD false)) (ij H)
 refine Z7 ?_
 exact Tm (false) (ij H)
 refine Z12 ?_
 exact Tm (false) (ij H)
 clear H; intro x3 hi; subst o2; have H := Hr2; clear Hr2; try dsimp only at H
 try dsimp only
 refine Z1 ?_
 cases H
 exact To
def jR (a0 : Int) : Option (Value) :=
 (if a0 = 1 then
  some (decide (a0 = 1))
 else
  some (decide (a0 = 7))).bind fun x1 =>
 bif x1 then
  some ((.iface 338 (.int .i64 0)) : Value)
 else
  if a0 = 3 then
   some ((.iface 338 (.int .i64 2)) : Value)
  else
   if a0 = 2 then
    some ((.iface 302 (.agg ([] : List Value).toArray)) : Value)
   else
    if a0 = 5 then
     some ((.iface 339 (.agg ([] : List Value).toArray)) : Value)
    else
     (if a0 = 6 then
      some (decide (a0 = 6))
     else
      some (decide (a0 = 8))).bind fun x2 =>
     bif x2 then
      some ((.iface 303 (.agg ([] : List Value).toArray)) : Value)
     else
      if a0 = 4 then
       some ((.iface 340 (.agg ([] : List Value).toArray)) : Value)
      else
       some (Go.Value.nilIface : Value)
theorem aGU  (a0 : Int) (r : Value) (H : jR a0 = some r) : FnS Tryz.prog 235 [fI a0] [] (fRaw r) (fun _ => []) := by
 unfold jR at H
 refine bS Tryz.func235 rfl Tryz.ntmps235 rfl (fun β => ?_)
 refine Z3 ?_
 refine aJ ?_
 revert H; refine B4 fun o1 H Hr1 => ?_
 refine aP (ι := Bool) (fun i => o1 = i) (fun i => [(3, fI a0), (4, aF i)]) (fun i => []) ?_ ?_
 revert H; refine I4 (fun c1 H => ?_) fun c1 H => ?_
 refine Z3 ?_
 exact Tm (decide (a0 = 1)) (ij H)
 refine Z5 ?_
 exact Tm (decide (a0 = 7)) (ij H)
 clear H; intro x1 hi; subst o1; have H := Hr1; clear Hr1; try dsimp only at H
 try dsimp only
 revert H; refine cs (fun c2 H => ?_) fun c2 H => ?_
 refine Z2 ?_
 refine Yy (qI rfl hh aCl) ?_
 refine Z5 ?_
 cases H
 exact eE rfl (fK rfl (qK trivial)) rfl
 revert H; refine I5 (fun c3 H => ?_) fun c3 H => ?_
 refine Z2 ?_
 refine Yy (qI rfl hh aCl) ?_
 refine Z5 ?_
 cases H
 exact eE rfl (fK rfl (qK trivial)) rfl
 revert H; refine I5 (fun c4 H => ?_) fun c4 H => ?_
 refine Z2 ?_
 refine Yy (gL (ψs := []) rfl aE5 rfl bP.nil rfl) ?_
 refine Yy (qI rfl (jB rfl (vT [])) aDn) ?_
 refine Z5 ?_
 cases H
 exact eE rfl (fK rfl (qK trivial)) rfl
 revert H; refine I5 (fun c5 H => ?_) fun c5 H => ?_
 refine Z2 ?_
 refine Yy (gL (ψs := []) rfl aHI rfl bP.nil rfl) ?_
 refine Yy (qI rfl (jB rfl (vT [])) aDJ) ?_
 refine Z5 ?_
 cases H
 exact eE rfl (fK rfl (qK trivial)) rfl
 revert H; refine B1 fun o2 H Hr2 => ?_
 refine aP (ι := Bool) (fun i => o2 = i) (fun i => [(3, fI a0), (19, aF i)]) (fun i => []) ?_ ?_
 revert H; refine I4 (fun c6 H => ?_) fun c6 H => ?_
 refine Z3 ?_
 exact Tm (decide (a0 = 6)) (ij H)
 refine Z5 ?_
 exact Tm (decide (a0 = 8)) (ij H)
 clear H; intro x2 hi; subst o2; have H := Hr2; clear Hr2; try dsimp only at H
 try dsimp only
 revert H; refine cs (fun c7 H => ?_) fun c7 H => ?_
 refine Z2 ?_
 refine Yy (gL (ψs := []) rfl aHs rfl bP.nil rfl) ?_
 refine Yy (qI rfl (jB rfl (vT [])) aDs) ?_
 refine Z5 ?_
 cases H
 exact eE rfl (fK rfl (qK trivial)) rfl
 revert H; refine I5 (fun c8 H => ?_) fun c8 H => ?_
 refine Z2 ?_
 refine Yy (gL (ψs := []) rfl aGH rfl bP.nil rfl) ?_
 refine Yy (qI rfl (jB rfl (vT [])) aDQ) ?_
 refine Z5 ?_
 cases H
 exact eE rfl (fK rfl (qK trivial)) rfl
 refine Z8 ?_
 cases H
 exact eE rfl (fK rfl (qK trivial)) rfl
def oA (rec_scope_exp_1 : AW -> Int -> Int -> Int -> Option (Int ⊕ Value)) (a0 : AW) (a1 : Int) (w1 : Int) : Nat -> Int -> Int -> Option (Int ⊕ Value)
| 0, _, _ => none
| k + 1, x4, x5 =>
 if x4 < (a0.AU.length : Int) then
  (idx a0.AU x4).bind fun y12 =>
  (chk (a1 + 1)).bind fun z2 =>
  (rec_scope_exp_1 (⟨y12.Op, y12.N, y12.AU⟩ : AW) z2 x5 w1).bind fun y13 =>
  match y13 with
  | Sum.inr pv12 => some (Sum.inr pv12)
  | Sum.inl y13 =>
  (chk (x4 + 1)).bind fun z3 =>
  oA rec_scope_exp_1 a0 a1 w1 k z3 y13
 else
  some (Sum.inl x5)
def lI : Nat -> AW -> Int -> Int -> Int -> Option (Int ⊕ Value)
| 0, _, _, _, _ => none
| AA + 1, a0, a1, w0, w1 =>
 (chk (w0 + 1)).bind fun z1 =>
 (if z1 <= 60 then
  (bN (decide (a1 <= 12))).bind fun y1 =>
  match y1 with
  | Sum.inr pv1 => (some (Sum.inr pv1)).bind fun r => some (Sum.inr r)
  | Sum.inl y1 =>
  some (Sum.inl ())
 else
  (bN false).bind fun y2 =>
  match y2 with
  | Sum.inr pv2 => (some (Sum.inr pv2)).bind fun r => some (Sum.inr r)
  | Sum.inl y2 =>
  some (Sum.inl ())).bind fun o => match o with
 | Sum.inr r => some r
 | Sum.inl _ =>
 (if a0.Op = 1 then
  if (-1000000000) <= a0.N then
   if a0.N <= 1000000000 then
    (bN (decide ((a0.AU.length : Int) = 0))).bind fun y3 =>
    match y3 with
    | Sum.inr pv3 => (some (Sum.inr pv3)).bind fun r => some (Sum.inr r)
    | Sum.inl y3 =>
    some (Sum.inl ())
   else
    (bN false).bind fun y4 =>
    match y4 with
    | Sum.inr pv4 => (some (Sum.inr pv4)).bind fun r => some (Sum.inr r)
    | Sum.inl y4 =>
    some (Sum.inl ())
  else
   (bN false).bind fun y5 =>
   match y5 with
   | Sum.inr pv5 => (some (Sum.inr pv5)).bind fun r => some (Sum.inr r)
   | Sum.inl y5 =>
   some (Sum.inl ())
 else
  if a0.Op = 2 then
   if 0 <= a0.N then
    if a0.N < w1 then
     (bN (decide ((a0.AU.length : Int) = 0))).bind fun y6 =>
     match y6 with
     | Sum.inr pv6 => (some (Sum.inr pv6)).bind fun r => some (Sum.inr r)
     | Sum.inl y6 =>
     some (Sum.inl ())
    else
     (bN false).bind fun y7 =>
     match y7 with
     | Sum.inr pv7 => (some (Sum.inr pv7)).bind fun r => some (Sum.inr r)
     | Sum.inl y7 =>
     some (Sum.inl ())
   else
    (bN false).bind fun y8 =>
    match y8 with
    | Sum.inr pv8 => (some (Sum.inr pv8)).bind fun r => some (Sum.inr r)
    | Sum.inl y8 =>
    some (Sum.inl ())
  else
   (if a0.Op = 3 then
    some (decide (a0.Op = 3))
   else
    if a0.Op = 4 then
     some (decide (a0.Op = 4))
    else
     if a0.Op = 5 then
      some (decide (a0.Op = 5))
     else
      if a0.Op = 6 then
       some (decide (a0.Op = 6))
      else
       some (decide (a0.Op = 7))).bind fun x1 =>
   bif x1 then
    if a0.N = 0 then
     (bN (decide ((a0.AU.length : Int) = 2))).bind fun y9 =>
     match y9 with
     | Sum.inr pv9 => (some (Sum.inr pv9)).bind fun r => some (Sum.inr r)
     | Sum.inl y9 =>
     some (Sum.inl ())
    else
     (bN false).bind fun y10 =>
     match y10 with
     | Sum.inr pv10 => (some (Sum.inr pv10)).bind fun r => some (Sum.inr r)
     | Sum.inl y10 =>
     some (Sum.inl ())
   else
    (bN false).bind fun y11 =>
    match y11 with
    | Sum.inr pv11 => (some (Sum.inr pv11)).bind fun r => some (Sum.inr r)
    | Sum.inl y11 =>
    some (Sum.inl ())).bind fun o => match o with
 | Sum.inr r => some r
 | Sum.inl _ =>
 oA (lI AA) a0 a1 w1 AA 0 z1
theorem aE2 : ∀ (AA : Nat), (∀ (q0 : Nat) (q2 : Nat) (a0 : AW) (a1 : Int) (w0 : Int) (w1 : Int) (r : Int ⊕ Value) (H : lI AA a0 a1 w0 w1 = some r), FnE Tryz.prog 308 [fSt aO a0, fI a1, fEq (.pointer (some ⟨q0, 0, none⟩)), bO tI w1, fEq (.pointer (some ⟨q2, 0, none⟩))] [aD q0 3 [fI w0], aD q2 363 [fH 308 [fEq (.pointer (some ⟨q0, 0, none⟩)), bO tI w1, fEq (.pointer (some ⟨q2, 0, none⟩))]]] r (fun r => eM []) (fun r => [aD q0 3 [fI r], aD q2 363 [fH 308 [fEq (.pointer (some ⟨q0, 0, none⟩)), bO tI w1, fEq (.pointer (some ⟨q2, 0, none⟩))]]])) := by
 intro AA
 induction AA with
 | zero => exact fun q0 q2 a0 a1 w0 w1 r H => (by rw [lI] at H; cases H)
 | succ AA ih =>
 have ih_scope_exp_1 := ih
 refine ?_
 intro q0 q2 a0 a1 w0 w1 r H
 rw [lI] at H
 refine qS Tryz.func308 rfl Tryz.ntmps308 rfl (fun β => ?_)
 refine Z1 ?_
 refine Tn (cV rfl hh cJ) fun b1 => ?_
 revert H; refine B3 fun z1 h1 H => ?_
 refine Z1 ?_
 refine bI ?_
 refine bK (φs' := [fI z1]) a1W rfl rfl (has rfl) (has rfl) (aG a1W) (sz rfl) rfl rfl ?_
 revert H; refine B1 fun o1 H Hr1 => ?_
 refine aP (ι := Unit) (fun i => o1 = Sum.inl ()) (fun i => [(1, fI a1), (2, fEq (ptr q0)), (3, bO tI w1), (4, fEq (ptr q2)), (5, fEq (ptr b1))]) (fun i => [aD q0 3 [fI z1], aD b1 124 [fI a0.Op, fI a0.N, eF a0.AU], aD q2 363 [fH 308 [fEq (ptr q0), bO tI w1, fEq (ptr q2)]]]) ?_ ?_
 revert H; refine I4 (fun c1 H => ?_) fun c1 H => ?_
 revert H; refine B3 fun y1 h2 H => ?_
 rcases y1 with y1 | pv1 <;> dsimp only at H
 refine Tc (aS _ _ h2).s ?_
 refine Z1 ?_
 exact Tm (()) (ij H)
 refine Tp (aS _ _ h2).pan ?_
 revert H; refine B1 fun r1 H e1 => ?_
 cases e1; cases Hr1
 cases H
 exact bT
 revert H; refine B3 fun y2 h3 H => ?_
 rcases y2 with y2 | pv2 <;> dsimp only at H
 refine Tc (aS _ _ h3).s ?_
 refine Z1 ?_
 exact Tm (()) (ij H)
 refine Tp (aS _ _ h3).pan ?_
 revert H; refine B1 fun r2 H e2 => ?_
 cases e2; cases Hr1
 cases H
 exact bT
 clear H; intro i hi; subst o1; have H := Hr1; clear Hr1; try dsimp only at H
 try dsimp only
 revert H; refine bs fun o2 H Hr2 => ?_
 refine aP (ι := Unit) (fun i => o2 = Sum.inl ()) (fun i => [(1, fI a1), (2, fEq (ptr q0)), (4, fEq (ptr q2)), (5, fEq (ptr b1))]) (fun i => [aD q0 3 [fI z1], aD b1 124 [fI a0.Op, fI a0.N, eF a0.AU], aD q2 363 [fH 308 [fEq (ptr q0), bO tI w1, fEq (ptr q2)]]]) ?_ ?_
 revert H; refine I9 (fun c2 H => ?_) fun c2 H => ?_
 revert H; refine I6 (fun c3 H => ?_) fun c3 H => ?_
 revert H; refine I5 (fun c4 H => ?_) fun c4 H => ?_
 refine Z1 ?_
 refine Yh 1 rfl c4 (aZ rfl hh (sc rfl) rfl (gI fX)) ?_
 revert H; refine B3 fun y3 h4 H => ?_
 rcases y3 with y3 | pv3 <;> dsimp only at H
 refine Tc (aS _ _ h4).s ?_
 refine Z3 ?_
 exact Tm (()) (ij H)
 refine Tp (aS _ _ h4).pan ?_
 revert H; refine B2 fun r3 H e3 => ?_
 cases e3; cases Hr2
 cases H
 exact bT
 revert H; refine B5 fun y4 h5 H => ?_
 rcases y4 with y4 | pv4 <;> dsimp only at H
 refine Tc (aS _ _ h5).s ?_
 refine Z3 ?_
 exact Tm (()) (ij H)
 refine Tp (aS _ _ h5).pan ?_
 revert H; refine B2 fun r4 H e4 => ?_
 cases e4; cases Hr2
 cases H
 exact bT
 revert H; refine B10 fun y5 h6 H => ?_
 rcases y5 with y5 | pv5 <;> dsimp only at H
 refine Tc (aS _ _ h6).s ?_
 refine Z3 ?_
 exact Tm (()) (ij H)
 refine Tp (aS _ _ h6).pan ?_
 revert H; refine B2 fun r5 H e5 => ?_
 cases e5; cases Hr2
 cases H
 exact bT
 revert H; refine I5 (fun c5 H => ?_) fun c5 H => ?_
 revert H; refine I6 (fun c6 H => ?_) fun c6 H => ?_
 revert H; refine I6 (fun c7 H => ?_) fun c7 H => ?_
 refine Z1 ?_
 refine Yh 1 rfl c7 (aZ rfl hh (sc rfl) rfl (gI fX)) ?_
 revert H; refine B3 fun y6 h7 H => ?_
 rcases y6 with y6 | pv6 <;> dsimp only at H
 refine Tc (aS _ _ h7).s ?_
 refine Z3 ?_
 exact Tm (()) (ij H)
 refine Tp (aS _ _ h7).pan ?_
 revert H; refine B2 fun r6 H e6 => ?_
 cases e6; cases Hr2
 cases H
 exact bT
 revert H; refine B5 fun y7 h8 H => ?_
 rcases y7 with y7 | pv7 <;> dsimp only at H
 refine Tc (aS _ _ h8).s ?_
 refine Z3 ?_
 exact Tm (()) (ij H)
 refine Tp (aS _ _ h8).pan ?_
 revert H; refine B2 fun r7 H e7 => ?_
 cases e7; cases Hr2
 cases H
 exact bT
 revert H; refine B11 fun y8 h9 H => ?_
 rcases y8 with y8 | pv8 <;> dsimp only at H
 refine Tc (aS _ _ h9).s ?_
 refine Z3 ?_
 exact Tm (()) (ij H)
 refine Tp (aS _ _ h9).pan ?_
 revert H; refine B2 fun r8 H e8 => ?_
 cases e8; cases Hr2
 cases H
 exact bT
 revert H; refine B1 fun o3 H Hr3 => ?_
 refine aP (ι := Bool) (fun i => o3 = i) (fun i => [(1, fI a1), (2, fEq (ptr q0)), (4, fEq (ptr q2)), (5, fEq (ptr b1)), (56, aF i)]) (fun i => [aD q0 3 [fI z1], aD b1 124 [fI a0.Op, fI a0.N, eF a0.AU], aD q2 363 [fH 308 [fEq (ptr q0), bO tI w1, fEq (ptr q2)]]]) ?_ ?_
 revert H; refine I4 (fun c8 H => ?_) fun c8 H => ?_
 refine Z3 ?_
 exact Tm (decide (a0.Op = 3)) (ij H)
 revert H; refine I5 (fun c9 H => ?_) fun c9 H => ?_
 refine Z3 ?_
 exact Tm (decide (a0.Op = 4)) (ij H)
 revert H; refine I5 (fun c10 H => ?_) fun c10 H => ?_
 refine Z3 ?_
 exact Tm (decide (a0.Op = 5)) (ij H)
 revert H; refine I5 (fun c11 H => ?_) fun c11 H => ?_
 refine Z3 ?_
 exact Tm (decide (a0.Op = 6)) (ij H)
 refine Z5 ?_
 exact Tm (decide (a0.Op = 7)) (ij H)
 clear H; intro x1 hi; subst o3; have H := Hr3; clear Hr3; try dsimp only at H
 try dsimp only
 revert H; refine cs (fun c12 H => ?_) fun c12 H => ?_
 revert H; refine I6 (fun c13 H => ?_) fun c13 H => ?_
 refine Z1 ?_
 refine Yh 1 rfl c13 (aZ rfl hh (sc rfl) rfl (gI fX)) ?_
 revert H; refine B3 fun y9 h10 H => ?_
 rcases y9 with y9 | pv9 <;> dsimp only at H
 refine Tc (aS _ _ h10).s ?_
 refine Z3 ?_
 exact Tm (()) (ij H)
 refine Tp (aS _ _ h10).pan ?_
 revert H; refine B2 fun r9 H e9 => ?_
 cases e9; cases Hr2
 cases H
 exact bT
 revert H; refine B5 fun y10 h11 H => ?_
 rcases y10 with y10 | pv10 <;> dsimp only at H
 refine Tc (aS _ _ h11).s ?_
 refine Z3 ?_
 exact Tm (()) (ij H)
 refine Tp (aS _ _ h11).pan ?_
 revert H; refine B2 fun r10 H e10 => ?_
 cases e10; cases Hr2
 cases H
 exact bT
 revert H; refine B2 fun y11 h12 H => ?_
 rcases y11 with y11 | pv11 <;> dsimp only at H
 refine Tc (aS _ _ h12).s ?_
 refine Z3 ?_
 exact Tm (()) (ij H)
 refine Tp (aS _ _ h12).pan ?_
 revert H; refine B2 fun r11 H e11 => ?_
 cases e11; cases Hr2
 cases H
 exact bT
 clear H; intro i hi; subst o2; have H := Hr2; clear Hr2; try dsimp only at H
 try dsimp only
 refine Z2 ?_
 refine Yo 1 rfl (aZ rfl hh (sc rfl) rfl (gI fX)) ?_
 refine Z4 ?_
 refine Tl (ι := Nat × Int × Int) (fun i => oA (lI AA) a0 a1 w1 i.1 i.2.1 i.2.2 = _) (fun i => i.1) (fun i => [(1, fI a1), (2, fEq (ptr q0)), (4, fEq (ptr q2)), (73, fSl aO a0.AU), (74, fI (a0.AU.length : Int)), (75, fI i.2.1)]) (fun i => [aD q0 3 [fI i.2.2], aD b1 124 [fI a0.Op, fI a0.N, eF a0.AU], aD q2 363 [fH 308 [fEq (ptr q0), bO tI w1, fEq (ptr q2)]]]) (AA, 0, z1) H ?_
 clear H; rintro ⟨k1, x4, x5⟩ H
 replace H : oA (lI AA) a0 a1 w1 k1 x4 x5 = _ := H
 try dsimp only
 obtain _ | k1 := k1
 rw [oA] at H; cases H
 rw [oA] at H
 refine Z3 ?_
 refine aJ ?_
 revert H; refine is (fun c14 H => ?_) fun c14 H => ?_
 refine Z3 ?_
 refine aJ ?_
 revert H; refine B2 fun y12 h13 H => ?_
 refine Z2 ?_
 refine Tn (dG rfl oC rfl) fun b2 => ?_
 refine dV (φs' := [fI y12.Op, fI y12.N, eF y12.AU]) a1W rfl rfl (has rfl) (has rfl) (aL (aG a1W) (aL (aG a1W) (aL (rD) cE))) (sz rfl) rfl rfl rfl ?_
 revert H; refine B5 fun z2 h14 H => ?_
 refine Z1 ?_
 refine dM ?_
 refine eH ?_
 revert H; refine bs fun y13 h15 H => ?_
 rcases y13 with y13 | pv12 <;> dsimp only at H
 refine zU a1W rfl rfl rfl (has rfl) (aM.cons (has rfl) (aM.cons (has rfl) aM.nil)) rfl (cb rfl) (ih_scope_exp_1 q0 q2 (⟨y12.Op, y12.N, y12.AU⟩ : AW) z2 x5 w1 (Sum.inl y13) h15).s rfl ?_
 revert H; refine B4 fun z3 h16 H => ?_
 refine Z3 ?_
 refine aH [0, 3, 1] (by decide) ?_
 exact Tm ((k1, z3, y13)) ⟨H, ls⟩
 refine zN a1W rfl (has rfl) (aM.cons (has rfl) (aM.cons (has rfl) aM.nil)) rfl (cb rfl) (ih_scope_exp_1 q0 q2 (⟨y12.Op, y12.N, y12.AU⟩ : AW) z2 x5 w1 (Sum.inr pv12) h15).pan rfl ?_
 refine Z4 ?_
 cases H
 exact bT
 refine Z5 ?_
 cases H
 refine pY ?_
 refine aH [0, 2] (by decide) ?_
 exact dI (.inr rfl) rfl rfl
def wO (AA : Nat) (a0 : AW) (a1 : Int) : Option (Unit ⊕ Value) :=
 (lI AA (⟨a0.Op, a0.N, a0.AU⟩ : AW) 1 0 a1).bind fun y1 =>
 match y1 with
 | Sum.inr pv1 => some (Sum.inr pv1)
 | Sum.inl y1 =>
 some (Sum.inl ())
theorem aCo (AA : Nat)  (a0 : AW) (a1 : Int) (r : Unit ⊕ Value) (H : wO AA a0 a1 = some r) : FnE Tryz.prog 301 [fSt aO a0, fI a1] [] r (fun r => eM []) (fun r => []) := by
 unfold wO at H
 refine qS Tryz.func301 rfl Tryz.ntmps301 rfl (fun β => ?_)
 refine Z1 ?_
 refine Tn (cV rfl hh cJ) fun b1 => ?_
 refine Tn (cV rfl (has rfl) (cY (aG a1W))) fun b2 => ?_
 refine Z2 ?_
 refine Tn (dG rfl rZ rfl) fun b3 => ?_
 refine bK (φs' := [fI 0]) a1W rfl rfl (has rfl) (has rfl) (aG a1W) (sz rfl) rfl rfl ?_
 refine Z2 ?_
 refine Tn (dG rfl aFO rfl) fun b4 => ?_
 refine Z2 ?_
 refine eH ?_
 refine bY (φ := bO tI a1) (v := ptr b2) [3] (gS aI.rfl) fz ?_
 refine bX ?_
 refine Yy (o_clo rfl (aM.cons hh (aM.cons hh (aM.cons hh aM.nil)))) ?_
 refine bK (φs' := [fH 308 [fEq (ptr b3), bO tI a1, fEq (ptr b4)]]) a1W rfl rfl (has rfl) (has rfl) (leaf_clo) (sz rfl) rfl rfl ?_
 refine Z4 ?_
 refine bI ?_
 revert H; refine bs fun y1 h1 H => ?_
 rcases y1 with y1 | pv1 <;> dsimp only at H
 refine zU a1W rfl rfl rfl (has rfl) (aM.cons (has rfl) (aM.cons (has rfl) aM.nil)) rfl (cb rfl) (aE2 AA b3 b4 (⟨a0.Op, a0.N, a0.AU⟩ : AW) 1 0 a1 (Sum.inl y1) h1).s rfl ?_
 refine Z1 ?_
 cases H
 refine pY ?_
 refine aH [] (by decide) ?_
 exact dI (.inr rfl) rfl rfl
 refine zN a1W rfl (has rfl) (aM.cons (has rfl) (aM.cons (has rfl) aM.nil)) rfl (cb rfl) (aE2 AA b3 b4 (⟨a0.Op, a0.N, a0.AU⟩ : AW) 1 0 a1 (Sum.inr pv1) h1).pan rfl ?_
 cases H
 exact bT
def lC (a0 : List Int) (a1 : Int) : Nat -> Int -> Option ((Unit) ⊕ (Int))
| 0, _ => none
| k + 1, x2 =>
 if x2 < (a0.length : Int) then
  (idx a0 x2).bind fun y1 =>
  if a1 = y1 then
   (some x2).bind fun r => some (Sum.inr r)
  else
   (chk (x2 + 1)).bind fun z1 =>
   lC a0 a1 k z1
 else
  some (Sum.inl ())
def xQ (AA : Nat) (a0 : List Int) (a1 : Int) : Option (Int) :=
 (lC a0 a1 AA 0).bind fun o => match o with
 | Sum.inr r => some r
 | Sum.inl _ =>
 some (-1)
theorem aFq (AA : Nat)  (a0 : List Int) (a1 : Int) (r : Int) (H : xQ AA a0 a1 = some r) : FnS Tryz.prog 311 [fSl tI a0, fI a1] [] (fI r) (fun _ => []) := by
 unfold xQ at H
 refine bS Tryz.func311 rfl Tryz.ntmps311 rfl (fun β => ?_)
 revert H; refine B3 fun o1 H Hr1 => ?_
 refine aP (ι := Unit) (fun i => o1 = Sum.inl ()) (fun i => []) (fun i => []) ?_ ?_
 refine Z6 ?_
 refine Tl (ι := Nat × Int) (fun i => lC a0 a1 i.1 i.2 = _) (fun i => i.1) (fun i => [(0, fSl tI a0), (1, fI a1), (7, fI (a0.length : Int)), (8, fI i.2)]) (fun i => []) (AA, 0) H ?_
 clear H; rintro ⟨k1, x2⟩ H
 replace H : lC a0 a1 k1 x2 = _ := H
 try dsimp only
 obtain _ | k1 := k1
 rw [lC] at H; cases H
 rw [lC] at H
 refine Z3 ?_
 refine aJ ?_
 revert H; refine is (fun c1 H => ?_) fun c1 H => ?_
 refine Z3 ?_
 refine aJ ?_
 revert H; refine B9 fun y1 h1 H => ?_
 revert H; refine I4 (fun c2 H => ?_) fun c2 H => ?_
 revert H; refine B11 fun r1 H e1 => ?_
 cases e1; cases Hr1
 cases H
 exact To
 revert H; refine B5 fun z1 h2 H => ?_
 refine Z3 ?_
 exact Tm ((k1, z1)) ⟨H, ls⟩
 refine Z6 ?_
 exact Tm (()) (ij H)
 clear H; intro i hi; subst o1; have H := Hr1; clear Hr1; try dsimp only at H
 try dsimp only
 refine Z4 ?_
 cases H
 exact To
def vL (AA : Nat) (a0 : List Int) (a1 : Int) : Option (Bool) :=
 (xQ AA a0 a1).bind fun y1 =>
 some (decide (0 <= y1))
theorem aG3 (AA : Nat)  (a0 : List Int) (a1 : Int) (r : Bool) (H : vL AA a0 a1 = some r) : FnS Tryz.prog 310 [fSl tI a0, fI a1] [] (aF r) (fun _ => []) := by
 unfold vL at H
 refine bS Tryz.func310 rfl Tryz.ntmps310 rfl (fun β => ?_)
 revert H; refine B6 fun y1 h1 H => ?_
 refine Tc (aFq _ _ _ _ h1) ?_
 refine Z4 ?_
 cases H
 exact To
open Go.SX Go.SW Go.Dt
def sG (a0 : Int) (w0 : AN) : Option (Unit ⊕ Value) :=
 if 0 <= a0 then
  (bN (decide (a0 <= (w0.AT.length : Int)))).bind fun y1 =>
  match y1 with
  | Sum.inr pv1 => some (Sum.inr pv1)
  | Sum.inl y1 =>
  some (Sum.inl ())
 else
  (bN false).bind fun y2 =>
  match y2 with
  | Sum.inr pv2 => some (Sum.inr pv2)
  | Sum.inl y2 =>
  some (Sum.inl ())
theorem yQ  (a0 : Int) (w0 : AN) (r : Unit ⊕ Value) (H : sG a0 w0 = some r) : FnE Tryz.prog 309 [fI a0, bO aA w0] [] r (fun r => eM []) (fun r => []) := by
 unfold sG at H
 refine qS Tryz.func309 rfl Tryz.ntmps309 rfl (fun β => ?_)
 revert H; refine I4 (fun c1 H => ?_) fun c1 H => ?_
 revert H; refine B6 fun y1 h1 H => ?_
 rcases y1 with y1 | pv1 <;> dsimp only at H
 refine Tc (aS _ _ h1).s ?_
 refine Z1 ?_
 cases H
 refine pY ?_
 exact dI (.inr rfl) rfl rfl
 refine Tp (aS _ _ h1).pan ?_
 cases H
 exact bT
 revert H; refine B6 fun y2 h2 H => ?_
 rcases y2 with y2 | pv2 <;> dsimp only at H
 refine Tc (aS _ _ h2).s ?_
 refine Z1 ?_
 cases H
 refine pY ?_
 exact dI (.inr rfl) rfl rfl
 refine Tp (aS _ _ h2).pan ?_
 cases H
 exact bT
def mP (a0 : AN) : Nat -> Int -> Option ((Unit) ⊕ (Unit ⊕ Value))
| 0, _ => none
| k + 1, x2 =>
 if x2 < (((⟨a0.AP, a0.AT, a0.AS⟩ : AN).AP).length : Int) then
  ((idx ((⟨a0.AP, a0.AT, a0.AS⟩ : AN).AP) x2).bind fun y4 =>
  (sG y4.At (⟨a0.AP, a0.AT, a0.AS⟩ : AN)).bind fun y5 =>
  match y5 with
  | Sum.inr pv4 => ((some (Sum.inr pv4)).bind fun r => some (Sum.inr r)).bind fun r => some (Sum.inr r)
  | Sum.inl y5 =>
  if 0 <= y4.Ap then
   (bN (decide (y4.Ap <= 3))).bind fun y6 =>
   match y6 with
   | Sum.inr pv5 => ((some (Sum.inr pv5)).bind fun r => some (Sum.inr r)).bind fun r => some (Sum.inr r)
   | Sum.inl y6 =>
   some (Sum.inl ())
  else
   (bN false).bind fun y7 =>
   match y7 with
   | Sum.inr pv6 => ((some (Sum.inr pv6)).bind fun r => some (Sum.inr r)).bind fun r => some (Sum.inr r)
   | Sum.inl y7 =>
   some (Sum.inl ())).bind fun o => match o with
  | Sum.inr r => some r
  | Sum.inl _ =>
  (chk (x2 + 1)).bind fun z1 =>
  mP a0 k z1
 else
  some (Sum.inl ())
def oD (a0 : AN) : Nat -> Int -> Option ((Unit) ⊕ (Unit ⊕ Value))
| 0, _ => none
| k + 1, x4 =>
 if x4 < (((⟨a0.AP, a0.AT, a0.AS⟩ : AN).AT).length : Int) then
  ((idx ((⟨a0.AP, a0.AT, a0.AS⟩ : AN).AT) x4).bind fun y8 =>
  if 0 <= y8.In then
   (bN (decide (y8.In <= x4))).bind fun y9 =>
   match y9 with
   | Sum.inr pv7 => ((some (Sum.inr pv7)).bind fun r => some (Sum.inr r)).bind fun r => some (Sum.inr r)
   | Sum.inl y9 =>
   some (Sum.inl ())
  else
   (bN false).bind fun y10 =>
   match y10 with
   | Sum.inr pv8 => ((some (Sum.inr pv8)).bind fun r => some (Sum.inr r)).bind fun r => some (Sum.inr r)
   | Sum.inl y10 =>
   some (Sum.inl ())).bind fun o => match o with
  | Sum.inr r => some r
  | Sum.inl _ =>
  (chk (x4 + 1)).bind fun z2 =>
  oD a0 k z2
 else
  some (Sum.inl ())
def jL (AA : Nat) (a0 : AN) (y11 : Al) : Nat -> Int -> (bD Int Bool) -> Option ((bD Int Bool) ⊕ ((bD Int Bool) ⊕ (Unit ⊕ Value)))
| 0, _, _ => none
| k + 1, x13, x14 =>
 if x13 < (y11.Af.length : Int) then
  (idx y11.Af x13).bind fun y15 =>
  (if 0 <= y15 then
   if y15 < (((⟨a0.AP, a0.AT, a0.AS⟩ : AN).AP).length : Int) then
    (idx ((⟨a0.AP, a0.AT, a0.AS⟩ : AN).AP) y15).bind fun y16 =>
    if y16.At = y11.At then
     (slc y11.Af 0 x13).bind fun y17 =>
     (vL AA y17 y15).bind fun y18 =>
     (bN (!y18)).bind fun y19 =>
     match y19 with
     | Sum.inr pv12 => (((some (Sum.inr pv12)).bind fun r => some (Sum.inr r)).bind fun r => some (Sum.inr r)).bind fun r => some (Sum.inr r)
     | Sum.inl y19 =>
     some (Sum.inl ())
    else
     (bN false).bind fun y20 =>
     match y20 with
     | Sum.inr pv13 => (((some (Sum.inr pv13)).bind fun r => some (Sum.inr r)).bind fun r => some (Sum.inr r)).bind fun r => some (Sum.inr r)
     | Sum.inl y20 =>
     some (Sum.inl ())
   else
    (bN false).bind fun y21 =>
    match y21 with
    | Sum.inr pv14 => (((some (Sum.inr pv14)).bind fun r => some (Sum.inr r)).bind fun r => some (Sum.inr r)).bind fun r => some (Sum.inr r)
    | Sum.inl y21 =>
    some (Sum.inl ())
  else
   (bN false).bind fun y22 =>
   match y22 with
   | Sum.inr pv15 => (((some (Sum.inr pv15)).bind fun r => some (Sum.inr r)).bind fun r => some (Sum.inr r)).bind fun r => some (Sum.inr r)
   | Sum.inl y22 =>
   some (Sum.inl ())).bind fun o => match o with
  | Sum.inr r => some r
  | Sum.inl _ =>
  (chk (x13 + 1)).bind fun z3 =>
  jL AA a0 y11 k z3 (bD.upd x14 y15 true)
 else
  some (Sum.inl x14)
def lN (AA : Nat) (a0 : AN) : Nat -> Int -> (bD Int Bool) -> Option ((bD Int Bool) ⊕ (Unit ⊕ Value))
| 0, _, _ => none
| k + 1, x8, x9 =>
 if x8 < (((⟨a0.AP, a0.AT, a0.AS⟩ : AN).AS).length : Int) then
  ((idx ((⟨a0.AP, a0.AT, a0.AS⟩ : AN).AS) x8).bind fun y11 =>
  (sG y11.At (⟨a0.AP, a0.AT, a0.AS⟩ : AN)).bind fun y12 =>
  match y12 with
  | Sum.inr pv9 => ((some (Sum.inr pv9)).bind fun r => some (Sum.inr r)).bind fun r => some (Sum.inr r)
  | Sum.inl y12 =>
  (if 0 < (y11.Af.length : Int) then
   (bN (decide ((y11.Af.length : Int) <= 3))).bind fun y13 =>
   match y13 with
   | Sum.inr pv10 => (((some (Sum.inr pv10)).bind fun r => some (Sum.inr r)).bind fun r => some (Sum.inr r)).bind fun r => some (Sum.inr r)
   | Sum.inl y13 =>
   some (Sum.inl ())
  else
   (bN false).bind fun y14 =>
   match y14 with
   | Sum.inr pv11 => (((some (Sum.inr pv11)).bind fun r => some (Sum.inr r)).bind fun r => some (Sum.inr r)).bind fun r => some (Sum.inr r)
   | Sum.inl y14 =>
   some (Sum.inl ())).bind fun o => match o with
  | Sum.inr r => some r
  | Sum.inl _ =>
  jL AA a0 y11 AA 0 x9).bind fun o => match o with
  | Sum.inr r => some r
  | Sum.inl x10 =>
  (chk (x8 + 1)).bind fun z4 =>
  lN AA a0 k z4 x10
 else
  some (Sum.inl x9)
def tF (AA : Nat) (a0 : AN) : Option (Unit ⊕ Value) :=
 (if (a0.AP.length : Int) <= 30 then
  if (a0.AT.length : Int) <= 30 then
   (bN (decide ((a0.AS.length : Int) <= 30))).bind fun y1 =>
   match y1 with
   | Sum.inr pv1 => (some (Sum.inr pv1)).bind fun r => some (Sum.inr r)
   | Sum.inl y1 =>
   some (Sum.inl ())
  else
   (bN false).bind fun y2 =>
   match y2 with
   | Sum.inr pv2 => (some (Sum.inr pv2)).bind fun r => some (Sum.inr r)
   | Sum.inl y2 =>
   some (Sum.inl ())
 else
  (bN false).bind fun y3 =>
  match y3 with
  | Sum.inr pv3 => (some (Sum.inr pv3)).bind fun r => some (Sum.inr r)
  | Sum.inl y3 =>
  some (Sum.inl ())).bind fun o => match o with
 | Sum.inr r => some r
 | Sum.inl _ =>
 (mP a0 AA 0).bind fun o => match o with
 | Sum.inr r => some r
 | Sum.inl _ =>
 (oD a0 AA 0).bind fun o => match o with
 | Sum.inr r => some r
 | Sum.inl _ =>
 (lN AA a0 AA 0 (bD.none : bD Int Bool)).bind fun o => match o with
 | Sum.inr r => some r
 | Sum.inl x5 =>
 (bN (decide ((x5.size : Int) = (((⟨a0.AP, a0.AT, a0.AS⟩ : AN).AP).length : Int)))).bind fun y23 =>
 match y23 with
 | Sum.inr pv16 => some (Sum.inr pv16)
 | Sum.inl y23 =>
 some (Sum.inl ())
theorem aEZ (AA : Nat)  (a0 : AN) (r : Unit ⊕ Value) (H : tF AA a0 = some r) : FnE Tryz.prog 302 [fSt aA a0] [] r (fun r => eM []) (fun r => []) := by
 unfold tF at H
 refine qS Tryz.func302 rfl Tryz.ntmps302 rfl (fun β => ?_)
 refine Z1 ?_
 refine Tn (cV rfl hh cJ) fun b1 => ?_
 revert H; refine B1 fun o1 H Hr1 => ?_
 refine aP (ι := Unit) (fun i => o1 = Sum.inl ()) (fun i => [(1, fEq (ptr b1))]) (fun i => [aD b1 130 [fSl aW a0.AP, fSl bB a0.AT, fSl bF a0.AS]]) ?_ ?_
 revert H; refine I6 (fun c1 H => ?_) fun c1 H => ?_
 revert H; refine I6 (fun c2 H => ?_) fun c2 H => ?_
 revert H; refine B5 fun y1 h1 H => ?_
 rcases y1 with y1 | pv1 <;> dsimp only at H
 refine Tc (aS _ _ h1).s ?_
 refine Z1 ?_
 exact Tm (()) (ij H)
 refine Tp (aS _ _ h1).pan ?_
 revert H; refine B1 fun r1 H e1 => ?_
 cases e1; cases Hr1
 cases H
 exact bT
 revert H; refine B5 fun y2 h2 H => ?_
 rcases y2 with y2 | pv2 <;> dsimp only at H
 refine Tc (aS _ _ h2).s ?_
 refine Z1 ?_
 exact Tm (()) (ij H)
 refine Tp (aS _ _ h2).pan ?_
 revert H; refine B1 fun r2 H e2 => ?_
 cases e2; cases Hr1
 cases H
 exact bT
 revert H; refine B11 fun y3 h3 H => ?_
 rcases y3 with y3 | pv3 <;> dsimp only at H
 refine Tc (aS _ _ h3).s ?_
 refine Z1 ?_
 exact Tm (()) (ij H)
 refine Tp (aS _ _ h3).pan ?_
 revert H; refine B1 fun r3 H e3 => ?_
 cases e3; cases Hr1
 cases H
 exact bT
 clear H; intro i hi; subst o1; have H := Hr1; clear Hr1; try dsimp only at H
 try dsimp only
 refine Z1 ?_
 refine bY (φ := bO aA (⟨a0.AP, a0.AT, a0.AS⟩ : AN)) (v := ptr b1) [1] (gS aI.rfl) fz ?_
 refine bX ?_
 refine Yy (o_clo rfl (aM.cons hh aM.nil)) ?_
 revert H; refine B2 fun o2 H Hr2 => ?_
 refine aP (ι := Unit) (fun i => o2 = Sum.inl ()) (fun i => [(1, bO aA (⟨a0.AP, a0.AT, a0.AS⟩ : AN)), (2, fH 309 [bO aA (⟨a0.AP, a0.AT, a0.AS⟩ : AN)])]) (fun i => []) ?_ ?_
 refine Z7 ?_
 refine Tl (ι := Nat × Int) (fun i => mP a0 i.1 i.2 = _) (fun i => i.1) (fun i => [(1, bO aA (⟨a0.AP, a0.AT, a0.AS⟩ : AN)), (2, fH 309 [bO aA (⟨a0.AP, a0.AT, a0.AS⟩ : AN)]), (31, fSl aW ((⟨a0.AP, a0.AT, a0.AS⟩ : AN).AP)), (32, fI (((⟨a0.AP, a0.AT, a0.AS⟩ : AN).AP).length : Int)), (33, fI i.2)]) (fun i => []) (AA, 0) H ?_
 clear H; rintro ⟨k1, x2⟩ H
 replace H : mP a0 k1 x2 = _ := H
 try dsimp only
 obtain _ | k1 := k1
 rw [mP] at H; cases H
 rw [mP] at H
 refine Z3 ?_
 refine aJ ?_
 revert H; refine is (fun c3 H => ?_) fun c3 H => ?_
 revert H; refine B3 fun o3 H Hr3 => ?_
 refine aP (ι := Unit) (fun i => o3 = Sum.inl ()) (fun i => [(1, bO aA (⟨a0.AP, a0.AT, a0.AS⟩ : AN)), (2, fH 309 [bO aA (⟨a0.AP, a0.AT, a0.AS⟩ : AN)]), (31, fSl aW ((⟨a0.AP, a0.AT, a0.AS⟩ : AN).AP)), (32, fI (((⟨a0.AP, a0.AT, a0.AS⟩ : AN).AP).length : Int)), (33, fI x2)]) (fun i => []) ?_ ?_
 revert H; refine B2 fun y4 h4 H => ?_
 refine Z2 ?_
 refine Tn (dG rfl aGr rfl) fun b2 => ?_
 refine dV (φs' := [fI y4.At, fI y4.Ap]) a1W rfl rfl (has rfl) (has rfl) (aL (aG a1W) (aL (aG a1W) cE)) (sz rfl) rfl rfl rfl ?_
 revert H; refine B5 fun y5 h5 H => ?_
 rcases y5 with y5 | pv4 <;> dsimp only at H
 refine zU a1W rfl rfl rfl (has rfl) (aM.cons (has rfl) aM.nil) rfl (cb rfl) (yQ y4.At (⟨a0.AP, a0.AT, a0.AS⟩ : AN) (Sum.inl y5) h5).s rfl ?_
 revert H; refine I6 (fun c4 H => ?_) fun c4 H => ?_
 revert H; refine B4 fun y6 h6 H => ?_
 rcases y6 with y6 | pv5 <;> dsimp only at H
 refine Tc (aS _ _ h6).s ?_
 refine Z3 ?_
 refine aH [] (by decide) ?_
 exact Tm (()) (ij H)
 refine Tp (aS _ _ h6).pan ?_
 revert H; refine B2 fun r4 H e4 => ?_
 cases e4; cases Hr3
 revert H; refine B3 fun r5 H e5 => ?_
 cases e5; cases Hr2
 cases H
 exact bT
 revert H; refine B4 fun y7 h7 H => ?_
 rcases y7 with y7 | pv6 <;> dsimp only at H
 refine Tc (aS _ _ h7).s ?_
 refine Z3 ?_
 refine aH [] (by decide) ?_
 exact Tm (()) (ij H)
 refine Tp (aS _ _ h7).pan ?_
 revert H; refine B2 fun r6 H e6 => ?_
 cases e6; cases Hr3
 revert H; refine B3 fun r7 H e7 => ?_
 cases e7; cases Hr2
 cases H
 exact bT
 refine zN a1W rfl (has rfl) (aM.cons (has rfl) aM.nil) rfl (cb rfl) (yQ y4.At (⟨a0.AP, a0.AT, a0.AS⟩ : AN) (Sum.inr pv4) h5).pan rfl ?_
 revert H; refine B3 fun r8 H e8 => ?_
 cases e8; cases Hr3
 revert H; refine B3 fun r9 H e9 => ?_
 cases e9; cases Hr2
 cases H
 exact bT
 clear H; intro i hi; subst o3; have H := Hr3; clear Hr3; try dsimp only at H
 try dsimp only
 revert H; refine B1 fun z1 h8 H => ?_
 refine Z3 ?_
 exact Tm ((k1, z1)) ⟨H, ls⟩
 refine Z6 ?_
 exact Tm (()) (ij H)
 clear H; intro i hi; subst o2; have H := Hr2; clear Hr2; try dsimp only at H
 try dsimp only
 revert H; refine bs fun o4 H Hr4 => ?_
 refine aP (ι := Unit) (fun i => o4 = Sum.inl ()) (fun i => [(1, bO aA (⟨a0.AP, a0.AT, a0.AS⟩ : AN)), (2, fH 309 [bO aA (⟨a0.AP, a0.AT, a0.AS⟩ : AN)])]) (fun i => []) ?_ ?_
 refine Z7 ?_
 refine Tl (ι := Nat × Int) (fun i => oD a0 i.1 i.2 = _) (fun i => i.1) (fun i => [(1, bO aA (⟨a0.AP, a0.AT, a0.AS⟩ : AN)), (2, fH 309 [bO aA (⟨a0.AP, a0.AT, a0.AS⟩ : AN)]), (52, fSl bB ((⟨a0.AP, a0.AT, a0.AS⟩ : AN).AT)), (53, fI (((⟨a0.AP, a0.AT, a0.AS⟩ : AN).AT).length : Int)), (54, fI i.2)]) (fun i => []) (AA, 0) H ?_
 clear H; rintro ⟨k2, x4⟩ H
 replace H : oD a0 k2 x4 = _ := H
 try dsimp only
 obtain _ | k2 := k2
 rw [oD] at H; cases H
 rw [oD] at H
 refine Z3 ?_
 refine aJ ?_
 revert H; refine is (fun c5 H => ?_) fun c5 H => ?_
 revert H; refine B3 fun o5 H Hr5 => ?_
 refine aP (ι := Unit) (fun i => o5 = Sum.inl ()) (fun i => [(1, bO aA (⟨a0.AP, a0.AT, a0.AS⟩ : AN)), (2, fH 309 [bO aA (⟨a0.AP, a0.AT, a0.AS⟩ : AN)]), (52, fSl bB ((⟨a0.AP, a0.AT, a0.AS⟩ : AN).AT)), (53, fI (((⟨a0.AP, a0.AT, a0.AS⟩ : AN).AT).length : Int)), (54, fI x4)]) (fun i => []) ?_ ?_
 revert H; refine B3 fun y8 h9 H => ?_
 refine Z2 ?_
 refine Tn (dG rfl aBh rfl) fun b3 => ?_
 refine Z1 ?_
 refine dV (φs' := [fI y8.In, fI y8.Ab]) a1W rfl rfl (has rfl) (has rfl) (aL (aG a1W) (aL (aG a1W) cE)) (sz rfl) rfl rfl rfl ?_
 revert H; refine I6 (fun c6 H => ?_) fun c6 H => ?_
 revert H; refine B5 fun y9 h10 H => ?_
 rcases y9 with y9 | pv7 <;> dsimp only at H
 refine Tc (aS _ _ h10).s ?_
 refine Z3 ?_
 refine aH [] (by decide) ?_
 exact Tm (()) (ij H)
 refine Tp (aS _ _ h10).pan ?_
 revert H; refine B2 fun r10 H e10 => ?_
 cases e10; cases Hr5
 revert H; refine B3 fun r11 H e11 => ?_
 cases e11; cases Hr4
 cases H
 exact bT
 revert H; refine B5 fun y10 h11 H => ?_
 rcases y10 with y10 | pv8 <;> dsimp only at H
 refine Tc (aS _ _ h11).s ?_
 refine Z3 ?_
 refine aH [] (by decide) ?_
 exact Tm (()) (ij H)
 refine Tp (aS _ _ h11).pan ?_
 revert H; refine B2 fun r12 H e12 => ?_
 cases e12; cases Hr5
 revert H; refine B3 fun r13 H e13 => ?_
 cases e13; cases Hr4
 cases H
 exact bT
 clear H; intro i hi; subst o5; have H := Hr5; clear Hr5; try dsimp only at H
 try dsimp only
 revert H; refine B1 fun z2 h12 H => ?_
 refine Z3 ?_
 exact Tm ((k2, z2)) ⟨H, ls⟩
 refine Z6 ?_
 exact Tm (()) (ij H)
 clear H; intro i hi; subst o4; have H := Hr4; clear Hr4; try dsimp only at H
 try dsimp only
 refine Z1 ?_
 refine Tn (aD2 (fun y => aF y) kInt rfl) fun b4 => ?_
 revert H; refine B2 fun o6 H Hr6 => ?_
 refine aP (ι := bD Int Bool) (fun i => o6 = Sum.inl i) (fun i => [(1, bO aA (⟨a0.AP, a0.AT, a0.AS⟩ : AN)), (7, fEq (.map (some b4)))]) (fun i => [jH kInt (fun y => aF y) b4 i]) ?_ ?_
 refine Z7 ?_
 refine Tl (ι := Nat × Int × bD Int Bool) (fun i => lN AA a0 i.1 i.2.1 i.2.2 = _) (fun i => i.1) (fun i => [(1, bO aA (⟨a0.AP, a0.AT, a0.AS⟩ : AN)), (2, fH 309 [bO aA (⟨a0.AP, a0.AT, a0.AS⟩ : AN)]), (7, fEq (.map (some b4))), (72, fSl bF ((⟨a0.AP, a0.AT, a0.AS⟩ : AN).AS)), (73, fI (((⟨a0.AP, a0.AT, a0.AS⟩ : AN).AS).length : Int)), (74, fI i.2.1)]) (fun i => [jH kInt (fun y => aF y) b4 i.2.2]) (AA, 0, (bD.none : bD Int Bool)) H ?_
 clear H; rintro ⟨k3, x8, x9⟩ H
 replace H : lN AA a0 k3 x8 x9 = _ := H
 try dsimp only
 obtain _ | k3 := k3
 rw [lN] at H; cases H
 rw [lN] at H
 refine Z3 ?_
 refine aJ ?_
 revert H; refine is (fun c7 H => ?_) fun c7 H => ?_
 revert H; refine B3 fun o7 H Hr7 => ?_
 refine aP (ι := bD Int Bool) (fun i => o7 = Sum.inl i) (fun i => [(1, bO aA (⟨a0.AP, a0.AT, a0.AS⟩ : AN)), (2, fH 309 [bO aA (⟨a0.AP, a0.AT, a0.AS⟩ : AN)]), (7, fEq (.map (some b4))), (72, fSl bF ((⟨a0.AP, a0.AT, a0.AS⟩ : AN).AS)), (73, fI (((⟨a0.AP, a0.AT, a0.AS⟩ : AN).AS).length : Int)), (74, fI x8)]) (fun i => [jH kInt (fun y => aF y) b4 i]) ?_ ?_
 revert H; refine B2 fun y11 h13 H => ?_
 refine Z2 ?_
 refine Tn (dG rfl sT rfl) fun b5 => ?_
 refine dV (φs' := [fI y11.At, fSl tI y11.Af, fI y11.Ab]) a1W rfl rfl (has rfl) (has rfl) (aL (aG a1W) (aL (aY) (aL (aG a1W) cE))) (sz rfl) rfl rfl rfl ?_
 revert H; refine B5 fun y12 h14 H => ?_
 rcases y12 with y12 | pv9 <;> dsimp only at H
 refine zU a1W rfl rfl rfl (has rfl) (aM.cons (has rfl) aM.nil) rfl (cb rfl) (yQ y11.At (⟨a0.AP, a0.AT, a0.AS⟩ : AN) (Sum.inl y12) h14).s rfl ?_
 revert H; refine B1 fun o8 H Hr8 => ?_
 refine aP (ι := Unit) (fun i => o8 = Sum.inl ()) (fun i => [(1, bO aA (⟨a0.AP, a0.AT, a0.AS⟩ : AN)), (2, fH 309 [bO aA (⟨a0.AP, a0.AT, a0.AS⟩ : AN)]), (7, fEq (.map (some b4))), (72, fSl bF ((⟨a0.AP, a0.AT, a0.AS⟩ : AN).AS)), (73, fI (((⟨a0.AP, a0.AT, a0.AS⟩ : AN).AS).length : Int)), (74, fI x8), (9, fEq (ptr b5))]) (fun i => [aD b5 134 [fI y11.At, fSl tI y11.Af, fI y11.Ab], jH kInt (fun y => aF y) b4 x9]) ?_ ?_
 revert H; refine I6 (fun c8 H => ?_) fun c8 H => ?_
 revert H; refine B5 fun y13 h15 H => ?_
 rcases y13 with y13 | pv10 <;> dsimp only at H
 refine Tc (aS _ _ h15).s ?_
 refine Z1 ?_
 exact Tm (()) (ij H)
 refine Tp (aS _ _ h15).pan ?_
 revert H; refine B1 fun r14 H e14 => ?_
 cases e14; cases Hr8
 revert H; refine B2 fun r15 H e15 => ?_
 cases e15; cases Hr7
 revert H; refine B3 fun r16 H e16 => ?_
 cases e16; cases Hr6
 cases H
 exact bT
 revert H; refine B5 fun y14 h16 H => ?_
 rcases y14 with y14 | pv11 <;> dsimp only at H
 refine Tc (aS _ _ h16).s ?_
 refine Z1 ?_
 exact Tm (()) (ij H)
 refine Tp (aS _ _ h16).pan ?_
 revert H; refine B1 fun r17 H e17 => ?_
 cases e17; cases Hr8
 revert H; refine B2 fun r18 H e18 => ?_
 cases e18; cases Hr7
 revert H; refine B3 fun r19 H e19 => ?_
 cases e19; cases Hr6
 cases H
 exact bT
 clear H; intro i hi; subst o8; have H := Hr8; clear Hr8; try dsimp only at H
 try dsimp only
 refine Z7 ?_
 refine Tl (ι := Nat × Int × bD Int Bool) (fun i => jL AA a0 y11 i.1 i.2.1 i.2.2 = _) (fun i => i.1) (fun i => [(1, bO aA (⟨a0.AP, a0.AT, a0.AS⟩ : AN)), (2, fH 309 [bO aA (⟨a0.AP, a0.AT, a0.AS⟩ : AN)]), (7, fEq (.map (some b4))), (72, fSl bF ((⟨a0.AP, a0.AT, a0.AS⟩ : AN).AS)), (73, fI (((⟨a0.AP, a0.AT, a0.AS⟩ : AN).AS).length : Int)), (74, fI x8), (9, fEq (ptr b5)), (94, fSl tI y11.Af), (95, fI (y11.Af.length : Int)), (96, fI i.2.1)]) (fun i => [aD b5 134 [fI y11.At, fSl tI y11.Af, fI y11.Ab], jH kInt (fun y => aF y) b4 i.2.2]) (AA, 0, x9) H ?_
 clear H; rintro ⟨k4, x13, x14⟩ H
 replace H : jL AA a0 y11 k4 x13 x14 = _ := H
 try dsimp only
 obtain _ | k4 := k4
 rw [jL] at H; cases H
 rw [jL] at H
 refine Z3 ?_
 refine aJ ?_
 revert H; refine is (fun c9 H => ?_) fun c9 H => ?_
 refine Z3 ?_
 refine aJ ?_
 revert H; refine B3 fun y15 h17 H => ?_
 revert H; refine B5 fun o9 H Hr9 => ?_
 refine aP (ι := Unit) (fun i => o9 = Sum.inl ()) (fun i => [(1, bO aA (⟨a0.AP, a0.AT, a0.AS⟩ : AN)), (2, fH 309 [bO aA (⟨a0.AP, a0.AT, a0.AS⟩ : AN)]), (7, fEq (.map (some b4))), (72, fSl bF ((⟨a0.AP, a0.AT, a0.AS⟩ : AN).AS)), (73, fI (((⟨a0.AP, a0.AT, a0.AS⟩ : AN).AS).length : Int)), (74, fI x8), (9, fEq (ptr b5)), (94, fSl tI y11.Af), (95, fI (y11.Af.length : Int)), (96, fI x13), (11, fI y15)]) (fun i => [aD b5 134 [fI y11.At, fSl tI y11.Af, fI y11.Ab], jH kInt (fun y => aF y) b4 x14]) ?_ ?_
 revert H; refine is (fun c10 H => ?_) fun c10 H => ?_
 revert H; refine is (fun c11 H => ?_) fun c11 H => ?_
 revert H; refine bs fun y16 h18 H => ?_
 revert H; refine is (fun c12 H => ?_) fun c12 H => ?_
 revert H; refine bs fun y17 h19 H => ?_
 revert H; refine bs fun y18 h20 H => ?_
 apply bL (ods := [_, _, _, _, _, _, _, _, _, _, _, _, _, _, _, _, _, _, _, _, _, _, _, _, _, _, _, _, _]) 29 0 2 bM rfl rfl rfl
 refine ND ?_
 refine M8 ?_
 intros
 refine M8 ?_
 intros
 refine M8 ?_
 intros
 refine Mg c12 (o_slice (t := tI) rfl hh aHP (aHf hh) (el rfl) h19) fun _ => ?_
 refine M1 ?_
 intros
 refine Nc (aG3 _ _ _ _ h20) fun _ => ?_
 refine M2 ?_
 intros
 revert H; refine B1 fun y19 h21 H => ?_
 rcases y19 with y19 | pv12 <;> dsimp only at H
 refine Tc (aS _ _ h21).s ?_
 refine Z1 ?_
 exact Tm (()) (ij H)
 refine Tp (aS _ _ h21).pan ?_
 revert H; refine B1 fun r20 H e20 => ?_
 cases e20; cases Hr9
 revert H; refine B6 fun r21 H e21 => ?_
 cases e21; cases Hr7
 revert H; refine B3 fun r22 H e22 => ?_
 cases e22; cases Hr6
 cases H
 exact bT
 exact fk
 kernel_rfl
 apply bL (ods := [_, _, _, _, _, _, _, _, _, _, _, _, _, _, _, _, _, _, _, _, _, _, _, _, _, _, _, _, _]) 29 0 2 bM rfl rfl rfl
 refine ND ?_
 refine M8 ?_
 intros
 refine M8 ?_
 intros
 refine M8 ?_
 intros
 refine M5 ?_
 intros
 revert H; refine B1 fun y20 h22 H => ?_
 rcases y20 with y20 | pv13 <;> dsimp only at H
 refine Tc (aS _ _ h22).s ?_
 refine Z1 ?_
 exact Tm (()) (ij H)
 refine Tp (aS _ _ h22).pan ?_
 revert H; refine B1 fun r23 H e23 => ?_
 cases e23; cases Hr9
 revert H; refine B6 fun r24 H e24 => ?_
 cases e24; cases Hr7
 revert H; refine B3 fun r25 H e25 => ?_
 cases e25; cases Hr6
 cases H
 exact bT
 exact fk
 kernel_rfl
 apply bL (ods := [_, _, _, _, _, _, _, _, _, _, _, _, _, _, _, _, _, _, _, _, _, _, _, _, _, _, _, _, _]) 29 0 2 bM rfl rfl rfl
 refine ND ?_
 refine M8 ?_
 intros
 refine M8 ?_
 intros
 refine M8 ?_
 intros
 refine M5 ?_
 intros
 revert H; refine B1 fun y21 h23 H => ?_
 rcases y21 with y21 | pv14 <;> dsimp only at H
 refine Tc (aS _ _ h23).s ?_
 refine Z1 ?_
 exact Tm (()) (ij H)
 refine Tp (aS _ _ h23).pan ?_
 revert H; refine B1 fun r26 H e26 => ?_
 cases e26; cases Hr9
 revert H; refine B6 fun r27 H e27 => ?_
 cases e27; cases Hr7
 revert H; refine B3 fun r28 H e28 => ?_
 cases e28; cases Hr6
 cases H
 exact bT
 exact fk
 kernel_rfl
 apply bL (ods := [_, _, _, _, _, _, _, _, _, _, _, _, _, _, _, _, _, _, _, _, _, _, _, _, _, _, _, _, _]) 29 0 2 bM rfl rfl rfl
 refine ND ?_
 refine M8 ?_
 intros
 refine M8 ?_
 intros
 refine M8 ?_
 intros
 refine M5 ?_
 intros
 revert H; refine B1 fun y22 h24 H => ?_
 rcases y22 with y22 | pv15 <;> dsimp only at H
 refine Tc (aS _ _ h24).s ?_
 refine Z1 ?_
 exact Tm (()) (ij H)
 refine Tp (aS _ _ h24).pan ?_
 revert H; refine B1 fun r29 H e29 => ?_
 cases e29; cases Hr9
 revert H; refine B6 fun r30 H e30 => ?_
 cases e30; cases Hr7
 revert H; refine B3 fun r31 H e31 => ?_
 cases e31; cases Hr6
 cases H
 exact bT
 exact fk
 kernel_rfl
 clear H; intro i hi; subst o9; have H := Hr9; clear Hr9; try dsimp only at H
 try dsimp only
 refine Z3 ?_
 refine bI ?_
 refine kH (k := y15) (y := true) a1W (.inl rfl) rfl (has rfl) (has rfl) rfl (has rfl) rfl aEu ?_
 revert H; refine B4 fun z3 h25 H => ?_
 refine Z3 ?_
 refine aH [1, 0] (by decide) ?_
 exact Tm ((k4, z3, bD.upd x14 y15 true)) ⟨H, ls⟩
 refine Z7 ?_
 refine aH [1] (by decide) ?_
 exact Tm (x14) (ij H)
 refine zN a1W rfl (has rfl) (aM.cons (has rfl) aM.nil) rfl (cb rfl) (yQ y11.At (⟨a0.AP, a0.AT, a0.AS⟩ : AN) (Sum.inr pv9) h14).pan rfl ?_
 revert H; refine B3 fun r32 H e32 => ?_
 cases e32; cases Hr7
 revert H; refine B3 fun r33 H e33 => ?_
 cases e33; cases Hr6
 cases H
 exact bT
 clear H; intro x10 hi; subst o7; have H := Hr7; clear Hr7; try dsimp only at H
 try dsimp only
 revert H; refine B1 fun z4 h26 H => ?_
 refine Z3 ?_
 exact Tm ((k3, z4, x10)) ⟨H, ls⟩
 refine Z6 ?_
 exact Tm (x9) (ij H)
 clear H; intro x5 hi; subst o6; have H := Hr6; clear Hr6; try dsimp only at H
 try dsimp only
 refine Z2 ?_
 refine Yo 0 rfl (o_lenMO rfl hh aEu) ?_
 revert H; refine B4 fun y23 h27 H => ?_
 rcases y23 with y23 | pv16 <;> dsimp only at H
 refine Tc (aS _ _ h27).s ?_
 refine Z1 ?_
 cases H
 refine pY ?_
 refine aH [] (by decide) ?_
 exact dI (.inr rfl) rfl rfl
 refine Tp (aS _ _ h27).pan ?_
 cases H
 exact bT
def sI (a0 : AN) : Option (Int) :=
 (chk ((a0.AP.length : Int) + (a0.AT.length : Int))).bind fun z1 =>
 some z1
theorem aFP  (a0 : AN) (r : Int) (H : sI a0 = some r) : FnS Tryz.prog 303 [fSt aA a0] [] (fI r) (fun _ => []) := by
 unfold sI at H
 refine bS Tryz.func303 rfl Tryz.ntmps303 rfl (fun β => ?_)
 refine Z1 ?_
 refine Tn (cV rfl hh cJ) fun b1 => ?_
 revert H; refine B9 fun z1 h1 H => ?_
 refine Z4 ?_
 cases H
 refine aH [] (by decide) ?_
 exact To
def nU (a0 : AN) (a1 : Al) : Nat -> Int -> Int -> Option (Int)
| 0, _, _ => none
| k + 1, x4, x5 =>
 if x5 < (a1.Af.length : Int) then
  (idx a1.Af x5).bind fun y1 =>
  (idx a0.AP y1).bind fun y2 =>
  (chk (x4 + y2.Ap)).bind fun z1 =>
  (chk (x5 + 1)).bind fun z2 =>
  nU a0 a1 k z1 z2
 else
  some x4
def xL (AA : Nat) (a0 : AN) (a1 : Al) : Option (Int) :=
 (nU a0 a1 AA 0 0).bind fun x1 =>
 some x1
theorem aHa (AA : Nat)  (a0 : AN) (a1 : Al) (r : Int) (H : xL AA a0 a1 = some r) : FnS Tryz.prog 304 [fSt aA a0, fSt bF a1] [] (fI r) (fun _ => []) := by
 unfold xL at H
 refine bS Tryz.func304 rfl Tryz.ntmps304 rfl (fun β => ?_)
 refine Z1 ?_
 refine Tn (cV rfl hh cJ) fun b1 => ?_
 refine Tn (cV rfl hh cJ) fun b2 => ?_
 revert H; refine B5 fun o1 H Hr1 => ?_
 refine aP (ι := Int) (fun i => o1 = i) (fun i => [(5, fI i)]) (fun i => [aD b2 134 [fI a1.At, fSl tI a1.Af, fI a1.Ab], aD b1 130 [fSl aW a0.AP, fSl bB a0.AT, fSl bF a0.AS]]) ?_ ?_
 refine Z7 ?_
 refine Tl (ι := Nat × Int × Int) (fun i => nU a0 a1 i.1 i.2.1 i.2.2 = _) (fun i => i.1) (fun i => [(2, fEq (ptr b1)), (5, fI i.2.1), (9, fSl tI a1.Af), (10, fI (a1.Af.length : Int)), (11, fI i.2.2)]) (fun i => [aD b2 134 [fI a1.At, fSl tI a1.Af, fI a1.Ab], aD b1 130 [fSl aW a0.AP, fSl bB a0.AT, fSl bF a0.AS]]) (AA, 0, 0) H ?_
 clear H; rintro ⟨k1, x4, x5⟩ H
 replace H : nU a0 a1 k1 x4 x5 = _ := H
 try dsimp only
 obtain _ | k1 := k1
 rw [nU] at H; cases H
 rw [nU] at H
 refine Z3 ?_
 refine aJ ?_
 revert H; refine is (fun c1 H => ?_) fun c1 H => ?_
 refine Z3 ?_
 refine aJ ?_
 revert H; refine B2 fun y1 h1 H => ?_
 revert H; refine B9 fun y2 h2 H => ?_
 revert H; refine B3 fun z1 h3 H => ?_
 revert H; refine B6 fun z2 h4 H => ?_
 refine Z3 ?_
 exact Tm ((k1, z1, z2)) ⟨H, ls⟩
 refine Z6 ?_
 exact Tm (x4) (ij H)
 clear H; intro x1 hi; subst o1; have H := Hr1; clear Hr1; try dsimp only at H
 try dsimp only
 refine Z5 ?_
 cases H
 refine aH [] (by decide) ?_
 exact To
end Go.Proofs.YtpgkejpnhnoipaaGreat
