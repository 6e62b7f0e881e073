/- Parts of the proof: lemmas, and the steps through the program. -/
import Derived.Test.YtmnbfgeljmhekaaGreatKw0
set_option linter.unusedVariables false
set_option linter.unusedSimpArgs false
namespace Go.SW
open Go.SX
def YdX (P : Program) (l : Nat) (vs : List Value) (m : Mem) (L : Heap) (post : Mem → Heap → Prop) : Prop :=
 ∀ w, St ⟨w, m, L.map Prod.fst⟩ m L w → ∃ r : Loop, w.heap[l]? = some (.loop r) ∧ vs.toArray.size = r.params.size ∧
  RoundIn (fw none) 0 P l r.fn (uM r vs.toArray) r.assign r.body w fun e w' =>
   e = .returned (.bool true) ∧ ∃ m' L', St ⟨w, m, L.map Prod.fst⟩ m' L' w' ∧ post m' L'
def jU (P : Program) {α σ : Type} (ρ : α → List Fact) (Y : α → σ → Option σ) (J : σ → Tk) : Fact :=
 ⟨fun m v => ∃ l, v = oA l ∧ ∀ m', Mem.le m m' → ∀ x t t' vs H, Y x t = some t' → aX (ρ x) m' vs → (J t).p m' H → YdX P l vs m' H (fun m'' H' => (J t').p m'' H'),
  fun h ⟨l, h1, h2⟩ => ⟨l, h1, fun m' hle => h2 m' (Mem.le_trans h hle)⟩⟩
section
variable {P : Program} {β : bN} {n : Nat} {ds : List Deferred} {Γ : Ctx} {Δ R : List Tk} {r : Option Nat} {Q Q' : Exit → Act → World → Prop} {F : Act → World → Prop} {ops : Array Oper} {o : Oper} {aU : List Oper}
theorem aHH {α σ : Type} {ρ : α → List Fact} {Y : α → σ → Option σ} {J : σ → Tk} : dW (jU P ρ Y J) := fun _ _ ⟨_, h, _⟩ => by rw [h]; trivial
theorem zO {α σ : Type} {ρ : α → List Fact} {Y : α → σ → Option σ} {J : σ → Tk} {g : Operand} {args : List Operand} {ts : Array TypeId} {d : Nat} (x : α) {s s' : σ} (hw : bU ops Γ o) (ho : o.op = .call { callee := .value g, args := args.toArray, argTypes := ts }) (hd : o.dst = some d)
  (hn : Nat.ble (d + 1) n = true) (hg : Has Γ g (jU P ρ Y J)) (hargs : aK Γ args (ρ x)) (hY : Y x s = some s')
  (k : T β n ds ((d, aI true) :: Γ) (J s' :: Δ) (wpListIn (fw r) 0 P ops Q aU)) : T β n ds Γ (J s :: Δ) (wpListIn (fw r) 0 P ops Q (o :: aU)) := fun m L a w hF hL hS => by
 obtain ⟨H, R, rfl, hJ, hR⟩ := hL
 obtain ⟨l, hge, hy⟩ := hF.has hg
 simp only [wpListIn, hw.wanted hF, if_true]
 refine ⟨fun _ _ => trivial, ?_⟩
 have hnd : fU o.op = false := by rw [ho]; rfl
 have h3 : o.semAt (fw r).round a.eval = execOp a.eval o := Oper.semAt_eq _ _ _ fun c hc => by rw [hc] at hnd; cases hnd
 obtain ⟨rec, hr, hsz, hround⟩ := hy m (Mem.le_refl _) x s s' (args.map a.eval) H hY (hargs.all hF) hJ w hS.start
 have hrun : (execOp a.eval o).run P w = .ok (.round l rec.fn (uM rec (args.map a.eval).toArray) rec.assign rec.body) w := by
  have h3 := run_yield (P := P) hr hsz
  have h4 : args.toArray.map a.eval = (args.map a.eval).toArray := by simp
  simp [execOp, ho, resolve, hge, oA, Deferred.ofValue, invoke, Sem.run_bind, Sem.run, pure, uM]
  simpa using h3
 rw [h3, hrun, Oper.uponIn_round]
 refine ⟨(fun h => by cases h), ?_⟩
 have hround' : RoundIn (fw r) 0 P l rec.fn (uM rec (args.map a.eval).toArray) rec.assign rec.body w _ := hround
 refine hround'.mono fun e w' ⟨he, m', L', hS', hp⟩ => ?_
 subst he
 show wpListIn (fw r) 0 P ops Q aU (a.put o.dst (.bool true)) w'
 rw [hd]
 exact k m' _ _ _ ((hF.mono hS'.mle).put (Nat.le_of_ble_eq_true hn) rfl) ⟨L', R, rfl, hp, hR.mono hS'.mle⟩ (back hS hS')
def sL : List Nat → List Fact → Ctx → Ctx
 | p :: ps, φ :: φs, Γ => sL ps φs ((p, φ) :: Γ)
 | _, _, Γ => Γ
theorem aDm {m : Mem} : ∀ {ps : List Nat} {φs : List Fact} {vs : List Value} {t : Array Value} {Γ : Ctx}, (∀ p ∈ ps, p < t.size) → ps.length = φs.length → aX φs m vs → (∀ s φ, lk Γ s = some φ → ∃ v, t[s]? = some v ∧ φ.p m v) →
  ∀ s φ, lk (sL ps φs Γ) s = some φ → ∃ v, ((ps.zip vs).foldl (fun tmps (x : Nat × Value) => tmps.setIfInBounds x.1 x.2) t)[s]? = some v ∧ φ.p m v
 | [], [], _, t, Γ, _, _, hv, hg => fun s φ h => by
  have : (_ : List Value) = [] := hv
  subst this; exact hg s φ h
 | p :: ps, ψ :: φs, _, t, Γ, hp, hl, ⟨v, vs, e, h1, h2⟩, hg => fun s φ h => by
  subst e
  simp only [List.zip_cons_cons, List.foldl_cons]
  refine aDm (t := t.setIfInBounds p v) (fun q hq => by simp; exact hp q (.tail _ hq)) (by simpa using hl) h2 (fun u χ hu => ?_) s φ h
  rcases oO hu with ⟨rfl, rfl⟩ | ⟨hne, hu⟩
  ·exact ⟨v, by simp [hp p (.head _)], h1⟩
  ·obtain ⟨z, h3, h4⟩ := hg u χ hu
   exact ⟨z, by rw [Array.getElem?_setIfInBounds_ne hne]; exact h3, h4⟩
def aAg (β : bN) (l : Nat) (rec : Loop) (Δ' : List Tk) (e : Ending) (w : World) : Prop :=
 e = .returned (.bool true) ∧ ∃ m' L', St β m' ((l, .loop rec) :: L') w ∧ bP Δ' m' L'
def BodyT (P : Program) (l : Nat) (β : bN) (rec : Loop) (Δ' : List Tk) (body : Code) (a : Act) (w : World) : Prop :=
 ∃ w₂, (Instr.beginRound l).run P w = .ok () w₂ ∧ body.wpIn (fw (some l)) 0 P (roundPost P l (aAg β l rec Δ')) a w₂
def tObj (l : Nat) (o : Obj) : Tk := ⟨fun _ H => H = [(l, o)], fun _ h => h⟩
def kO (rb : Nat) : Tk := tObj rb (.deferred (some []))
theorem zN {l : Nat} {rec : Loop} {Δ' : List Tk} {body : Code} (hs : rec.state = .ready)
  (k : T β n ds Γ (tObj l (busy rec) :: Δ) (body.wpIn (fw (some l)) 0 P (roundPost P l (aAg β l rec Δ')))) : T β n ds Γ (tObj l (.loop rec) :: Δ) (BodyT P l β rec Δ' body) := fun m L a w hF hL hS => by
 obtain ⟨H, R, rfl, h1, hR⟩ := hL
 have h1 : H = [(l, .loop rec)] := h1
 subst h1
 exact ⟨_, run_beginRound (hS.own _ (.head _)) hs, k m ((l, busy rec) :: R) _ _ hF ⟨_, R, rfl, rfl, hR⟩ (hS.putObj (k := 0) rfl)⟩
theorem zJ {l : Nat} {rec : Loop} {Δ' : List Tk} (hs : rec.state = .ready) (hp : rec.pending = none) (hd : Δ = Δ') :
  T β n ds Γ (tObj l (busy rec) :: Δ) (roundPost P l (aAg β l rec Δ') .normal) := fun m L a w hF hL hS => by
 subst hd
 obtain ⟨H, R, rfl, h1, hR⟩ := hL
 have h1 : H = [(l, busy rec)] := h1
 subst h1
 have h1 := hS.own (l, busy rec) (.head _)
 simp only [busy] at h1
 refine ⟨_, _, run_endRound none h1, ⟨rfl, m, R, ?_, hR⟩⟩
 have h2 : ({ ({ rec with state := .busy } : Loop) with state := if (none : Option Code).isNone then .ready else .done, pending := none } : Loop) = rec := by
  cases rec; simp only at hs hp; subst hs hp; rfl
 rw [h2]
 exact hS.putObj (k := 0) (o' := .loop rec) rfl
theorem aA4 {α σ : Type} {g : Operand} {ps : List Nat} {assign body : Code} {f : FuncId} {φs : List Fact} (ρ : α → List Fact) (Y : α → σ → Option σ) (Δf : σ → List Tk) {s s' : σ} (hg : Has Γ g (cU f φs)) (hf : eT P f) (hps : ps.all (fun p => Nat.ble (p + 1) n) = true)
  (hlen : ∀ x, ps.length = (ρ x).length) (hΔ : Δ = Δf s ++ R)
  (hiter : ∀ (J : σ → Tk), FnS P f (jU P ρ Y J :: φs) [J s] (dG []) (fun _ => [J s']))
  (hbody : ∀ (β' : bN) (l : Nat) (rec : Loop) x t t', rec.state = .ready → rec.pending = none → Y x t = some t' →
   T β' n [] (sL ps (ρ x) Γ) (tObj l (.loop rec) :: Δf t) (assign.wpIn (fw (some l)) 0 P (Exit.then (BodyT P l β' rec (Δf t') body) (fun _ _ _ => False))))
  (hnext : ∀ rb : Nat, T β n (SX.mark rb :: ds) Γ (kO rb :: (Δf s' ++ R)) (Q .normal)) :
  T β n ds Γ Δ ((Code.rangeFunc g ps.toArray assign body).wpIn (fw none) 0 P Q) := fun m L a w hF hL hS => by
 subst hΔ
 obtain ⟨A, B, rfl, hA, hB⟩ := hL.split
 obtain ⟨cs, hge, hcs⟩ := hF.has hg
 have hps' : ∀ p ∈ ps, p < n := fun p hp => Nat.le_of_ble_eq_true (List.all_eq_true.1 hps p hp)
 refine wpIn_rangeFunc fun fn _ => ?_
 let rb := w.heap.size
 let w₁ := w.alloc (.deferred (some []))
 let rec₀ : Loop := { state := .ready, pending := none, fn, tmps := a.tmps, params := ps.toArray, assign, body, defers := rb }
 let l := w₁.heap.size
 let w₂ := w₁.alloc (.loop rec₀)
 have hS₁ : St β m ((rb, .deferred (some [])) :: (A ++ B)) w₁ := hS.alloc _
 have hS₂ : St β m ((l, .loop rec₀) :: (rb, .deferred (some [])) :: (A ++ B)) w₂ := hS₁.alloc _
 have hl : l = w.heap.size + 1 := by show w₁.heap.size = _; simp [w₁]
 refine ⟨l, [SX.mark rb], w₂, { target := .fn (.func f) cs.toArray, args := #[oA l] }, w₂, f, (oA l :: cs).toArray, w₂, ?_, ?_, fun _ _ => trivial, ?_, (fun h => by cases h), ?_⟩
 ·rw [hl]; exact run_enterLoop_outer fn a.tmps ps.toArray assign body
 ·simp only [resolve, rangeCall, hge]
  simp [Act.eval, Deferred.ofValue, oA, Sem.run, pure]
 ·have h3 := aBf hf ((oA l :: cs).toArray) w₂
  simp only [invoke]
  have : (#[oA l] ++ cs.toArray) = (oA l :: cs).toArray := by simp
  rw [this]; exact h3
 ·let J : σ → Tk := fun t => ⟨fun m' H => ∃ L', H = (l, .loop rec₀) :: L' ∧ bP (Δf t) m' L', fun h ⟨L', e, k⟩ => ⟨L', e, k.mono h⟩⟩
  have hperm : ((l, Obj.loop rec₀) :: (rb, Obj.deferred (some [])) :: (A ++ B)).Perm (((l, Obj.loop rec₀) :: A) ++ ((rb, Obj.deferred (some [])) :: B)) :=
   .cons _ (List.perm_middle (a := (rb, Obj.deferred (some []))) (l₁ := A) (l₂ := B)).symm
  have hS₃ : St β m (((l, .loop rec₀) :: A) ++ ((rb, .deferred (some [])) :: B)) w₂ := hS₂.perm hperm
  have hy : (jU P ρ Y J).p m (oA l) := ⟨l, rfl, fun m' hle x t t' vs H hx hvs ⟨L', e, hL'⟩ => by
   subst e
   intro w₄ hS₄
   have hvl : ps.length = vs.length := by rw [hlen x, hvs.length]
   refine ⟨rec₀, hS₄.own _ (.head _), by simp [rec₀, hvl], ?_⟩
   refine RoundIn.mono (R := aAg ⟨w₄, m', ((l, Obj.loop rec₀) :: L').map Prod.fst⟩ l rec₀ (Δf t')) ?_ fun e w' ⟨he, m'', L'', h1, h2⟩ =>
    ⟨he, m'', (l, .loop rec₀) :: L'', h1, L'', rfl, h2⟩
   refine roundIn_of_wpIn trivial ?_
   refine hbody ⟨w₄, m', ((l, Obj.loop rec₀) :: L').map Prod.fst⟩ l rec₀ x t t' rfl rfl hx m' _ _ w₄ ⟨?_, rfl, fun t φ ht => ?_⟩ ⟨[_], L', rfl, rfl, hL'⟩ hS₄
   ·have : ∀ (z : List (Nat × Value)) (t : Array Value), (z.foldl (fun tmps (t, a) => tmps.setIfInBounds t a) t).size = t.size := fun z => by
     induction z with
     | nil => intro t; rfl
     | cons x z ih => intro t; simp [ih]
    have hz : ps.toArray.zip vs.toArray = (ps.zip vs).toArray := by simp
    simp only [uM, rec₀, hz, List.foldl_toArray, this, hF.size]
   ·have hz : ps.toArray.zip vs.toArray = (ps.zip vs).toArray := by simp
    simp only [uM, rec₀, hz, List.foldl_toArray]
    exact aDm (by rw [hF.size]; exact hps') (hlen x) hvs (hF.mono hle).get t φ ht⟩
  have hfn := hiter J m ((l, .loop rec₀) :: A) (oA l :: cs) ⟨_, _, rfl, hy, hcs⟩ ⟨_, [], by simp, ⟨A, rfl, hA⟩, rfl⟩
  refine aCU ((hfn w₂ hS₃.start).mono fun e w' ⟨m', L₁, hS', v, he, _, hJ⟩ => ?_)
  obtain ⟨H, R0, hL1, ⟨L', hH, hT⟩, hR0⟩ := hJ
  have hR0 : R0 = [] := hR0
  subst he hH hR0
  have hL1 : L₁ = (l, Obj.loop rec₀) :: L' := by rw [hL1]; simp
  subst hL1
  have hback := back hS₃ hS'
  have hreco : w'.heap[l]? = some (.loop rec₀) := hback.own (l, .loop rec₀) (.head _)
  refine ⟨none, _, run_endLoop hreco (by simp [rec₀]), ?_⟩
  have h4 := (hback.putObj (k := 0) (o' := .loop { rec₀ with state := .exhausted }) rfl).drop (L' := L' ++ ((rb, Obj.deferred (some [])) :: B)) (by simp)
  have h5 := h4.perm (List.perm_middle (a := (rb, Obj.deferred (some []))) (l₁ := L') (l₂ := B))
  have hF' := hF.mono hS'.mle
  exact hnext rb m' _ { a with defers := [SX.mark rb] ++ a.defers } _ ⟨hF'.size, by simp [hF'.defs], hF'.get⟩ ⟨[_], L' ++ B, rfl, rfl, hT.append (hB.mono hS'.mle)⟩ h5
theorem FnX_ofM {f : FuncId} {fn : Func} {c : Code} {N : Nat} {args : List Fact} {post : Mem → Heap → Ending → Prop} (hf : P.funcs[f]? = some fn) (hb : fn.body = some c) (hN : fn.ntmps = N) (hle : Nat.ble args.length N = true)
  (k : ∀ w m fp, T ⟨w, m, fp⟩ N [] (oR args 0) Δ (c.wpIn (fw none) 0 P (bodyPostM (fw none) 0 P fn fun e w' => ∃ m' L', St ⟨w, m, fp⟩ m' L' w' ∧ post m' L' e))) :
  ∀ m L vs, aX args m vs → bP Δ m L → FnX P f vs m L post := fun m L vs hv hL w hS => by
 refine (callsIn_wide (n := 0)).1 (callsIn_of_wp_marks hf hb trivial ?_)
 refine (k w m _ m L _ w ⟨?_, rfl, fun t φ h => ?_⟩ hL hS)
 ·have := Nat.le_of_ble_eq_true hle
  have hl := hv.length
  simp [hN]; omega
 ·obtain ⟨_, h2⟩ := aAL args 0 t φ h
  simp only [Nat.sub_zero] at h2
  obtain ⟨c, h3, h4⟩ := hv.get h2
  have hlt := (List.getElem?_eq_some_iff.1 h3).1
  refine ⟨c, ?_, h4⟩
  rw [Array.getElem?_append_left (by simpa using hlt)]
  simpa using h3
theorem tN {f : FuncId} {fn : Func} {c : Code} {N : Nat} {args : List Fact} {Φ : Fact} {Δ' : Value → List Tk} (hf : P.funcs[f]? = some fn) (hb : fn.body = some c) (hN : fn.ntmps = N) (hle : Nat.ble args.length N = true)
  (k : ∀ β, T β N [] (oR args 0) Δ (c.wpIn (fw none) 0 P (bodyPostM (fw none) 0 P fn (fR β Φ Δ')))) : FnS P f args Δ Φ Δ' := FnX_ofM hf hb hN hle fun w m fp => k ⟨w, m, fp⟩
theorem aFv {m : Mem} : ∀ (rbs : List Nat) {Δ : List Tk} {L : Heap}, bP (rbs.map kO ++ Δ) m L → ∃ R, L = rbs.map (fun rb => (rb, Obj.deferred (some []))) ++ R ∧ bP Δ m R
 | [], _, L, h => ⟨L, rfl, h⟩
 | rb :: rbs, _, _, ⟨H, R, e, h1, h2⟩ => by
  have h1 : H = [(rb, Obj.deferred (some []))] := h1
  obtain ⟨R', e2, h3⟩ := aFv rbs h2
  exact ⟨R', by rw [e, h1, e2]; rfl, h3⟩
theorem aGt {fn : Func} {R : Ending → World → Prop} (rbs : List Nat) {Δ' : List Tk} (hds : ds = rbs.map SX.mark) (hΔ : Δ = rbs.map kO ++ Δ')
  (k : T β n [] Γ Δ' (fun a w => ∃ v, (results fn a.tmps).run P w = .ok v w ∧ R (.returned v) w)) : T β n ds Γ Δ (fun a w => LeavesInM (fw none) 0 P fn a.tmps R a.defers .returning w) := fun m L a w hF hL hS => by
 subst hΔ
 obtain ⟨B, rfl, hB⟩ := aFv rbs hL
 rw [hF.defs, hds]
 let A : Heap := rbs.map (fun rb => (rb, Obj.deferred (some [])))
 have hnd : rbs.Nodup := by
  have := hS.nodup
  rw [List.map_append, List.map_map] at this
  have h2 := (List.nodup_append.1 this).1
  have h3 : (Prod.fst ∘ fun rb => (rb, Obj.deferred (some []))) = (id : Nat → Nat) := rfl
  rwa [h3, List.map_id] at h2
 refine aF4 (β := β) (m := m) (A := A) (L' := B) rbs _ w hS (fun rb hrb => ?_) hnd (by simp [A]) (by simp [A]) fun w' hS' => ?_
 ·obtain ⟨j, hj⟩ := List.mem_iff_getElem?.1 hrb
  have hlt := (List.getElem?_eq_some_iff.1 hj).1
  exact ⟨j, by rw [List.getElem?_append_left (by simpa using hlt)]; simp [hj], by simpa [A] using hlt⟩
 ·exact k m B { a with defers := [] } w' ⟨hF.size, rfl, hF.get⟩ hB hS'
theorem aC1 {fn : Func} {Δ' : Value → List Tk} {e : Exit} (rbs : List Nat) (he : e = .ret ∨ e = .normal) (hr : fn.results = #[]) (hds : ds = rbs.map SX.mark) (hd : Δ = rbs.map kO ++ Δ' (.tuple #[])) : T β n ds Γ Δ (bodyPostM (fw none) 0 P fn (fR β (dG []) Δ') e) := by
 have h := aGt (P := P) (fn := fn) (R := fR β (dG []) Δ') (β := β) (n := n) (Γ := Γ) rbs hds hd fun m L a w hF hL hS => ⟨.tuple #[], by simp [results, hr, Sem.run, pure], m, L, hS, _, rfl, ⟨[], rfl, rfl⟩, hL⟩
 rcases he with rfl | rfl <;> exact h
theorem aDt {fn : Func} {Φ : Fact} {Δ' : List Tk} {t : Nat} (rbs : List Nat) (hr : fn.results = #[.tmp t]) (hv : gK Γ t Φ) (hds : ds = rbs.map SX.mark) (hd : Δ = rbs.map kO ++ Δ') : T β n ds Γ Δ (bodyPostM (fw none) 0 P fn (fR β Φ (fun _ => Δ')) .ret) :=
 aGt (P := P) (fn := fn) (R := fR β Φ (fun _ => Δ')) rbs hds hd fun m L a w hF hL hS => by
  obtain ⟨ψ, h1, h2⟩ := hv
  obtain ⟨v, h3, h4⟩ := hF.get t ψ h1
  exact ⟨v, by simp [results, hr, Array.getD_eq_getD_getElem?, h3, Sem.run, pure], m, L, hS, v, rfl, h2 m v h4, hL⟩
end
def fCell : Fact := ⟨fun _ v => cX v, fun _ h => h⟩
theorem aAs : dW fCell := fun _ _ h => h
theorem zK {φ : Fact} (h : dW φ) : Ent φ fCell := h
theorem aN.app : ∀ {aa bs cs ds : List Fact}, aN aa cs → aN bs ds → aN (aa ++ bs) (cs ++ ds)
 | [], _, _, _, h, k => by cases h; exact k
 | a :: aa, _, _, _, ⟨φ, φs, e, h1, h2⟩, k => by subst e; exact ⟨φ, φs ++ _, by simp, h1, aN.app h2 k⟩
theorem aDE {α γ : Type} {t : Ty α} {t' : Ty γ} {x : α} {y : γ} (h : aN (t.leafs x) (t'.leafs y)) : Ent (aF t x) (aF t' y) := fun m v ⟨p, h1, cs, h2, h3⟩ => ⟨p, h1, cs, h.all h2, h3⟩
theorem aDB {v : Value} (h : cX v) : Ent (fEq v) (eI v) := fun m u hu => by
 have hu : u = v := hu
 exact ⟨hu, hu ▸ h⟩
section
variable {P : Program} {β : bN} {n : Nat} {ds : List Deferred} {Γ : Ctx} {Δ R : List Tk} {r : Option Nat} {F : Act → World → Prop} {ops : Array Oper} {o : Oper}
theorem aDU {α : Type} {t : Ty α} {y : α} {T : TypeId} {x : Operand} {φ ψ : Fact} (ho : o.op = .load T x) (hx : Has Γ x (aF t y)) (hT : jQ P T) (hl : t.leafs y = [φ]) (he : Ent φ ψ) : OpT P Γ [] o ψ := by
 have h := fP ho hx hT hl
 exact ⟨h.nd, fun β m L a w h1 h2 h3 => let ⟨v, h4, h5⟩ := h.run β m L a w h1 h2 h3; ⟨v, h4, he m v h5⟩⟩
theorem zU {α : Type} {cs : List α} {i : Nat} {v : α} (h : cs[i]? = some v) : cs.set i v = cs := by
 apply List.ext_getElem?; intro j; rw [List.getElem?_set]
 split
 ·subst_vars; split
  ·exact h.symm
  ·have := (List.getElem?_eq_some_iff.1 h).1; omega
 ·rfl
def fPtrL (φs : List Fact) : Fact := ⟨fun m v => ∃ p, v = .pointer (some p) ∧ ∃ cs, aX φs m cs ∧ ∀ (j : Nat) c, cs[j]? = some c → m.cell (p.add j) = some c,
 fun h ⟨p, h1, cs, h2, h3⟩ => ⟨p, h1, cs, h2.mono h, fun j c hj => Mem.cell_mono h (h3 j c hj)⟩⟩
theorem aGb {φ : Fact} {v : Value} {φs φs' : List Fact} (s : Nat) {i : Nat} (hs : lk Γ s = some (fPtrL φs)) (hi : φs[i]? = some (eI v)) (hz : φs.set i φ = φs')
  (k : T β n ds ((s, fPtrL φs') :: Γ) (sT φ v :: Δ) F) : T β n ds Γ (sT φ v :: Δ) F := fun m L a w x y z => by
 obtain ⟨H, R, rfl, ⟨rfl, h1⟩, h2⟩ := y
 refine k m _ a w ⟨x.size, x.defs, fun u ψ hu => ?_⟩ ⟨[], R, rfl, ⟨rfl, h1⟩, h2⟩ z
 rcases oO hu with ⟨rfl, rfl⟩ | ⟨_, hu⟩
 ·obtain ⟨p, h3, q, h4, cs, h5, h6⟩ := x.get _ _ hs
  refine ⟨p, h3, q, h4, cs, ?_, h6⟩
  obtain ⟨c, h7, h8, _⟩ := h5.get hi
  subst h8
  have := h5.set (k := i) h1
  rw [zU h7, hz] at this
  exact this
 ·exact x.get u ψ hu
end
end Go.SW
namespace Go.SW
open Go.SX
def FnD (P : Program) (f : FuncId) (args : List Fact) (Δ : List Tk) (u : FrameMode) (Δ' : List Tk) : Prop :=
 ∀ m L vs, aX args m vs → bP Δ m L → ∀ w, St ⟨w, m, L.map Prod.fst⟩ m L w → CallsDIn (fw none) 0 P f vs.toArray u w fun e u' w' => (∃ v, e = .returned v) ∧ settle u' = .returning ∧ ∃ m' L', St ⟨w, m, L.map Prod.fst⟩ m' L' w' ∧ bP Δ' m' L'
def PostD (β : bN) (Δ' : List Tk) (e : Ending) (u' : FrameMode) (w' : World) : Prop := (∃ v, e = .returned v) ∧ settle u' = .returning ∧ ∃ m' L', St β m' L' w' ∧ bP Δ' m' L'
section
variable {P : Program} {β : bN} {n : Nat} {ds : List Deferred} {Γ : Ctx} {Δ R : List Tk} {r : Option Nat} {Q Q' : Exit → Act → World → Prop} {F : Act → World → Prop} {ops : Array Oper} {o : Oper} {aU : List Oper}
theorem FnD_of {f : FuncId} {fn : Func} {c : Code} {N : Nat} {args : List Fact} {u : FrameMode} {Δ' : List Tk} (hf : P.funcs[f]? = some fn) (hb : fn.body = some c) (hN : fn.ntmps = N) (hle : Nat.ble args.length N = true)
  (k : ∀ β c₀ cs, c₀.mode = u → T β N [] (oR args 0) Δ (fun a w => c.wpSIn (fw none) 0 P (bodyPostS P fn c₀ cs (PostD β Δ')) a (c₀ :: cs) w)) : FnD P f args Δ u Δ' := fun m L vs hv hL w hS => by
 refine callsDIn_of_wpSIn hf hb trivial fun c₀ cs hu => ?_
 refine k ⟨w, m, _⟩ c₀ cs hu m L _ w ⟨?_, rfl, fun t φ h => ?_⟩ hL hS
 ·have := Nat.le_of_ble_eq_true hle
  have hl := hv.length
  simp [hN]; omega
 ·obtain ⟨_, h2⟩ := aAL args 0 t φ h
  simp only [Nat.sub_zero] at h2
  obtain ⟨c, h3, h4⟩ := hv.get h2
  have hlt := (List.getElem?_eq_some_iff.1 h3).1
  refine ⟨c, ?_, h4⟩
  rw [Array.getElem?_append_left (by simpa using hlt)]
  simpa using h3
theorem aE5 {x : Code} {id d e : Nat} {o0 o1 : Oper} {S : Exit → Act → List Frame → World → Prop} {cs cs' : List Frame} {v : Value} (hr : (match recoverD cs with | some p => p | none => (.nilIface, cs)) = (v, cs'))
  (h0 : o0.op = .call { callee := .builtin .recover, args := #[], argTypes := #[] }) (g0 : o0.guard = none) (d0 : o0.dst = some d) (h1 : o1.op = .assign (.tmp d)) (g1 : o1.guard = none) (d1 : o1.dst = some e) (hn : Nat.ble (d + 1) n = true ∧ Nat.ble (e + 1) n = true)
  (k : T β n ds ((e, fEq v) :: (d, fEq v) :: Γ) Δ (fun a w => x.wpSIn (fw none) 0 P S a cs' w)) : T β n ds Γ Δ (fun a w => (Code.seq (.region id #[o0, o1] false) x).wpSIn (fw none) 0 P S a cs w) := fun m L a w hF hL hS => by
 refine wpSIn_seq (wpSIn_region ?_)
 have hF1 : FT n ds ((d, fEq v) :: Γ) m (a.put (some d) v) := hF.put (Nat.le_of_ble_eq_true hn.1) rfl
 have hF2 : FT n ds ((e, fEq v) :: (d, fEq v) :: Γ) m ((a.put (some d) v).put (some e) v) := hF1.put (Nat.le_of_ble_eq_true hn.2) rfl
 have he0 : ∀ w, (execOp a.eval o0).run P w = .ok .recover w := fun w => by simp [execOp, h0, resolve, invoke, builtin, Sem.run_bind, Sem.run, pure]
 have hev : (a.put (some d) v).eval (.tmp d) = v := hF1.eval (x := .tmp d) (ψ := fEq v) (by simp [evT, lk])
 have he1 : ∀ w, (execOp (a.put (some d) v).eval o1).run P w = .ok (.value v) w := fun w => by simp [execOp, h1, hev, Sem.run, pure]
 have hl : List.range (#[o0, o1] : Array Oper).size = [0, 1] := rfl
 have i0 : (#[o0, o1] : Array Oper)[0]? = some o0 := rfl
 have i1 : (#[o0, o1] : Array Oper)[1]? = some o1 := rfl
 have w0 : Region.wanted o0 (yielded #[o0, o1] a.tmps) = true := by simp [Region.wanted, g0]
 have w1 : Region.wanted o1 (yielded #[o0, o1] (a.put (some d) v).tmps) = true := by simp [Region.wanted, g1]
 have hfin : wpOpsSIn (fw none) 0 P #[o0, o1] (Exit.thenS (x.wpSIn (fw none) 0 P S) S) [1] (a.put o0.dst v) cs' w := by
  rw [d0]
  simp only [wpOpsSIn, i1, w1, if_true, he1]
  rw [d1]
  exact ⟨fun _ _ => trivial, k m L _ w hF2 hL hS⟩
 rw [hl, wpOpsSIn]
 simp only [i0, w0, if_true, he0]
 refine ⟨fun _ _ => trivial, ?_⟩
 cases hrec : recoverD cs with
 | none => rw [hrec] at hr; cases hr; exact hfin
 | some p => rw [hrec] at hr; obtain ⟨v', cs''⟩ := p; cases hr; exact hfin
theorem T_inS {x : Code} {S : Exit → Act → List Frame → World → Prop} {cs : List Frame} (k : T β n ds Γ Δ (x.wpIn (fw none) 0 P (fun e a w => S e a cs w))) : T β n ds Γ Δ (fun a w => x.wpSIn (fw none) 0 P S a cs w) :=
 k.mono fun _ _ h => wpSIn_of_wpIn rfl h
theorem T_endD {fn : Func} {c₀ : Frame} {cs cs' : List Frame} {u' : FrameMode} {Δ' : List Tk} {e : Exit} (he : e = .ret ∨ e = .normal) (hr : fn.results = #[]) (hc : cs' = { c₀ with mode := u' } :: cs) (hu : settle u' = .returning) (hd : Δ = Δ') :
  T β n [] Γ Δ (fun a w => bodyPostS P fn c₀ cs (PostD β Δ') e a cs' w) := fun m L a w hF hL hS => by
 subst hd
 have : a.defers = [] ∧ ∃ u', cs' = { c₀ with mode := u' } :: cs ∧ ∃ v, (results fn a.tmps).run P w = .ok v w ∧ PostD β Δ (.returned v) u' w :=
  ⟨hF.defs, u', hc, .tuple #[], by simp [results, hr, Sem.run, pure], ⟨_, rfl⟩, hu, m, L, hS, hL⟩
 rcases he with rfl | rfl <;> exact this
theorem aGa {g : FuncId} {args : List Operand} {ts : Array TypeId} {vs : List Value} (hw : bU ops Γ o) (ho : o.op = .defer { callee := .value (.func g), args := args.toArray, argTypes := ts }) (hd : o.dst = none) (ha : iI Γ args vs)
  (k : T β n ({ target := .fn (.func g) #[], args := vs.toArray } :: ds) Γ Δ (wpListIn (fw none) 0 P ops Q aU)) : T β n ds Γ Δ (wpListIn (fw none) 0 P ops Q (o :: aU)) := fun m L a w hF hL hS => by
 have hx : args.map a.eval = vs := ha.eval (hF.evs o) (by rw [ho]; intro x hx; simp [Op.operands, Call.operands, hx])
 simp only [wpListIn, hw.wanted hF, if_true]
 refine ⟨fun _ _ => trivial, ?_⟩
 have h3 : o.semAt (fw none).round a.eval = execOp a.eval o := Oper.semAt_none _ _
 have hrun : (execOp a.eval o).run P w = .ok (.defer { target := .fn (.func g) #[], args := vs.toArray }) w := by
  have h4 : args.toArray.map a.eval = (args.map a.eval).toArray := by simp
  simp [execOp, ho, resolve, Act.eval, Deferred.ofValue, Sem.run_bind, Sem.run, pure]
  rw [← hx]
 rw [h3, hrun, Oper.uponIn_defer, hd]
 exact k m L _ w ⟨hF.size, by simp [Act.put, hF.defs], hF.get⟩ hL hS
theorem aAC {fn : Func} {g b c t : Nat} {T' : TypeId} {φ ψ ψ' : Fact} {u : FrameMode} (hu : u ≠ .run) (hr : fn.results = #[.tmp t, .cell c T']) (hv : gK Γ t φ) (hc : lk Γ c = some (fEq (ptr b))) (hT : jQ P T') (hg : eT P g)
  (hD : FnD P g [fEq (ptr b)] [aC b T' [ψ]] u [aC b T' [ψ']]) (hds : ds = [{ target := .fn (.func g) #[], args := #[ptr b] }]) (hΔ : Δ = [aC b T' [ψ]]) :
  T β n ds Γ Δ (fun a w => LeavesInM (fw none) 0 P fn a.tmps (fR β (dG [φ, ψ']) (fun _ => [])) a.defers u w) := fun m L a w hF hL hS => by
 subst hΔ
 rw [hF.defs, hds]
 refine ⟨hu, .inr ⟨(fun h => by cases h), .func g, #[], g, #[ptr b], rfl, ?_, fun _ _ => trivial, ?_⟩⟩
 ·have := aBf hg (#[ptr b]) w
  simpa [invoke] using this
 ·have hS0 : St β m (L ++ []) w := by rw [List.append_nil]; exact hS
  have hcall := hD m L [ptr b] ⟨_, [], rfl, rfl, rfl⟩ hL w hS0.start
  refine ⟨trivial, fun c₀ cs hm hroom => ?_⟩
  obtain ⟨_, hcall⟩ := hcall
  obtain ⟨e, u', w', fr, ⟨⟨v, he⟩, hset, m', L', hS', hL'⟩, h2⟩ := hcall c₀ cs hm hroom
  subst he
  refine ⟨_, u', w', fr, ?_, h2⟩
  simp only [hset]
  have hb := back hS0 hS'
  rw [List.append_nil] at hb
  have hF' := hF.mono hS'.mle
  obtain ⟨χ, h3, h4⟩ := hv
  obtain ⟨v0, h5, h6⟩ := hF'.get t χ h3
  obtain ⟨v1, h7, h8⟩ := hF'.get c _ hc
  have h8 : v1 = ptr b := h8
  subst h8
  obtain ⟨cs', h9, h10⟩ := aCe hL' hb
  obtain ⟨x, cr, e1, e2, e3⟩ := h9
  have e3 : cr = [] := e3
  subst e1 e3
  have hcell := h10 0 x rfl
  have hload : (loadVar T' ⟨b, 0, none⟩).run P w' = .ok x w' := by simp [loadVar, Sem.run_bind, aEB hT, Sem.run, pure, hcell]
  refine ⟨.tuple #[v0, x], ?_, m', [], ?_, _, rfl, ⟨[v0, x], rfl, v0, [x], rfl, h4 m' v0 h6, x, [], rfl, e2, rfl⟩, rfl⟩
  ·simp [results, hr, Array.getD_eq_getD_getElem?, h5, h7, Sem.run_bind, Sem.run, pure, ptr, asAddr, hload]
  ·exact hb.drop (List.nil_sublist _)
theorem aDu {fn : Func} {Φ : Fact} {Δ' : Value → List Tk} (k : T β n ds Γ Δ (fun a w => LeavesInM (fw none) 0 P fn a.tmps (fR β Φ Δ') a.defers .returning w)) : T β n ds Γ Δ (bodyPostM (fw none) 0 P fn (fR β Φ Δ') .ret) := k
theorem aEM {fn : Func} {Φ : Fact} {Δ' : Value → List Tk} {c : List PanicEntry} (k : T β n ds Γ Δ (fun a w => LeavesInM (fw none) 0 P fn a.tmps (fR β Φ Δ') a.defers (.panicking c) w)) : T β n ds Γ Δ (bodyPostM (fw none) 0 P fn (fR β Φ Δ') (.panic c)) := k
theorem aI8 {S T' : TypeId} {x : Operand} {v : Value} (ho : o.op = .typeAssert x S T' true) (hx : Has Γ x (fEq (.iface T' v))) (hT : niB P T' = true) {z : Value} (hz : cQ P T' = some z) : OpT P Γ [] o (dG [fEq v, aI true]) :=
 wL ho hx hT hz (by simp [eU])
def unI (T : TypeId) : Value → Option Int
 | .iface t (.agg vs) => if t = T then (match vs.toList with | [.int .i64 e] => some e | _ => none) else none
 | _ => none
theorem aDp {T : TypeId} {v : Value} {e : Int} (h : unI T v = some e) : v = .iface T (.agg #[.int .i64 e]) := by
 unfold unI at h
 split at h
 ·rename_i t vs
  split at h
  ·subst_vars
   split at h
   ·rename_i e' hv
    cases h
    have : vs = #[.int .i64 e] := by rw [← Array.toArray_toList (xs := vs), hv]
    rw [this]
   ·cases h
  ·cases h
 ·cases h
def MethAt (P : Program) (T : TypeId) (u : Value) (name : String) (f : FuncId) : Prop := ∀ w, (method (P.types.size + Made.depth) T u name).run P w = .ok (f, u) w
def Inv (P : Program) (v : Value) (name : String) (φs : List Fact) (Φ : Fact) : Prop := ∃ t u f, v = .iface t u ∧ MethAt P t u name f ∧ eT P f ∧ FnS P f (fEq u :: φs) [] Φ (fun _ => [])
theorem FnS.args {f : FuncId} {φs ψs : List Fact} {Φ : Fact} {Δ' : Value → List Tk} (h : FnS P f φs Δ Φ Δ') (k : aN ψs φs) : FnS P f ψs Δ Φ Δ' := fun m L vs hv hL => h m L vs (k.all hv) hL
theorem wp_callI {x : Operand} {name : String} {args : List Operand} {ts : Array TypeId} {t : TypeId} {u : Value} {f : FuncId} {vs : List Value} {post : Mem → Heap → Ending → Prop} {m : Mem} {L R : Heap} {a : Act} {w : World} {K : Act → World → Prop}
  (ho : o.op = .call { callee := .invoke x name, args := args.toArray, argTypes := ts }) (hx : a.eval x = .iface t u) (hm : MethAt P t u name f) (hall : u :: args.map a.eval = vs) (hf : eT P f) (hc : FnX P f vs m L post) (hS : St β m (L ++ R) w)
  (kret : ∀ m' L' v w', Mem.le m m' → post m' L' (.returned v) → St β m' (L' ++ R) w' → K (a.put o.dst v) w')
  (kpan : ∀ m' L' c w', Mem.le m m' → post m' L' (.panicked c) → St β m' (L' ++ R) w' → Q (.panic c) a w') (kout : ∀ m' L', post m' L' .outgrown → False) : o.wpIn (fw r) 0 P a w K Q := by
 have hnd : fU o.op = false := by rw [ho]; rfl
 have h3 : o.semAt (fw r).round a.eval = execOp a.eval o := Oper.semAt_eq _ _ _ fun c hc => by rw [hc] at hnd; cases hnd
 refine ⟨fun _ _ => trivial, ?_⟩
 have hrun : (execOp a.eval o).run P w = .ok (.enter f vs.toArray) w := by
  have h4 : args.toArray.map a.eval = (args.map a.eval).toArray := by simp
  have h5 : (#[u] ++ (args.map a.eval).toArray) = vs.toArray := by rw [← hall]; simp
  have h6 : (#[a.eval x] ++ args.toArray.map a.eval).extract 1 (#[a.eval x] ++ args.toArray.map a.eval).size = (args.map a.eval).toArray := by
   apply Array.ext'; simp [List.take_of_length_le]
  have h7 : (#[a.eval x] ++ args.toArray.map a.eval)[0]? = some (a.eval x) := by simp
  have h8 : (callMethod (.iface t u) name (args.map a.eval).toArray).run P w = .ok (.enter f vs.toArray) w := by
   simp only [callMethod, Sem.run_bind, run_program, Result.andThen_ok, hm w, h5, aBf hf]
  simp only [execOp, ho, resolve, Sem.run_bind]
  show ((invoke (.fn (.method name) #[]) (#[a.eval x] ++ args.toArray.map a.eval)).run P w) = _
  rw [hx] at h6 h7
  simp only [invoke]
  rw [hx, h7]
  simp only
  rw [h6]
  exact h8
 rw [h3, hrun, Oper.uponIn_enter]
 refine ⟨(fun h => by cases h), aCU ((hc w hS.start).mono fun e w' ⟨m', L', hS', hp⟩ => ?_)⟩
 have hb := back hS hS'
 cases e with
 | returned v => exact kret m' L' v w' hS'.mle hp hb
 | panicked c => exact kpan m' L' c w' hS'.mle hp hb
 | outgrown => exact (kout m' L' hp).elim
variable {l : List NO} {e : Env'} {i : Nat} {od : Env' → OD} {G : Env' → Cf → (Nat → Tk) → Prop}
theorem N_callI {x : Operand} {name : String} {args : List Operand} {ts : Array TypeId} {v : Value} {φs : List Fact} {Φ : Fact} {d : Nat} {Δ' : Oc → List Tk} (hod : od e = .op [] true (fun _ => Φ) Δ') (hτ : ∀ b, Δ' b = []) (hw : bU ops Γ o) (ho : o.op = .call { callee := .invoke x name, args := args.toArray, argTypes := ts }) (hd : o.dst = some d)
  (hx : Has Γ x (fEq v)) (hargs : aK Γ args φs) (hi : Inv P v name φs Φ)
  (k : ∀ b, NC P r ops G l (e.set i b) (lk ((d, Φ) :: Γ)) (dOf Δ)) : NC P r ops G ((i, o, od) :: l) e (lk Γ) (dOf Δ) := by
 refine ⟨?_, fun b => ?_⟩
 ·simp only [hod]
  refine ⟨hw, ?_, fun b => by rw [hτ]; rfl⟩
  intro β n ds m L R a w K Q hF hL hS hk
  have hL0 : L = [] := hL
  subst hL0
  have he := jY hF
  obtain ⟨t, u, f, hv, hm, hf, hc⟩ := hi
  subst hv
  have hxx := he.get hx (by rw [ho]; simp [Op.operands, Call.operands])
  refine wp_callI (L := []) ho hxx hm rfl hf (hc m [] _ ⟨_, _, rfl, rfl, hargs.all' he (by rw [ho]; intro x hx; simp [Op.operands, Call.operands, hx])⟩ rfl) hS (fun m' L' v w' hle ⟨u, hv, h3, h4⟩ hS' => ?_) (fun m' L' c w' _ ⟨u, hv, _⟩ _ => by cases hv) (fun m' L' ⟨u, hv, _⟩ => by cases hv)
  cases hv
  have h4 : L' = [] := h4
  subst h4
  exact hk default m' [] v w' hle h3 (by simp only [OD.wr, if_true]; rw [hτ]; rfl) hS'
 ·simp only [hod, eZ, eP, if_true, hd, hτ]
  rw [yA]; exact k b
end
end Go.SW
namespace Go
section
variable {F : Fence} {n : Nat} {P : Program} {Q : Exit → Act → World → Prop} {a : Act} {w : World} {b : Frame} {k : List Item} {cs : List Frame}
theorem SW.stepR_scope {c : Code} : step P (lone (b.atR a (.code (.scope c) :: k)) cs w) = .next (lone (b.atR a (.code c :: .inScope c :: k)) cs w) :=
 step_lone_go (by simp [stepG, stepG.exec, Frame.atR])
theorem SW.stepR_inScope {c : Code} : step P (lone (b.atR a (.inScope c :: k)) cs w) = .next (lone (b.atR a k) cs w) :=
 step_lone_go (by simp [stepG, stepG.exec, Frame.atR])
theorem SW.wpIn_scope {c : Code} (h : c.wpIn F n P (Exit.noGoto Q) a w) : (Code.scope c).wpIn F n P Q a w := by
 intro b k cs hro hb hr
 have h0 : (lone (b.atR a (.code (.scope c) :: k)) cs w).fenced P F := fenced_calm hb hr rfl
 obtain ⟨e, a₁, w₁, hq, harr⟩ := h b (.inScope c :: k) cs hro hb hr
 cases e with
 | normal => exact ⟨.normal, a₁, w₁, hq, .head h0 SW.stepR_scope (StepsIn.trans harr (.one (fenced_calm hb hr rfl) SW.stepR_inScope))⟩
 | exit id => exact ⟨.exit id, a₁, w₁, hq, fun k' hk => .head h0 SW.stepR_scope (harr.1 k' (by simp [exitTo, hk])), fun hr' hk => let ⟨k₁, h1, h2⟩ := harr.2 hr' (by simp [exitTo, hk]); ⟨k₁, h1, .head h0 SW.stepR_scope h2⟩⟩
 | goto l => exact hq.elim
 | ret => exact ⟨_, a₁, w₁, hq, .of_steps (.one h0 SW.stepR_scope) harr⟩
 | panic ch => exact ⟨_, a₁, w₁, hq, .of_steps (.one h0 SW.stepR_scope) harr⟩
 | outgrown => exact ⟨_, a₁, w₁, hq, .of_steps (.one h0 SW.stepR_scope) harr⟩
end
end Go
namespace Go.SW
open Go.SX
section
variable {P : Program} {β : bN} {n : Nat} {ds : List Deferred} {Γ : Ctx} {Δ R : List Tk} {r : Option Nat} {Q Q' : Exit → Act → World → Prop} {F : Act → World → Prop} {ops : Array Oper} {o : Oper} {aU : List Oper}
theorem T_scope {c : Code} (h : T β n ds Γ Δ (c.wpIn (fw r) 0 P (Exit.noGoto Q))) : T β n ds Γ Δ ((Code.scope c).wpIn (fw r) 0 P Q) := h.mono fun _ _ => wpIn_scope
theorem T_label {l : Nat} (h : T β n ds Γ Δ (Q .normal)) : T β n ds Γ Δ ((Code.label l).wpIn (fw r) 0 P Q) := h.mono fun _ _ => wpIn_label
theorem aDr (h : T β n ds Γ Δ (Q .ret)) : T β n ds Γ Δ (Exit.noGoto Q .ret) := h
variable {κ α : Type} {kd : Key κ} {vf : α → Fact} {g g1 : aQ κ α}
theorem aQ.ext' {a b : aQ κ α} (h : a.get = b.get) (k : a.size = b.size) : a = b := by
 cases a; cases b; simp at h k; simp [h, k]
structure yE (kd : Key κ) (vf : α → Fact) (g g1 : aQ κ α) (m : Mem) (es : Array MapEntry) (clock since : Nat) (seen : Array Nat) (c0 : Nat) : Prop where
 is : jD kd vf g m es clock
 old : ∀ e ∈ es.toList, e.born < since
 sc : since ≤ c0
 cl : since ≤ clock
 part : ∀ e ∈ es.toList, ∀ k, e.key = kd.val k → g1.get k = if e.born ∈ seen.toList then g.get k else none
 none : ∀ k, g.get k = none → g1.get k = none
 size : g1.size = es.toList.countP (fun e => decide (e.born ∈ seen.toList))
theorem yE.mono {m m' : Mem} {es : Array MapEntry} {clock since : Nat} {seen : Array Nat} {c0 : Nat} (hle : Mem.le m m') (h : yE kd vf g g1 m es clock since seen c0) : yE kd vf g g1 m' es clock since seen c0 :=
 ⟨h.is.mono hle, h.old, h.sc, h.cl, h.part, h.none, h.size⟩
def yU (kd : Key κ) (vf : α → Fact) (b : Nat) (g g1 : aQ κ α) : Tk := ⟨fun m H => (g = aQ.none ∧ g1 = aQ.none ∧ H = [(b, .mapIter none 0 #[] 0)]) ∨
  ∃ (mb : Nat) (es : Array MapEntry) (clock since : Nat) (seen : Array Nat) (c0 : Nat), H = [(b, .mapIter (some mb) since seen c0)] ∧ m mb = some (.map es clock) ∧ yE kd vf g g1 m es clock since seen c0,
 fun h k => k.imp id fun ⟨mb, es, clock, since, seen, c0, h1, h2, h3⟩ => ⟨mb, es, clock, since, seen, c0, h1, h _ _ h2, h3.mono h⟩⟩
def aBX (kd : Key κ) (vf : α → Fact) (b : Nat) (g g1 : aQ κ α) (k : κ) (y : α) : Tk := ⟨fun m H =>
  ∃ (mb : Nat) (es : Array MapEntry) (clock since : Nat) (seen : Array Nat) (c0 : Nat) (e : MapEntry), H = [(b, .mapIter (some mb) since (seen.push e.born) clock)] ∧ m mb = some (.map es clock) ∧ yE kd vf g g1 m es clock since (seen.push e.born) c0 ∧ c0 = clock ∧ e ∈ es.toList ∧ e.key = kd.val k ∧ (vf y).p m e.val,
 fun h ⟨mb, es, clock, since, seen, c0, e, h1, h2, h3, h4, h5, h6, h7⟩ => ⟨mb, es, clock, since, seen, c0, e, h1, h _ _ h2, h3.mono h, h4, h5, h6, Fact.mono _ h h7⟩⟩
theorem T_iterC {b : Nat} {k : κ} {y : α} (h : T β n ds Γ (yU kd vf b g g1 :: Δ) F) : T β n ds Γ (aBX kd vf b g g1 k y :: Δ) F := fun m L a w x ⟨H, R, e, ⟨mb, es, clock, since, seen, c0, e0, h1, h2, h3, h4, _⟩, hR⟩ z =>
 h m L a w x ⟨H, R, e, .inr ⟨mb, es, clock, since, _, c0, by rw [h4]; exact h1, h2, h3⟩, hR⟩ z
theorem n_range {T : TypeId} {x : Operand} {z : Value} (ho : o.op = .range T x) (hx : Has Γ x (fS kd vf g)) (hT : lE P T kd z) : OpN P Γ o ptr (fun b => yU kd vf b g aQ.none) :=
 ⟨by rw [ho]; rfl, fun β m a w he hS => by
  obtain ⟨K, V, h1, h2, h3⟩ := hT
  rcases he.get hx (by rw [ho]; simp [Op.operands]) with ⟨hv, hg⟩ | ⟨b, es, clock, hv, hm, hi⟩
  ·refine ⟨.mapIter none 0 #[] 0, ?_, .inl ⟨hg, rfl, rfl⟩⟩
   simp [execOp, ho, hv, Instr.range, Sem.run_bind, cW h1, newObj, Sem.run, pure, ptr]
  ·have hg : (getObj b).run P w = .ok (.map es clock) w := by simp [getObj, Sem.run, hS.mem _ _ hm]
   refine ⟨.mapIter (some b) clock #[] clock, ?_, .inr ⟨b, es, clock, clock, #[], clock, rfl, hm, hi, ?_, Nat.le_refl _, Nat.le_refl _, fun e _ k _ => by simp [aQ.none], fun k _ => rfl, by simp [aQ.none]⟩⟩
   ·simp [execOp, ho, hv, Instr.range, Sem.run_bind, cW h1, hg, newObj, Sem.run, pure, ptr]
   ·obtain ⟨G, hK, _⟩ := hi; exact hK.born⟩
theorem aDP {γ δ : Type} {l : List γ} {f : γ → δ} (h : (l.map f).Nodup) {a b : γ} (ha : a ∈ l) (hb : b ∈ l) (e : f a = f b) : a = b := by
 obtain ⟨i, hi⟩ := List.mem_iff_getElem?.1 ha
 obtain ⟨j, hj⟩ := List.mem_iff_getElem?.1 hb
 have h1 : (l.map f)[i]? = some (f a) := by rw [List.getElem?_map, hi]; rfl
 have h2 : (l.map f)[j]? = some (f a) := by rw [List.getElem?_map, hj]; simp [e]
 have l1 := (List.getElem?_eq_some_iff.1 h1).1
 have := (List.getElem?_inj l1 h).1 (h1.trans h2.symm)
 subst this
 rw [hi] at hj; exact Option.some.inj hj
theorem aEg {l : List MapEntry} {seen : Array Nat} {e : MapEntry} (hn : (l.map (·.born)).Nodup) (he : e ∈ l) (hns : e.born ∉ seen.toList) :
  l.countP (fun x => decide (x.born ∈ (seen.push e.born).toList)) = l.countP (fun x => decide (x.born ∈ seen.toList)) + 1 := by
 induction l with
 | nil => cases he
 | cons a l ih =>
  simp only [List.map_cons, List.nodup_cons] at hn
  rw [List.countP_cons, List.countP_cons]
  cases he with
  | head =>
   have hrest : l.countP (fun x => decide (x.born ∈ (seen.push e.born).toList)) = l.countP (fun x => decide (x.born ∈ seen.toList)) := by
    apply List.countP_congr
    intro x hx
    have : x.born ≠ e.born := fun h => hn.1 (h ▸ List.mem_map_of_mem hx)
    simp [this]
   rw [hrest]
   have h1 : decide (e.born ∈ (seen.push e.born).toList) = true := by simp
   have h2 : decide (e.born ∈ seen.toList) = false := by simpa using hns
   rw [h1, h2]; simp
  | tail _ he =>
   rw [ih hn.2 he]
   have hne : a.born ≠ e.born := fun h => hn.1 (h ▸ List.mem_map_of_mem he)
   have : decide (a.born ∈ (seen.push e.born).toList) = decide (a.born ∈ seen.toList) := by simp [hne]
   rw [this]; omega
theorem upd_meas [DecidableEq κ] {k : κ} {y : α} (h1 : g1.get k = none) (h2 : g1.size < g.size) : g.size - (aQ.upd g1 k y).size < g.size - g1.size := by
 have : (aQ.upd g1 k y).size = g1.size + 1 := by simp [aQ.upd, h1]
 omega
theorem T_next [DecidableEq κ] {x : Operand} {d b : Nat} (hw : bU ops Γ o) (ho : o.op = .next x false) (hd : o.dst = some d) (hn : Nat.ble (d + 1) n = true) (hx : Has Γ x (fEq (ptr b)))
  (k0 : g1 = g → T β n ds ((d, dG [aI false]) :: Γ) (yU kd vf b g g1 :: Δ) (wpListIn (fw r) 0 P ops Q aU))
  (k1 : ∀ k y, g.get k = some y → g1.get k = none → g1.size < g.size → T β n ds ((d, dG [aI true, fEq (kd.val k), vf y]) :: Γ) (aBX kd vf b g (aQ.upd g1 k y) k y :: Δ) (wpListIn (fw r) 0 P ops Q aU)) :
  T β n ds Γ (yU kd vf b g g1 :: Δ) (wpListIn (fw r) 0 P ops Q (o :: aU)) := fun m L a w hF hL hS => by
 obtain ⟨H, R, rfl, hI, hR⟩ := hL
 have hnd : fU o.op = false := by rw [ho]; rfl
 have h3 : o.semAt (fw r).round a.eval = execOp a.eval o := Oper.semAt_eq _ _ _ fun c hc => by rw [hc] at hnd; cases hnd
 simp only [wpListIn, hw.wanted hF, if_true]
 refine ⟨fun _ _ => trivial, ?_⟩
 have hxe : a.eval x = ptr b := hF.has hx
 rcases hI with ⟨rfl, rfl, rfl⟩ | ⟨mb, es, clock, since, seen, c0, rfl, hm, hi⟩
 ·have hr : w.heap[b]? = some (.mapIter none 0 #[] 0) := hS.own _ (.head _)
  have e1 : (execOp a.eval o).run P w = .ok (.value (.tuple #[.bool false])) w := by
   simp [execOp, ho, hxe, ptr, Instr.next, getObj, hr, Sem.run_bind, Sem.run, pure]
  rw [h3, e1, Oper.uponIn_value, hd]
  exact k0 rfl m _ _ w (hF.put (Nat.le_of_ble_eq_true hn) ⟨_, rfl, _, _, rfl, rfl, rfl⟩) ⟨_, R, rfl, .inl ⟨rfl, rfl, rfl⟩, hR⟩ hS
 ·have hr : w.heap[b]? = some (.mapIter (some mb) since seen c0) := hS.own _ (.head _)
  obtain ⟨G, hK, hG0, hsz, hGv⟩ := hi.is
  rcases run_next_at (P := P) w o.type b mb since c0 seen es clock hr (hS.mem _ _ hm) hi.old hi.sc with ⟨h0, hrun⟩ | ⟨e, he, w1, hw1, hrun⟩
  ·have e1 : (execOp a.eval o).run P w = .ok (.value (.tuple #[.bool false])) w := by simp [execOp, ho, hxe, Sem.run_bind, ptr, hrun, Sem.run, pure]
   rw [h3, e1, Oper.uponIn_value, hd]
   have hall : ∀ e ∈ es.toList, e.born ∈ seen.toList := fun e he => by
    apply Classical.byContradiction; intro hne
    have : e ∈ (leftOf es seen).toList := by simp [leftOf] at he ⊢; exact ⟨he, by simpa using hne⟩
    have h1 : (leftOf es seen).toList.length = 0 := by simpa using h0
    rw [List.eq_nil_of_length_eq_zero h1] at this; cases this
   have hgg : g1 = g := by
    refine aQ.ext' (funext fun k => ?_) ?_
    ·cases hk : g.get k with
     | none => exact hi.none k hk
     | some y =>
      obtain ⟨v, hv, _⟩ := hGv k y hk
      obtain ⟨e, he, hek⟩ := hK.all k v hv
      rw [hi.part e he k hek, if_pos (hall e he), hk]
    ·rw [hi.size, ← hsz]
     have : es.toList.countP (fun e => decide (e.born ∈ seen.toList)) = es.toList.length := by
      rw [List.countP_eq_length]; intro e he; simpa using hall e he
     rw [this]; simp
   exact k0 hgg m _ _ w (hF.put (Nat.le_of_ble_eq_true hn) ⟨_, rfl, _, _, rfl, rfl, rfl⟩) ⟨_, R, rfl, .inr ⟨mb, es, clock, since, seen, c0, rfl, hm, hi⟩, hR⟩ hS
  ·have e1 : (execOp a.eval o).run P w = .ok (.value (.tuple #[.bool true, e.key, e.val])) (ChangeMaps.setBlock w1 b (.mapIter (some mb) since (seen.push e.born) clock)) := by simp [execOp, ho, hxe, Sem.run_bind, ptr, hrun, Sem.run, pure]
   rw [h3, e1, Oper.uponIn_value, hd]
   have hee : e ∈ es.toList ∧ e.born ∉ seen.toList := by simp [leftOf] at he ⊢; exact ⟨he.1, by simpa using he.2⟩
   obtain ⟨k, hek, hGk⟩ := hK.keys e hee.1
   obtain ⟨y, hy⟩ : ∃ y, g.get k = some y := by
    cases hk : g.get k with
    | none => rw [hG0 k hk] at hGk; cases hGk
    | some y => exact ⟨y, rfl⟩
   obtain ⟨v, hv, hvf⟩ := hGv k y hy
   rw [hGk] at hv; cases hv
   have hg1 : g1.get k = none := by rw [hi.part e hee.1 k hek, if_neg hee.2]
   have hlt : g1.size < g.size := by
    rw [hi.size, ← hsz]
    have h1 := aEg hK.stamps hee.1 hee.2
    have h2 := List.countP_le_length (p := fun x : MapEntry => decide (x.born ∈ (seen.push e.born).toList)) (l := es.toList)
    have h3 : es.toList.length = es.size := by simp
    omega
   have hS1 : St β m ((b, .mapIter (some mb) since seen c0) :: R) w1 := by rcases hw1 with rfl | rfl; exact hS; exact hS.drawn
   refine k1 k y hy hg1 hlt m _ _ _ (hF.put (Nat.le_of_ble_eq_true hn) ⟨_, rfl, _, _, rfl, rfl, _, _, rfl, hek, _, _, rfl, hvf, rfl⟩) ⟨[(b, .mapIter (some mb) since (seen.push e.born) clock)], R, rfl, ⟨mb, es, clock, since, seen, clock, e, rfl, hm, ⟨hi.is, hi.old, hi.cl, hi.cl, ?_, ?_, ?_⟩, rfl, hee.1, hek, hvf⟩, hR⟩ (aEA hS1 (k := 0) rfl)
   ·intro e' he' k' hk'
    by_cases hkk : k' = k
    ·subst hkk
     have : e' = e := aDP hK.uniq he' hee.1 (hk'.trans hek.symm)
     subst this
     simp [aQ.upd, hy]
    ·have hne : e'.born ≠ e.born := fun h => hkk (by
      have := aDP hK.stamps he' hee.1 h
      subst this
      exact kd.inj _ _ (hk'.symm.trans hek))
     have h5 : (aQ.upd g1 k y).get k' = g1.get k' := by simp [aQ.upd, hkk]
     rw [h5, hi.part e' he' k' hk']
     have : (e'.born ∈ (seen.push e.born).toList) = (e'.born ∈ seen.toList) := by simp [hne]
     simp only [this]
   ·intro k' hk'
    have hkk : k' ≠ k := fun h => by rw [h, hy] at hk'; cases hk'
    have h5 : (aQ.upd g1 k y).get k' = g1.get k' := by simp [aQ.upd, hkk]
    rw [h5]; exact hi.none k' hk'
   ·rw [aEg hK.stamps hee.1 hee.2, ← hi.size]; simp [aQ.upd, hg1]
theorem o_entry {x : Operand} {b : Nat} {k : κ} {y : α} (ho : o.op = .entry x) (hx : Has Γ x (fEq (ptr b))) : OpT P Γ [aBX kd vf b g g1 k y] o (dG [fEq (kd.val k), vf y]) :=
 ⟨by rw [ho]; rfl, fun β m L a w he hS hL => by
  obtain ⟨H, R, rfl, ⟨mb, es, clock, since, seen, c0, e, rfl, hm, hi, hc, hee, hek, hvf⟩, hR⟩ := hL
  have hr : w.heap[b]? = some (.mapIter (some mb) since (seen.push e.born) clock) := hS.own _ (.head _)
  obtain ⟨G, hK, _⟩ := hi.is
  have hrun := run_entry_at (P := P) w b mb since seen es clock e hr (hS.mem _ _ hm) hee hK.stamps
  have hxe : a.eval x = ptr b := he.get hx (by rw [ho]; simp [Op.operands])
  exact ⟨.tuple #[e.key, e.val], by simp [execOp, ho, hxe, Sem.run_bind, ptr, hrun, Sem.run, pure], [e.key, e.val], rfl, _, _, rfl, hek, _, _, rfl, hvf, rfl⟩⟩
end
end Go.SW
namespace Go.SW
open Go.SX
inductive OF where
 | pure (φ : Fact)
 | own (f : Value → Tk) (h : ∀ v m H, (f v).p m H → cX v)
def OF.tk : OF → Value → Tk
 | .pure φ, v => ⟨fun m H => H = [] ∧ φ.p m v ∧ cX v, fun h ⟨h1, h2, h3⟩ => ⟨h1, φ.mono h h2, h3⟩⟩
 | .own f _, v => f v
theorem OF.cell {f : OF} {v : Value} {m : Mem} {H : Heap} (h : (f.tk v).p m H) : cX v := by
 cases f with
 | pure φ => exact h.2.2
 | own f hf => exact hf v m H h
def eL : List OF → Mem → List Value → Heap → Prop
 | [], _, cs, H => cs = [] ∧ H = []
 | f :: fs, m, cs, H => ∃ c r H1 H2, cs = c :: r ∧ H = H1 ++ H2 ∧ (f.tk c).p m H1 ∧ eL fs m r H2
theorem eL.mono {m m' : Mem} (h : Mem.le m m') : ∀ {fs : List OF} {cs : List Value} {H : Heap}, eL fs m cs H → eL fs m' cs H
 | [], _, _, k => k
 | _ :: _, _, _, ⟨c, r, H1, H2, e1, e2, h1, h2⟩ => ⟨c, r, H1, H2, e1, e2, Tk.mono _ h h1, h2.mono h⟩
theorem eL.length {m : Mem} : ∀ {fs : List OF} {cs : List Value} {H : Heap}, eL fs m cs H → cs.length = fs.length
 | [], _, _, ⟨h, _⟩ => by rw [h]; rfl
 | _ :: _, _, _, ⟨c, r, H1, H2, e1, _, _, h2⟩ => by rw [e1]; simp [h2.length]
theorem eL.cells {m : Mem} : ∀ {fs : List OF} {cs : List Value} {H : Heap}, eL fs m cs H → ∀ c ∈ cs, cX c
 | [], _, _, ⟨h, _⟩ => by rw [h]; simp
 | _ :: _, _, _, ⟨c, r, H1, H2, e1, _, h1, h2⟩ => by
  rw [e1]; intro x hx
  cases hx with
  | head => exact OF.cell h1
  | tail _ hx => exact h2.cells x hx
theorem eL.append {m : Mem} : ∀ {fs gs : List OF} {cs ds : List Value} {H K : Heap}, eL fs m cs H → eL gs m ds K → eL (fs ++ gs) m (cs ++ ds) (H ++ K)
 | [], _, _, _, _, _, ⟨h, h'⟩, k => by rw [h, h']; exact k
 | _ :: _, _, _, _, _, _, ⟨c, r, H1, H2, e1, e2, h1, h2⟩, k => ⟨c, r ++ _, H1, H2 ++ _, by rw [e1]; rfl, by rw [e2, List.append_assoc], h1, h2.append k⟩
theorem eL.at {m : Mem} : ∀ {fs : List OF} {cs : List Value} {H : Heap} {p : Nat} {f : OF}, eL fs m cs H → fs[p]? = some f → ∃ c A K B, cs[p]? = some c ∧ H = A ++ (K ++ B) ∧ (f.tk c).p m K ∧
   ∀ m' f' c' K', Mem.le m m' → (f'.tk c').p m' K' → eL (fs.set p f') m' (cs.set p c') (A ++ (K' ++ B))
 | [], _, _, p, f, _, hp => by simp at hp
 | g :: fs, _, _, 0, f, ⟨c, r, H1, H2, e1, e2, h1, h2⟩, hp => by
  have : g = f := by simpa using hp
  subst this
  exact ⟨c, [], H1, H2, by rw [e1]; rfl, by rw [e2]; rfl, h1, fun m' f' c' K' hle hk => ⟨c', r, K', H2, by rw [e1]; rfl, rfl, hk, h2.mono hle⟩⟩
 | g :: fs, _, _, p + 1, f, ⟨c, r, H1, H2, e1, e2, h1, h2⟩, hp => by
  obtain ⟨c0, A, K, B, h3, h4, h5, h6⟩ := eL.at h2 (by simpa using hp)
  exact ⟨c0, H1 ++ A, K, B, by rw [e1]; simpa using h3, by rw [e2, h4, List.append_assoc], h5, fun m' f' c' K' hle hk => ⟨c, r.set p c', H1, A ++ (K' ++ B), by rw [e1]; rfl, by rw [List.append_assoc], Tk.mono _ hle h1, h6 m' f' c' K' hle hk⟩⟩
def fA (v : Value) (e sz n : Nat) (fs : List OF) : Tk := ⟨fun m H => ∃ cs H0 H1, fQ v sz e n cs H0 ∧ n ≤ 1000000000 ∧ H = H0 ++ H1 ∧ eL fs m cs H1,
 fun h ⟨cs, H0, H1, h1, h2, h3, h4⟩ => ⟨cs, H0, H1, h1, h2, h3, h4.mono h⟩⟩
structure OTy (α : Type) where
 sz : Nat
 leafs : α → List OF
 len : ∀ x, (leafs x).length = sz
abbrev bL {α : Type} (v : Value) (e : Nat) (o : OTy α) (xs : List α) : Tk := fA v e o.sz xs.length (xs.flatMap o.leafs)
abbrev oQ {α : Type} (v : Value) (e : Nat) (o : OTy α) (xs : List α) (p : Nat) (u : Value) : Tk := fA v e o.sz xs.length ((xs.flatMap o.leafs).set p (.pure (fEq u)))
theorem jG {v : Value} {e sz n : Nat} {fs : List OF} (m : Mem) (H : Heap) (h : (fA v e sz n fs).p m H) : cX v := let ⟨_, _, _, h1, _⟩ := h; h1.isCell
theorem dK {α : Type} {t : Ty α} {v : Value} {e : Nat} {xs : List α} (m : Mem) (H : Heap) (h : (aE v e t xs).p m H) : cX v := let ⟨_, h1, _⟩ := h; h1.isCell
def cL {α : Type} (e : Nat) (t : Ty α) : OTy (List α) := ⟨1, fun xs => [.own (fun v => aE v e t xs) (fun _ => dK)], fun _ => rfl⟩
theorem aCL {α : Type} {o : OTy α} : ∀ {xs : List α}, (xs.flatMap o.leafs).length = xs.length * o.sz
 | [] => by simp
 | x :: xs => by rw [List.flatMap_cons, List.length_append, o.len, aCL, List.length_cons, Nat.add_mul]; omega
theorem oN {α : Type} {o : OTy α} : ∀ {xs : List α} {i k : Nat} {y : α} {f : OF}, xs[i]? = some y → (o.leafs y)[k]? = some f → (xs.flatMap o.leafs)[i * o.sz + k]? = some f
 | [], i, k, y, f, h, _ => by simp at h
 | x :: xs, 0, k, y, f, h, hk => by
  have : x = y := by simpa using h
  subst this
  have hlt := (List.getElem?_eq_some_iff.1 hk).1
  rw [List.flatMap_cons, Nat.zero_mul, Nat.zero_add, List.getElem?_append_left hlt]; exact hk
 | x :: xs, i + 1, k, y, f, h, hk => by
  have e : (i + 1) * o.sz + k = (o.leafs x).length + (i * o.sz + k) := by rw [o.len, Nat.add_mul]; omega
  rw [List.flatMap_cons, e, List.getElem?_append_right (by omega), Nat.add_sub_cancel_left]
  exact oN (by simpa using h) hk
theorem aD7 {α : Type} {o : OTy α} {f : OF} {y' : α} : ∀ {xs : List α} {i k : Nat} {y : α}, xs[i]? = some y → k < o.sz → (o.leafs y).set k f = o.leafs y' → (xs.flatMap o.leafs).set (i * o.sz + k) f = (xs.set i y').flatMap o.leafs
 | [], i, k, y, h, _, _ => by simp at h
 | x :: xs, 0, k, y, h, hk, hs => by
  have : x = y := by simpa using h
  subst this
  rw [List.flatMap_cons, Nat.zero_mul, Nat.zero_add, List.set_append_left _ _ (by rw [o.len]; exact hk), hs]; rfl
 | x :: xs, i + 1, k, y, h, hk, hs => by
  have e : (i + 1) * o.sz + k = (o.leafs x).length + (i * o.sz + k) := by rw [o.len, Nat.add_mul]; omega
  rw [List.flatMap_cons, e, List.set_append_right _ _ (by omega), Nat.add_sub_cancel_left, aD7 (by simpa using h) hk hs]; rfl
section
variable {P : Program} {β : bN} {n : Nat} {ds : List Deferred} {Γ : Ctx} {Δ R : List Tk} {r : Option Nat} {Q Q' : Exit → Act → World → Prop} {F : Act → World → Prop} {ops : Array Oper} {o : Oper} {aU : List Oper}
theorem sB {m : Mem} {v : Value} {e sz k : Nat} {fs : List OF} {L : Heap} (h : bP (fA v e sz k fs :: Δ) m L) : ∃ cs H0 H1 R, L = H0 ++ (H1 ++ R) ∧ fQ v sz e k cs H0 ∧ k ≤ 1000000000 ∧ eL fs m cs H1 ∧ bP Δ m R := by
 obtain ⟨H, R, rfl, ⟨cs, H0, H1, h1, h2, rfl, h4⟩, hR⟩ := h
 exact ⟨cs, H0, H1, R, by rw [List.append_assoc], h1, h2, h4, hR⟩
theorem T_openG {v : Value} {e sz k p : Nat} {fs : List OF} {f : Value → Tk} {hf : ∀ v m H, (f v).p m H → cX v} (hp : fs[p]? = some (.own f hf)) (h : ∀ u, T β n ds Γ (f u :: fA v e sz k (fs.set p (.pure (fEq u))) :: Δ) F) :
  T β n ds Γ (fA v e sz k fs :: Δ) F := fun m L a w x y z => by
 obtain ⟨cs, H0, H1, R, rfl, h1, h2, h3, h4⟩ := sB y
 obtain ⟨c, A, K, B, h5, rfl, h6, h7⟩ := h3.at hp
 have h8 := h7 m (.pure (fEq c)) c [] (Mem.le_refl _) ⟨rfl, rfl, hf c m K h6⟩
 rw [zU h5] at h8
 have hperm : (H0 ++ ((A ++ (K ++ B)) ++ R)).Perm (K ++ ((H0 ++ (A ++ ([] ++ B))) ++ R)) := by
  simp only [List.nil_append, ← List.append_assoc]
  refine List.Perm.append_right _ (List.Perm.append_right _ ?_)
  simp only [List.append_assoc]
  rw [← List.append_assoc H0 A K]
  exact List.perm_append_comm.trans (by simp)
 exact h c m _ a w x ⟨K, _, rfl, h6, _, R, rfl, ⟨cs, H0, _, h1, h2, rfl, h8⟩, h4⟩ (z.perm hperm)
theorem T_closeG {v u : Value} {e sz k p : Nat} {fs : List OF} {f : Value → Tk} {hf : ∀ v m H, (f v).p m H → cX v} (hp : fs[p]? = some (.pure (fEq u))) (h : T β n ds Γ (fA v e sz k (fs.set p (.own f hf)) :: Δ) F) :
  T β n ds Γ (f u :: fA v e sz k fs :: Δ) F := fun m L a w x y z => by
 obtain ⟨K, L', rfl, hK, y⟩ := y
 obtain ⟨cs, H0, H1, R, rfl, h1, h2, h3, h4⟩ := sB y
 obtain ⟨c, A, K0, B, h5, rfl, ⟨rfl, hcu, _⟩, h7⟩ := h3.at hp
 have hcu : c = u := hcu
 subst hcu
 have h8 := h7 m (.own f hf) c K (Mem.le_refl _) hK
 rw [zU h5] at h8
 have hperm : (K ++ (H0 ++ ((A ++ ([] ++ B)) ++ R))).Perm ((H0 ++ (A ++ (K ++ B))) ++ R) := by
  simp only [List.nil_append, ← List.append_assoc]
  refine List.Perm.append_right _ (List.Perm.append_right _ ?_)
  simp only [List.append_assoc]
  rw [← List.append_assoc H0 A K]
  exact List.perm_append_comm.trans (by simp)
 exact h m _ a w x ⟨_, R, rfl, ⟨cs, H0, _, h1, h2, rfl, h8⟩, h4⟩ (z.perm hperm)
theorem rB {α : Type} {o : OTy α} {v : Value} {e i k : Nat} {xs : List α} {y : α} {f : Value → Tk} {hf : ∀ v m H, (f v).p m H → cX v} (hy : xs[i]? = some y) (hk : (o.leafs y)[k]? = some (.own f hf))
  (h : ∀ u, T β n ds Γ (f u :: oQ v e o xs (i * o.sz + k) u :: Δ) F) : T β n ds Γ (bL v e o xs :: Δ) F := T_openG (oN hy hk) h
theorem lO {α : Type} {o : OTy α} {v u : Value} {e i k : Nat} {xs : List α} {y y' : α} {f : Value → Tk} {hf : ∀ v m H, (f v).p m H → cX v} (hy : xs[i]? = some y) (hk : Nat.ble (k + 1) o.sz = true) (hs : (o.leafs y).set k (.own f hf) = o.leafs y')
  (h : T β n ds Γ (bL v e o (xs.set i y') :: Δ) F) : T β n ds Γ (f u :: oQ v e o xs (i * o.sz + k) u :: Δ) F := by
 have hk := Nat.le_of_ble_eq_true hk
 have hlt := (List.getElem?_eq_some_iff.1 hy).1
 have hlen : i * o.sz + k < (xs.flatMap o.leafs).length := by
  rw [aCL]
  have : (i + 1) * o.sz ≤ xs.length * o.sz := Nat.mul_le_mul_right _ hlt
  rw [Nat.add_mul] at this; omega
 refine T_closeG (p := i * o.sz + k) (hf := hf) (by rw [List.getElem?_set, if_pos rfl, if_pos hlen]) ?_
 rw [List.set_set, aD7 hy hk hs, ← List.length_set (i := i) (a := y')]
 exact h
theorem aFO {m : Mem} : ∀ {φs : List Fact} {cs : List Value}, aX φs m cs → (∀ φ ∈ φs, dW φ) → eL (φs.map .pure) m cs []
 | [], _, h, _ => ⟨h, rfl⟩
 | φ :: φs, _, ⟨c, r, e, h1, h2⟩, hl => ⟨c, r, [], [], e, rfl, ⟨rfl, h1, hl φ (.head _) m c h1⟩, aFO h2 fun ψ hψ => hl ψ (.tail _ hψ)⟩
theorem rD {α : Type} {t : Ty α} {v : Value} {e : Nat} {xs : List α} (h : T β n ds Γ (fA v e t.sz xs.length ((xs.flatMap t.leafs).map .pure) :: Δ) F) : T β n ds Γ (aE v e t xs :: Δ) F := fun m L a w x ⟨H, R, e, ⟨cs, h1, h2, h3⟩, hR⟩ z =>
 h m L a w x ⟨H, R, e, ⟨cs, H, [], h1, h2, by simp, aFO h3 aBO⟩, hR⟩ z
abbrev LF := { φ : Fact // dW φ }
def pad : Nat → List LF → List Fact
 | 0, _ => []
 | k + 1, [] => fCell :: pad k []
 | k + 1, a :: l => a.1 :: pad k l
theorem aBP : ∀ (k : Nat) (l : List LF), (pad k l).length = k
 | 0, _ => rfl
 | k + 1, [] => by simp [pad, aBP k []]
 | k + 1, a :: l => by simp [pad, aBP k l]
theorem aCa : ∀ (k : Nat) (l : List LF), ∀ φ ∈ pad k l, dW φ
 | 0, _, φ, h => by cases h
 | k + 1, [], φ, h => by
  cases h with
  | head => exact aAs
  | tail _ h => exact aCa k [] φ h
 | k + 1, a :: l, φ, h => by
  cases h with
  | head => exact a.2
  | tail _ h => exact aCa k l φ h
def tF (k : Nat) : Ty (List LF) := ⟨k, pad k, aBP k, aCa k⟩
theorem pQ {α : Type} {o : OTy α} {v : Value} {e sz k : Nat} {fs : List OF} {xs : List α} (hs : o.sz = sz) (hn : xs.length = k) (hf : fs = xs.flatMap o.leafs) (h : T β n ds Γ (bL v e o xs :: Δ) F) : T β n ds Γ (fA v e sz k fs :: Δ) F := by
 subst hs hn hf; exact h
theorem yK {α : Type} (o : OTy α) (e : Nat) (h : T β n ds Γ (bL (.slice none 0 0) e o [] :: Δ) F) : T β n ds Γ Δ F := fun m L a w hF hL hS =>
 h m L a w hF ⟨[], L, rfl, ⟨[], [], [], by simpa using fQ.nil (es := o.sz) (T := e), by simp, rfl, rfl, rfl⟩, hL⟩ hS
theorem n_makeE {α : Type} {t : Ty α} {z : α} {zs : List α} {T e by' : Nat} {x : Operand} {kd : IntKind} {k : Int} {zv : Value} (ho : o.op = .makeSlice T x x) (hx : Has Γ x (aA kd k)) (hT : ElT P T e t.sz by') (hb : Nat.ble by' 1000 = true) (hz : SX.Zero P e zv) (hzz : aN (zv.cells.toList.map fEq) (t.leafs z)) (h : mk z k = some zs) :
  OpN P Γ o (fun b => .slice (some ⟨b, 0, none⟩) zs.length zs.length) (fun b => aE (.slice (some ⟨b, 0, none⟩) zs.length zs.length) e t zs) :=
 ⟨by rw [ho]; rfl, fun β m a w he _ => by
  obtain ⟨ht, i, z', hi, h1, h2, hz', hzs⟩ := hT.spell
  have hb := Nat.le_of_ble_eq_true hb
  have : z' = zv := by
   unfold SX.Zero cQ at hz
   rw [hi] at hz
   simp only [Option.bind_some] at hz
   rw [hz'] at hz; exact Option.some.inj hz
  subst this
  unfold mk at h
  split at h
  ·rename_i hk
   cases h
   obtain ⟨j, rfl⟩ : ∃ j : Nat, k = (j : Int) := ⟨k.toNat, by omega⟩
   have hj : j ≤ 1000000000 := by omega
   have hx : a.eval x = _ := he.get hx (by rw [ho]; simp [Op.operands])
   have hr := run_make (P := P) w T e i z' ht hi hz' kd kd j j (by omega) (by omega) (by
    rw [h2]
    have : by' * j ≤ 1000 * 1000000000 := Nat.mul_le_mul hb hj
    have h5 : ((by' * j : Nat) : Int) ≤ 1000000000000 := by omega
    rw [Int.natCast_mul] at h5; omega) (by omega)
   simp only [Int.toNat_natCast] at hr ⊢
   rw [h1] at hr
   refine ⟨.cells (madeCells z'.cells (j * t.sz)) e, ?_, ?_⟩
   ·simp [execOp, ho, hx, Sem.run_bind, hr, Sem.run, pure]
   ·have hmade := aCb (m := m) (hzz.all (hQ z'.cells.toList)) j
    rw [← aAD] at hmade
    have hzl : z'.cells.toList.length = t.sz := by simpa using hzs
    rw [hzl] at hmade
    simp only [Array.toArray_toList] at hmade
    have hl := hmade.length
    rw [lF] at hl
    refine ⟨_, ⟨hl, .inr ⟨_, _, j, by simp, rfl, by simp [size_madeCells], by simp, by rw [List.take_length]⟩⟩, by simpa using hj, hmade⟩
  ·cases h⟩
theorem all_nilD {m : Mem} {fs : List OF} {c : Value} (h : ∀ f ∈ fs, (f.tk c).p m []) : eL fs m (List.replicate fs.length c) [] := by
 induction fs with
 | nil => exact ⟨rfl, rfl⟩
 | cons f fs ih => exact ⟨c, _, [], [], rfl, rfl, h f (.head _), ih fun g hg => h g (.tail _ hg)⟩
theorem aFg {m : Mem} {c : Value} : ∀ {k : Nat} {cs : List Value}, aX (List.replicate k (fEq c)) m cs → cs = List.replicate k c
 | 0, _, h => h
 | k + 1, _, ⟨d, r, e, h1, h2⟩ => by
  have h1 : d = c := h1
  rw [e, h1, aFg h2]; rfl
theorem aED {γ : Type} {c : γ} : ∀ k : Nat, (List.replicate k [c]).flatten = List.replicate k c
 | 0 => rfl
 | k + 1 => by rw [List.replicate_succ, List.flatten_cons, aED k, List.replicate_succ]; rfl
theorem T_nilsD {α : Type} {o : OTy (List α)} {v : Value} {e k : Nat} {rs : List (List LF)} (hr : rs = List.replicate k [⟨fEq (.slice none 0 0), aD trivial⟩]) (hs : o.sz = 1) (ho : ∀ f ∈ o.leafs [], ∀ m, (f.tk (.slice none 0 0)).p m [])
  (h : T β n ds Γ (bL v e o (List.replicate k []) :: Δ) F) : T β n ds Γ (aE v e (tF 1) rs :: Δ) F := fun m L a w x ⟨H, R, e', ⟨cs, h1, h2, h3⟩, hR⟩ z => by
 subst hr
 refine h m L a w x ⟨H, R, e', ⟨cs, H, [], ?_, by simpa using h2, by simp, ?_⟩, hR⟩ z
 ·have h1 : fQ v 1 e (List.replicate k ([⟨fEq (.slice none 0 0), aD trivial⟩] : List LF)).length cs H := h1
  rw [List.length_replicate] at h1
  rw [hs, List.length_replicate]; exact h1
 ·have e1 : (List.replicate k ([⟨fEq (.slice none 0 0), aD trivial⟩] : List LF)).flatMap (tF 1).leafs = List.replicate k (fEq (.slice none 0 0)) := by
   rw [aAD]
   have : (tF 1).leafs [⟨fEq (.slice none 0 0), aD trivial⟩] = [fEq (.slice none 0 0)] := rfl
   rw [this]
   exact aED k
  rw [e1] at h3
  have h4 := aFg h3
  subst h4
  have e2 : ((List.replicate k ([] : List α)).flatMap o.leafs).length = k := by rw [aCL, hs]; simp
  have h5 := all_nilD (m := m) (fs := (List.replicate k ([] : List α)).flatMap o.leafs) (c := .slice none 0 0) fun f hf => by
   obtain ⟨y, hy, hfy⟩ := List.mem_flatMap.1 hf
   rw [(List.mem_replicate.1 hy).2] at hfy
   exact ho f hfy m
  rw [e2] at h5
  exact h5
theorem aAR {m : Mem} {L : Heap} {w : World} {v : Value} {e sz k : Nat} {fs : List OF} (hL : bP [fA v e sz k fs] m L) (hS : St β m L w) :
  ∃ cs H1, eL fs m cs H1 ∧ k ≤ 1000000000 ∧ ((v = .slice none 0 0 ∧ k = 0) ∨ ∃ b cap, v = .slice (some ⟨b, 0, none⟩) k cap ∧ ∀ (j : Nat) c, cs[j]? = some c → w.cell? ⟨b, j, none⟩ = some c) := by
 obtain ⟨cs, H0, H1, R, rfl, ⟨h0, h1⟩, hb, h2, h3⟩ := sB hL
 refine ⟨cs, H1, h2, hb, ?_⟩
 rcases h1 with ⟨rfl, h4, rfl⟩ | ⟨b, c, cap, rfl, rfl, h5, h6, h7⟩
 ·exact .inl ⟨rfl, h4⟩
 ·refine .inr ⟨b, cap, rfl, fun j u hu => hS.own_cell (k := 0) (b := b) (c := c) (T := e) (fz := (0, 0)) rfl rfl rfl ?_⟩
  have := rS h7 hu
  simpa using this
theorem aCC {T e e' sz k : Nat} {x : Operand} {v : Value} {fs : List OF} (ho : o.op = .call { callee := .builtin .len, args := #[x], argTypes := #[T] }) (hx : Has Γ x (fEq v)) (hT : iR P T (.slice e)) : OpT P Γ [fA v e' sz k fs] o (aA .i64 k) :=
 ⟨by rw [ho]; rfl, fun β m L a w hev hS hL => by
  have h1 : a.eval x = v := hev.get hx (by rw [ho]; simp [Op.operands, Call.operands])
  obtain ⟨cs, _, _, _, h3⟩ := aAR hL hS
  rcases h3 with ⟨rfl, rfl⟩ | ⟨b, cap, rfl, _⟩
  ·exact ⟨_, by simp [execOp, ho, resolve, invoke, builtin, Builtin.len_, h1, Sem.run_bind, cW hT, Sem.run, pure, goInt], rfl⟩
  ·exact ⟨_, by simp [execOp, ho, resolve, invoke, builtin, Builtin.len_, h1, Sem.run_bind, cW hT, Sem.run, pure, goInt], rfl⟩⟩
theorem iY {α : Type} {T e sz : Nat} {x ix : Operand} {v : Value} {xs : List α} {fs : List OF} {kd : IntKind} {i : Int} {y : α} (ho : o.op = .indexAddr T x ix) (hx : Has Γ x (fEq v)) (hi : Has Γ ix (aA kd i)) (hT : kG P T sz) (hy : idx xs i = some y) :
  OpT P Γ [fA v e sz xs.length fs] o (iB v sz i.toNat 0) :=
 ⟨by rw [ho]; rfl, fun β m L a w hev hS hL => by
  have h1 : a.eval x = v := hev.get hx (by rw [ho]; simp [Op.operands])
  have h2 : a.eval ix = _ := hev.get hi (by rw [ho]; simp [Op.operands])
  obtain ⟨j, rfl, hj, hlt⟩ := uN hy
  obtain ⟨cs, _, _, _, h3⟩ := aAR hL hS
  rcases h3 with ⟨_, h0⟩ | ⟨b, cap, rfl, _⟩
  ·omega
  ·exact ⟨.pointer (some ⟨b, j * sz, none⟩), by simp [execOp, ho, h1, h2, aDk hT hlt, Sem.run_bind, Sem.run, pure], b, _, cap, rfl, by simp⟩⟩
theorem aEX {T e sz es i j k : Nat} {x : Operand} {v : Value} {fs : List OF} {φ : Fact} (ho : o.op = .load T x) (hx : Has Γ x (iB v es i j)) (hT : jQ P T) (hp : fs[i * es + j]? = some (.pure φ)) : OpT P Γ [fA v e sz k fs] o φ :=
 ⟨by rw [ho]; rfl, fun β m L a w hev hS hL => by
  obtain ⟨b, len, cap, rfl, h1⟩ := hev.get hx (by rw [ho]; simp [Op.operands])
  obtain ⟨cs, H1, h2, _, h3⟩ := aAR hL hS
  obtain ⟨c, A, K, B, h4, _, h5, _⟩ := h2.at hp
  rcases h3 with ⟨h, _⟩ | ⟨b', cap', h6, h7⟩
  ·cases h
  ·cases h6
   exact ⟨c, by simp [execOp, ho, h1, Sem.run_bind, Sem.run, pure, aAa hT (h7 _ c h4)], h5.2.1⟩⟩
theorem o_loadD {α : Type} {q : OTy α} {T e es i k : Nat} {x : Operand} {v : Value} {xs : List α} {y : α} {φ : Fact} (ho : o.op = .load T x) (hes : es = q.sz) (hx : Has Γ x (iB v es i k)) (hT : jQ P T) (hy : xs[i]? = some y) (hk : (q.leafs y)[k]? = some (.pure φ)) : OpT P Γ [bL v e q xs] o φ := by
 subst hes; exact aEX ho hx hT (oN hy hk)
theorem mJ {α : Type} {q : OTy α} {T e es i k : Nat} {x : Operand} {v u : Value} {xs : List α} {y : α} {f : OF} (ho : o.op = .load T x) (hes : es = q.sz) (hx : Has Γ x (iB v es i k)) (hT : jQ P T) (hy : xs[i]? = some y) (hk : (q.leafs y)[k]? = some f) : OpT P Γ [oQ v e q xs (i * q.sz + k) u] o (fEq u) := by
 subst hes
 refine aEX ho hx hT ?_
 have := (List.getElem?_eq_some_iff.1 (oN hy hk)).1
 rw [List.getElem?_set, if_pos rfl, if_pos this]
def tUnit (k : Nat) : Ty Unit := ⟨k, fun _ => List.replicate k fCell, fun _ => by simp, fun _ φ h => by rw [(List.mem_replicate.1 h).2]; exact aAs⟩
theorem aHS {α : Type} {c : List α} {i : Nat} {v : α} (h : i < c.length) : c.set i v = c.take i ++ [v] ++ c.drop (i + 1) := by
 rw [List.set_eq_take_append_cons_drop, if_pos h]; simp
theorem T_storeG {ty e sz es i j k : Nat} {x y : Operand} {v : Value} {fs : List OF} {f0 : OF} {φ : Fact} (hw : bU ops Γ o) (ho : o.op = .store ty x y) (hd : o.dst = none) (hx : Has Γ x (iB v es i j)) (hy : Has Γ y φ) (hl : dW φ)
  (hT : gT P ty 1) (hp : fs[i * es + j]? = some f0) (kk : T β n ds Γ (fA v e sz k (fs.set (i * es + j) (.pure φ)) :: Δ) (wpListIn (fw r) 0 P ops Q aU)) : T β n ds Γ (fA v e sz k fs :: Δ) (wpListIn (fw r) 0 P ops Q (o :: aU)) := fun m L a w hF hL hS => by
 obtain ⟨cs, H0, H1, R, rfl, h1, hB, h2, h4⟩ := sB hL
 obtain ⟨b, len, cap, hv, hxe⟩ := hF.has hx
 have hye := hF.has hy
 obtain ⟨c, A, K, B, h5, rfl, h6, h7⟩ := h2.at hp
 have hlt := (List.getElem?_eq_some_iff.1 h5).1
 have hz : (tUnit sz).sz = sz := rfl
 have hlen : (List.replicate k ()).length = k := by simp
 have h1' : fQ v (tUnit sz).sz e (List.replicate k ()).length cs H0 := by rw [hlen]; exact h1
 obtain ⟨w', H', hr, hS', hR'⟩ := aAr (P := P) (t := tUnit sz) (xs := List.replicate k ()) (vs := [a.eval y]) (off := i * es + j) hS h1' hv (by simp; omega) (fun u hu => by simp at hu; subst hu; exact hl m _ hye)
 have hnd : fU o.op = false := by rw [ho]; rfl
 have h3 : o.semAt (fw r).round a.eval = execOp a.eval o := Oper.semAt_eq _ _ _ fun c hc => by rw [hc] at hnd; cases hnd
 simp only [wpListIn, hw.wanted hF, if_true]
 refine ⟨fun _ _ => trivial, ?_⟩
 unfold gT nR at hT
 simp only [Option.map_eq_some_iff] at hT
 obtain ⟨inf, hi, h8⟩ := hT
 have eex : (execOp a.eval o).run P w = .ok .skip w' := by
  simp [execOp, ho, hxe, Instr.storeAt, Instr.sureAddr, storeVar, iE hi, h8, (hl m _ hye).cells, hr, Sem.run_bind, Sem.run, pure]
 rw [h3, eex, Oper.uponIn_skip, hd]
 have hR' : fQ v sz e k (cs.take (i * es + j) ++ [a.eval y] ++ cs.drop (i * es + j + 1)) H' := by rw [hlen] at hR'; exact hR'
 have h9 := h7 m (.pure φ) (a.eval y) [] (Mem.le_refl _) ⟨rfl, hye, hl m _ hye⟩
 rw [aHS hlt] at h9
 have hS2 : St β m (H' ++ ((A ++ ([] ++ B)) ++ R)) w' := hS'.drop (by
  refine List.Sublist.append (List.Sublist.refl _) (List.Sublist.append ?_ (List.Sublist.refl _))
  exact List.Sublist.append (List.Sublist.refl _) (by simp))
 refine kk m _ _ _ hF ⟨H' ++ (A ++ ([] ++ B)), R, by simp, ⟨_, H', _, by simpa using hR', hB, rfl, by simpa using h9⟩, h4⟩ hS2
theorem aFN {α : Type} {q : OTy α} {ty e es i k : Nat} {x y : Operand} {v u : Value} {xs : List α} {z z' : α} {f0 : OF} {f : Value → Tk} {hf : ∀ v m H, (f v).p m H → cX v} (hw : bU ops Γ o) (ho : o.op = .store ty x y) (hd : o.dst = none) (hes : es = q.sz) (hx : Has Γ x (iB v es i k)) (hy : Has Γ y (fEq u)) (hu : cX u)
  (hT : gT P ty 1) (hz : xs[i]? = some z) (hp : (q.leafs z)[k]? = some f0) (hs : (q.leafs z).set k (.own f hf) = q.leafs z') (kk : T β n ds Γ (bL v e q (xs.set i z') :: Δ) (wpListIn (fw r) 0 P ops Q aU)) : T β n ds Γ (f u :: bL v e q xs :: Δ) (wpListIn (fw r) 0 P ops Q (o :: aU)) := by
 subst hes
 have hk : k < q.sz := by rw [← q.len z]; exact (List.getElem?_eq_some_iff.1 hp).1
 refine nJ (List.Perm.swap _ _ _) (T_storeG hw ho hd hx hy (aD hu) hT (oN hz hp) ?_)
 refine nJ (List.Perm.swap _ _ _) (lO (f := f) (hf := hf) hz (Nat.ble_eq_true_of_le hk) hs kk)
theorem aIe {ty e e' by' d sz k k' : Nat} {s x : Operand} {v u : Value} {fs gs : List OF} (hw : bU ops Γ o) (ho : o.op = .call { callee := .builtin .append, args := #[s, x], argTypes := #[ty, ty] }) (hd : o.dst = some d) (hn : Nat.ble (d + 1) n = true)
  (hs : Has Γ s (fEq v)) (hx : Has Γ x (fEq u)) (hT : ElT P ty e sz by') (hby : Nat.ble by' 1000 = true) (hz : k + k' ≤ 1000000000) (kk : ∀ v', T β n ds ((d, fEq v') :: Γ) (fA v' e sz (k + k') (fs ++ gs) :: Δ) (wpListIn (fw r) 0 P ops Q aU)) :
  T β n ds Γ (fA u e' sz k' gs :: fA v e sz k fs :: Δ) (wpListIn (fw r) 0 P ops Q (o :: aU)) := fun m L a w hF hL hS => by
 obtain ⟨ns, Hu, K, R0, rfl, g1, gB, g2, hL⟩ := sB hL
 obtain ⟨cs, H, J, R, rfl, h1, hB, h2, h4⟩ := sB hL
 have hnd : fU o.op = false := by rw [ho]; rfl
 have h3 : o.semAt (fw r).round a.eval = execOp a.eval o := Oper.semAt_eq _ _ _ fun c hc => by rw [hc] at hnd; cases hnd
 have hmul : (k + k') * by' ≤ 1000000000 * 1000 := Nat.mul_le_mul hz (Nat.le_of_ble_eq_true hby)
 have hgl : ns.length = k' * sz := g1.1
 have hsrc : ∃ src cap, u = .slice src k' cap ∧ (0 < k' → ∃ a, src = some a ∧ ∀ (j : Nat) c, ns[j]? = some c → w.cell? (a.add j) = some c) := by
  rcases g1.2 with ⟨rfl, g3, _⟩ | ⟨b, c, cap, rfl, rfl, g3, g4, g5⟩
  ·exact ⟨none, 0, by rw [g3], fun h => absurd h (by omega)⟩
  ·exact ⟨_, cap, rfl, fun _ => ⟨_, rfl, fun j c' hc => by rw [uB]; exact yY (b := b) (c := c) (T := e') hS (by simp) (rS g5 hc)⟩⟩
 obtain ⟨src, cap, hu, hsrc⟩ := hsrc
 have hS1 : St β m ((Hu ++ K) ++ (H ++ (J ++ R))) w := by simpa [List.append_assoc] using hS
 obtain ⟨v', R', w', h6, h7, h8⟩ := aD0 (P := P) (ty := o.type) (capx := cap) (xs := ns) (src := src) hS1 h1 hT hgl (g2.cells) hsrc (by omega) (by omega)
 simp only [wpListIn, hw.wanted hF, if_true]
 refine ⟨fun _ _ => trivial, ?_⟩
 have hse : a.eval s = v := hF.has hs
 have hxe : a.eval x = u := hF.has hx
 have e1 : (execOp a.eval o).run P w = .ok (.value v') w' := by
  simp [execOp, ho, resolve, invoke, builtin, hse, hxe, hu, Sem.run_bind, h6, Sem.run, pure]
 rw [h3, e1, Oper.uponIn_value, hd]
 have hS2 : St β m ((R' ++ (J ++ K)) ++ R) w' := by
  have h9 := h8.drop (L' := K ++ (R' ++ (J ++ R))) (by rw [List.append_assoc]; exact List.sublist_append_right _ _)
  refine h9.perm ?_
  have p1 : (K ++ (R' ++ (J ++ R))).Perm ((R' ++ (J ++ R)) ++ K) := List.perm_append_comm
  refine p1.trans ?_
  simp only [List.append_assoc]
  exact List.Perm.append_left _ (List.Perm.append_left _ List.perm_append_comm)
 exact kk v' m _ _ _ (hF.put (Nat.le_of_ble_eq_true hn) rfl) ⟨_, R, rfl, ⟨cs ++ ns, R', J ++ K, h7, hz, rfl, h2.append g2⟩, h4⟩ hS2
theorem zD {α : Type} {q : OTy α} {ty e e' by' d : Nat} {s x : Operand} {v u : Value} {xs ys zs : List α} (hw : bU ops Γ o) (ho : o.op = .call { callee := .builtin .append, args := #[s, x], argTypes := #[ty, ty] }) (hd : o.dst = some d) (hn : Nat.ble (d + 1) n = true)
  (hs : Has Γ s (fEq v)) (hx : Has Γ x (fEq u)) (hT : ElT P ty e q.sz by') (hby : Nat.ble by' 1000 = true) (hz : dN (xs ++ ys) = some zs) (kk : ∀ v', T β n ds ((d, fEq v') :: Γ) (bL v' e q zs :: Δ) (wpListIn (fw r) 0 P ops Q aU)) :
  T β n ds Γ (bL u e' q ys :: bL v e q xs :: Δ) (wpListIn (fw r) 0 P ops Q (o :: aU)) := by
 obtain ⟨rfl, hB⟩ := wD hz
 rw [List.length_append] at hB
 refine aIe hw ho hd hn hs hx hT hby hB fun v' => ?_
 have := kk v'
 unfold bL at this
 rw [List.length_append, List.flatMap_append] at this
 exact this
def dP : List OF → List Fact → Prop
 | [], φs => φs = []
 | f :: fs, φs => ∃ φ r, φs = φ :: r ∧ (∀ v, Frz (f.tk v) φ v) ∧ dP fs r
theorem dP.nil : dP [] [] := by simp [dP]
theorem dP.cons {f : OF} {φ : Fact} {fs : List OF} {φs : List Fact} (h : ∀ v, Frz (f.tk v) φ v) (k : dP fs φs) : dP (f :: fs) (φ :: φs) := ⟨φ, φs, by simp, h, k⟩
theorem aBa {φ : Fact} (v : Value) : Frz ((OF.pure φ).tk v) φ v := fun m H ⟨_, h, _⟩ m' hle _ => φ.mono hle h
theorem dP.append : ∀ {fs gs : List OF} {φs ψs : List Fact}, dP fs φs → dP gs ψs → dP (fs ++ gs) (φs ++ ψs)
 | [], _, _, _, h, k => by cases h; exact k
 | _ :: _, _, _, _, ⟨φ, r, e, h1, h2⟩, k => ⟨φ, r ++ _, by rw [e]; rfl, h1, h2.append k⟩
theorem dP.all {m m' : Mem} (hle : Mem.le m m') : ∀ {fs : List OF} {φs : List Fact} {cs : List Value} {H : Heap}, dP fs φs → eL fs m cs H → (∀ x ∈ H, m' x.1 = some x.2) → aX φs m' cs
 | [], _, _, _, h, ⟨k, _⟩, _ => by cases h; rw [k]; rfl
 | _ :: _, _, _, _, ⟨φ, r, e, h1, h2⟩, ⟨c, s, H1, H2, e1, e2, h3, h4⟩, hm => by
  subst e e1 e2
  exact ⟨c, s, rfl, h1 c m H1 h3 m' hle (fun x hx => hm x (List.mem_append_left _ hx)), dP.all hle h2 h4 fun x hx => hm x (List.mem_append_right _ hx)⟩
theorem dP.flat {α : Type} {f : α → List OF} {g : α → List Fact} (h : ∀ x, dP (f x) (g x)) : ∀ xs : List α, dP (xs.flatMap f) (xs.flatMap g)
 | [] => dP.nil
 | x :: xs => by rw [List.flatMap_cons, List.flatMap_cons]; exact (h x).append (dP.flat h xs)
theorem lI {α : Type} {q : OTy α} {t : Ty α} {v : Value} {e : Nat} {xs : List α} (hs : q.sz = t.sz) (h : ∀ x, dP (q.leafs x) (t.leafs x)) : Frz (bL v e q xs) (fSl t xs) v := fun m H ⟨cs, H0, H1, h1, h2, hH, h4⟩ m' hle hm => by
 subst hH
 have hall : dP (xs.flatMap q.leafs) (xs.flatMap t.leafs) := dP.flat h xs
 have h5 := hall.all hle h4 fun x hx => hm x (List.mem_append_right _ hx)
 rw [hs] at h1
 exact cO (t := t) (v := v) (e := e) (xs := xs) m' H0 ⟨cs, h1, h2, h5⟩ m' (Mem.le_refl _) fun x hx => hm x (List.mem_append_left _ hx)
def IndF (φ : Fact) : Prop := ∀ m m' v, φ.p m v → φ.p m' v
def IndK (τ : Tk) : Prop := ∀ m m' H, τ.p m H → τ.p m' H
def iP (fs : List OF) : Prop := ∀ f ∈ fs, ∀ v, IndK (f.tk v)
theorem wX {v : Value} : IndF (fEq v) := fun _ _ _ h => h
theorem iP.nil : iP [] := fun _ h => by cases h
theorem iP.cons {f : OF} {fs : List OF} (h : ∀ v, IndK (f.tk v)) (k : iP fs) : iP (f :: fs) := fun g hg => by
 cases hg with
 | head => exact h
 | tail _ hg => exact k g hg
theorem eL.ind {m m' : Mem} : ∀ {fs : List OF} {cs : List Value} {H : Heap}, iP fs → eL fs m cs H → eL fs m' cs H
 | [], _, _, _, k => k
 | _ :: _, _, _, h, ⟨c, r, H1, H2, e1, e2, h1, h2⟩ => ⟨c, r, H1, H2, e1, e2, h _ (.head _) c m m' H1 h1, h2.ind fun g hg => h g (.tail _ hg)⟩
theorem ind_rowG {v : Value} {e sz k : Nat} {fs : List OF} (h : iP fs) : IndK (fA v e sz k fs) := fun m m' H ⟨cs, H0, H1, h1, h2, h3, h4⟩ => ⟨cs, H0, H1, h1, h2, h3, h4.ind h⟩
theorem aDy {α : Type} {q : OTy α} {v : Value} {e : Nat} {xs : List α} (h : ∀ x, iP (q.leafs x)) : IndK (bL v e q xs) := ind_rowG fun f hf => by
 obtain ⟨y, _, hfy⟩ := List.mem_flatMap.1 hf
 exact h y f hfy
theorem aX.ind {m m' : Mem} : ∀ {φs : List Fact} {cs : List Value}, (∀ φ ∈ φs, IndF φ) → aX φs m cs → aX φs m' cs
 | [], _, _, k => k
 | φ :: _, _, h, ⟨c, r, e, h1, h2⟩ => ⟨c, r, e, h φ (.head _) m m' c h1, aX.ind (fun ψ hψ => h ψ (.tail _ hψ)) h2⟩
theorem aC0 {α : Type} {t : Ty α} {v : Value} {e : Nat} {xs : List α} (h : ∀ x, ∀ φ ∈ t.leafs x, IndF φ) : IndK (aE v e t xs) := fun m m' H ⟨cs, h1, h2, h3⟩ => ⟨cs, h1, h2, h3.ind fun φ hφ => by
 obtain ⟨y, _, hy⟩ := List.mem_flatMap.1 hφ
 exact h y φ hy⟩
theorem aCt {k : IntKind} : ∀ x, ∀ φ ∈ (aB k).leafs x, IndF φ := fun x φ h => by
 have : φ = aA k x := by simpa [aB] using h
 subst this; exact wX
end
end Go.SW
namespace Go.SW
open Go.SX
def iX (H : Heap) (m : Mem) : Mem := fun b => match H.lookup b with
 | some o => some o
 | none => m b
open Classical in
noncomputable def rmH (H : Heap) (m : Mem) : Mem := fun b => if b ∈ H.map Prod.fst then none else m b
theorem aEw : ∀ {H : Heap} {b : Nat}, b ∉ H.map Prod.fst → H.lookup b = none
 | [], _, _ => rfl
 | (c, o) :: H, b, h => by
  simp only [List.map_cons, List.mem_cons, not_or] at h
  rw [List.lookup_cons]
  have : (b == c) = false := by simpa using h.1
  rw [this]; exact aEw h.2
theorem aBl : ∀ {H : Heap} {b : Nat} {o : Obj}, H.lookup b = some o → (b, o) ∈ H
 | [], _, _, h => by cases h
 | (c, o') :: H, b, o, h => by
  rw [List.lookup_cons] at h
  cases hb : (b == c) with
  | true => rw [hb] at h; cases h; have := eq_of_beq hb; subst this; exact .head _
  | false => rw [hb] at h; exact .tail _ (aBl h)
theorem aGj : ∀ {H : Heap} {b : Nat} {o : Obj}, (H.map Prod.fst).Nodup → (b, o) ∈ H → H.lookup b = some o
 | (c, o') :: H, b, o, hn, h => by
  rw [List.lookup_cons]
  simp only [List.map_cons, List.nodup_cons] at hn
  cases h with
  | head => simp
  | tail _ h =>
   have : b ≠ c := fun e => hn.1 (e ▸ List.mem_map_of_mem (f := Prod.fst) h)
   have : (b == c) = false := by simpa using this
   rw [this]; exact aGj hn.2 h
theorem aDN {H : Heap} {m : Mem} (hn : (H.map Prod.fst).Nodup) : ∀ x ∈ H, iX H m x.1 = some x.2 := fun x hx => by
 unfold iX; rw [aGj hn hx]
theorem insH_le {H : Heap} {m : Mem} (ha : ∀ x ∈ H, m x.1 = none) : Mem.le m (iX H m) := fun b o h => by
 unfold iX
 cases hl : H.lookup b with
 | none => exact h
 | some o' => have := ha _ (aBl hl); simp only at this; rw [this] at h; cases h
theorem aCM {H : Heap} {m : Mem} {b : Nat} (h : b ∉ H.map Prod.fst) : iX H m b = m b := by unfold iX; rw [aEw h]
theorem rmH_ne {H : Heap} {m : Mem} {b : Nat} (h : b ∉ H.map Prod.fst) : rmH H m b = m b := by unfold rmH; rw [if_neg h]
theorem rmH_in {H : Heap} {m : Mem} {b : Nat} (h : b ∈ H.map Prod.fst) : rmH H m b = none := by unfold rmH; rw [if_pos h]
theorem thaw {P : Program} {f : FuncId} {vs : List Value} {m : Mem} {H A : Heap} {post : Mem → Heap → Ending → Prop} (hX : FnX P f vs (iX H m) A post) :
  FnX P f vs m (H ++ A) (fun m' L' e => ∃ L'', L' = H ++ L'' ∧ ∃ m'', m' = rmH H m'' ∧ post m'' L'' e) := fun w hS => by
 have hnd := hS.nodup
 rw [List.map_append] at hnd
 obtain ⟨hnH, hnA, hdis⟩ := List.nodup_append.1 hnd
 have hH : ∀ x ∈ H, m x.1 = none := fun x hx => hS.apart x (List.mem_append_left _ hx)
 have hAH : ∀ x ∈ A, x.1 ∉ H.map Prod.fst := fun x hx hin => hdis _ hin _ (List.mem_map_of_mem hx) rfl
 have hS' : St ⟨w, iX H m, A.map Prod.fst⟩ (iX H m) A w := {
  mem := fun b o h => by
   unfold iX at h
   cases hl : H.lookup b with
   | none => rw [hl] at h; exact hS.mem b o h
   | some o' => rw [hl] at h; cases h; exact hS.own _ (List.mem_append_left _ (aBl hl))
  own := fun x hx => hS.own x (List.mem_append_right _ hx)
  apart := fun x hx => by rw [aCM (hAH x hx)]; exact hS.apart x (List.mem_append_right _ hx)
  nodup := hnA
  mle := Mem.le_refl _
  mnew := fun b h => absurd rfl h
  keys := fun x hx _ => List.mem_map_of_mem hx
  size := Nat.le_refl _
  frame := fun _ _ _ => rfl
  os := rfl
  output := rfl
  tape := rfl }
 refine (hX w hS').mono fun e w' ⟨m'', L'', h1, h2⟩ => ⟨rmH H m'', H ++ L'', ?_, L'', rfl, m'', rfl, h2⟩
 have hHm : ∀ x ∈ H, m'' x.1 = some x.2 := fun x hx => h1.mle _ _ (aDN hnH x hx)
 exact {
  mem := fun b o h => by
   unfold rmH at h
   split at h
   ·cases h
   ·exact h1.mem b o h
  own := fun x hx => by
   rcases List.mem_append.1 hx with hx | hx
   ·exact h1.mem _ _ (hHm x hx)
   ·exact h1.own x hx
  apart := fun x hx => by
   rcases List.mem_append.1 hx with hx | hx
   ·exact rmH_in (List.mem_map_of_mem hx)
   ·unfold rmH; split
    ·rfl
    ·exact h1.apart x hx
  nodup := by
   rw [List.map_append]
   refine List.nodup_append.2 ⟨hnH, h1.nodup, fun a ha b hb e => ?_⟩
   obtain ⟨x, hx, rfl⟩ := List.mem_map.1 ha
   obtain ⟨y, hy, rfl⟩ := List.mem_map.1 hb
   have := h1.apart y hy
   rw [← e, hHm x hx] at this; cases this
  mle := fun b o h => by
   have hb : b ∉ H.map Prod.fst := fun hin => by
    obtain ⟨x, hx, rfl⟩ := List.mem_map.1 hin
    have h : m x.1 = some o := h
    rw [hH x hx] at h; cases h
   rw [rmH_ne hb]
   exact h1.mle b o (by show iX H m b = some o; rw [aCM hb]; exact h)
  mnew := fun b h => by
   by_cases hb : b ∈ H.map Prod.fst
   ·exact .inr (by rw [List.map_append]; exact List.mem_append_left _ hb)
   ·rw [rmH_ne hb] at h
    rcases h1.mnew b (by show m'' b ≠ iX H m b; rw [aCM hb]; exact h) with h3 | h3
    ·exact .inl h3
    ·exact .inr (by rw [List.map_append]; exact List.mem_append_right _ h3)
  keys := fun x hx hlt => by
   rw [List.map_append]
   rcases List.mem_append.1 hx with hx | hx
   ·exact List.mem_append_left _ (List.mem_map_of_mem hx)
   ·exact List.mem_append_right _ (h1.keys x hx hlt)
  size := h1.size
  frame := fun b hb hn => h1.frame b hb fun hin => hn (by rw [List.map_append]; exact List.mem_append_right _ hin)
  os := h1.os
  output := h1.output
  tape := h1.tape }
def xW (Λ : List (Value × Fact)) (m : Mem) : Prop := ∀ p ∈ Λ, p.2.p m p.1
def gJ (Δ : List Tk) (Λ : List (Value × Fact)) : Prop := ∀ m L, bP Δ m L → ∀ m', Mem.le m m' → (∀ x ∈ L, m' x.1 = some x.2) → xW Λ m'
theorem gJ.nil : gJ [] [] := fun _ _ _ _ _ _ _ h => by cases h
theorem gJ.cons {τ : Tk} {φ : Fact} {v : Value} {Δ : List Tk} {Λ : List (Value × Fact)} (h : Frz τ φ v) (k : gJ Δ Λ) : gJ (τ :: Δ) ((v, φ) :: Λ) := fun m L ⟨H, R, e, h1, h2⟩ m' hle hm p hp => by
 subst e
 cases hp with
 | head => exact h m H h1 m' hle fun x hx => hm x (List.mem_append_left _ hx)
 | tail _ hp => exact k m R h2 m' hle (fun x hx => hm x (List.mem_append_right _ hx)) p hp
def EntW (Λ : List (Value × Fact)) (ψ φ : Fact) : Prop := ∀ m u, xW Λ m → ψ.p m u → φ.p m u
theorem yC {Λ : List (Value × Fact)} {ψ φ : Fact} (h : Ent ψ φ) : EntW Λ ψ φ := fun m u _ => h m u
theorem tJ {Λ : List (Value × Fact)} {v : Value} {φ : Fact} (i : Nat) (h : Λ[i]? = some (v, φ)) : EntW Λ (fEq v) φ := fun m u hl hu => by
 have hu : u = v := hu
 subst hu
 exact hl _ (List.mem_of_getElem? h)
def mL (Λ : List (Value × Fact)) : List Fact → List Fact → Prop
 | [], φs => φs = []
 | ψ :: ψs, φs => ∃ φ r, φs = φ :: r ∧ EntW Λ ψ φ ∧ mL Λ ψs r
theorem mL.nil {Λ : List (Value × Fact)} : mL Λ [] [] := by simp [mL]
theorem mL.cons {Λ : List (Value × Fact)} {ψ φ : Fact} {ψs φs : List Fact} (h : EntW Λ ψ φ) (k : mL Λ ψs φs) : mL Λ (ψ :: ψs) (φ :: φs) := ⟨φ, φs, by simp, h, k⟩
theorem mL.all {Λ : List (Value × Fact)} {m : Mem} (hl : xW Λ m) : ∀ {ψs φs : List Fact} {cs : List Value}, mL Λ ψs φs → aX ψs m cs → aX φs m cs
 | [], _, _, h, k => by rw [h]; exact k
 | _ :: _, _, _, ⟨φ, r, e, h1, h2⟩, ⟨c, s, e2, h3, h4⟩ => by rw [e]; exact ⟨c, s, e2, h1 m c hl h3, mL.all hl h2 h4⟩
def eM (Γ : Ctx) (Λ : List (Value × Fact)) : List Operand → List Fact → Prop
 | [], φs => φs = []
 | x :: xs, φs => ∃ φ r ψ, φs = φ :: r ∧ evT Γ x = some ψ ∧ EntW Λ ψ φ ∧ eM Γ Λ xs r
theorem eM.nil {Γ : Ctx} {Λ : List (Value × Fact)} : eM Γ Λ [] [] := by simp [eM]
theorem eM.cons {Γ : Ctx} {Λ : List (Value × Fact)} {x : Operand} {φ ψ : Fact} {xs : List Operand} {φs : List Fact} (h : evT Γ x = some ψ) (h2 : EntW Λ ψ φ) (k : eM Γ Λ xs φs) : eM Γ Λ (x :: xs) (φ :: φs) := ⟨φ, φs, ψ, by simp, h, h2, k⟩
theorem eM.all {n : Nat} {ds : List Deferred} {Γ : Ctx} {Λ : List (Value × Fact)} {m m' : Mem} {a : Act} (hF : FT n ds Γ m a) (hle : Mem.le m m') (hl : xW Λ m') : ∀ {xs : List Operand} {φs : List Fact}, eM Γ Λ xs φs → aX φs m' (xs.map a.eval)
 | [], _, h => by rw [h]; rfl
 | x :: xs, _, ⟨φ, r, ψ, e, h1, h2, h3⟩ => by rw [e]; exact ⟨_, _, rfl, h2 m' _ hl (ψ.mono hle (hF.eval h1)), eM.all hF hle hl h3⟩
theorem bP.ind {m m' : Mem} : ∀ {Δ : List Tk} {L : Heap}, (∀ τ ∈ Δ, IndK τ) → bP Δ m L → bP Δ m' L
 | [], _, _, h => h
 | τ :: Δ, _, h, ⟨H, R, e, h1, h2⟩ => ⟨H, R, e, h τ (.head _) m m' H h1, bP.ind (fun σ hσ => h σ (.tail _ hσ)) h2⟩
section
variable {P : Program} {β : bN} {n : Nat} {ds : List Deferred} {Γ : Ctx} {Δ R : List Tk} {r : Option Nat} {Q Q' : Exit → Act → World → Prop} {F : Act → World → Prop} {ops : Array Oper} {o : Oper} {aU : List Oper}
theorem aDl {g : Operand} {args : List Operand} {ts : Array TypeId} {f : FuncId} {φs : List Fact} {Λ : List (Value × Fact)} {Δl Δi Δr : List Tk} {Φ : Fact} {Δo : Value → List Tk} {m : Mem} {L : Heap} {a : Act} {w : World} {K : Act → World → Prop}
  (ho : o.op = .call { callee := .value g, args := args.toArray, argTypes := ts }) (hg : Has Γ g (fEq (.func (.func f) #[] #[]))) (hargs : eM Γ Λ args φs) (hf : eT P f) (hc : FnS P f φs Δi Φ Δo) (hΦ : IndF Φ) (hΔo : ∀ v, ∀ τ ∈ Δo v, IndK τ) (hfr : gJ Δl Λ)
  (hF : FT n ds Γ m a) (hL : bP (Δl ++ (Δi ++ Δr)) m L) (hS : St β m L w)
  (k : ∀ m' L' v w', Mem.le m m' → Φ.p m' v → bP (Δl ++ (Δo v ++ Δr)) m' L' → St β m' L' w' → K (a.put o.dst v) w') : o.wpIn (fw r) 0 P a w K Q := by
 obtain ⟨H, L1, rfl, hH, hL1⟩ := hL.split
 obtain ⟨A, B, rfl, hA, hB⟩ := hL1.split
 have hnd := hS.nodup
 rw [List.map_append] at hnd
 have hnH := (List.nodup_append.1 hnd).1
 have hap : ∀ x ∈ H, m x.1 = none := fun x hx => hS.apart x (List.mem_append_left _ hx)
 have hle := insH_le hap
 have hl : xW Λ (iX H m) := hfr m H hH _ hle (aDN hnH)
 have hX := hc (iX H m) A (args.map a.eval) (hargs.all hF hle hl) (hA.mono hle)
 refine kU (L := H ++ A) (R := B) (first := #[]) (captured := #[]) (vs := args.map a.eval) ho (hF.has hg) (by simp) hf (thaw hX) (by rw [List.append_assoc]; exact hS)
  (fun m' L' v w' hle' ⟨L'', e1, m'', e2, u, he, h3, h4⟩ hS' => ?_) (fun m' L' c w' _ ⟨L'', _, m'', _, u, he, _⟩ _ => by cases he) (fun m' L' ⟨L'', _, m'', _, u, he, _⟩ => by cases he)
 cases he
 subst e1
 refine k m' _ v w' hle' (hΦ m'' m' v h3) ((hH.mono hle').append ((h4.ind (hΔo v)).append (hB.mono hle'))) (by rw [← List.append_assoc]; exact hS')
theorem zL {g : Operand} {args : List Operand} {ts : Array TypeId} {f : FuncId} {φs : List Fact} (Λ : List (Value × Fact)) {Δl Δi Δr Δo : List Tk} {Φ : Fact} {d : Option Nat} (hw : bU ops Γ o) (ho : o.op = .call { callee := .value g, args := args.toArray, argTypes := ts }) (hd : o.dst = d) (hn : xA d n = true)
  (hg : Has Γ g (fEq (.func (.func f) #[] #[]))) (hargs : eM Γ Λ args φs) (hf : eT P f) (hc : FnS P f φs Δi Φ (fun _ => Δo)) (hΦ : IndF Φ) (hΔo : ∀ τ ∈ Δo, IndK τ) (hfr : gJ Δl Λ) (hΔ : Δ = Δl ++ (Δi ++ Δr))
  (k : T β n ds (putG d Φ Γ) (Δl ++ (Δo ++ Δr)) (wpListIn (fw r) 0 P ops Q aU)) : T β n ds Γ Δ (wpListIn (fw r) 0 P ops Q (o :: aU)) := fun m L a w hF hL hS => by
 subst hΔ
 simp only [wpListIn, hw.wanted hF, if_true]
 refine aDl ho hg hargs hf hc hΦ (fun _ => hΔo) hfr hF hL hS fun m' L' v w' hle h1 h2 h3 => ?_
 refine k m' L' _ w' ?_ h2 h3
 subst hd
 cases hdd : o.dst with
 | none => exact hF.mono hle
 | some t => rw [hdd] at hn; exact (hF.mono hle).put (Nat.le_of_ble_eq_true hn) h1
theorem aIW {g : Operand} {args : List Operand} {ts : Array TypeId} {f : FuncId} {φs : List Fact} (Λ : List (Value × Fact)) {Δl Δi Δr : List Tk} {Δo : Value → List Tk} {Φ : Fact} {d : Nat} (hw : bU ops Γ o) (ho : o.op = .call { callee := .value g, args := args.toArray, argTypes := ts }) (hd : o.dst = some d) (hn : Nat.ble (d + 1) n = true)
  (hg : Has Γ g (fEq (.func (.func f) #[] #[]))) (hargs : eM Γ Λ args φs) (hf : eT P f) (hc : FnS P f φs Δi Φ Δo) (hΦ : IndF Φ) (hΔo : ∀ v, ∀ τ ∈ Δo v, IndK τ) (hfr : gJ Δl Λ) (hΔ : Δ = Δl ++ (Δi ++ Δr))
  (k : ∀ v, T β n ds ((d, fEq v) :: Γ) (Δl ++ (Δo v ++ Δr)) (wpListIn (fw r) 0 P ops Q aU)) : T β n ds Γ Δ (wpListIn (fw r) 0 P ops Q (o :: aU)) := fun m L a w hF hL hS => by
 subst hΔ
 simp only [wpListIn, hw.wanted hF, if_true]
 refine aDl ho hg hargs hf hc hΦ hΔo hfr hF hL hS fun m' L' v w' hle h1 h2 h3 => ?_
 rw [hd]
 exact k v m' L' _ w' ((hF.mono hle).put (Nat.le_of_ble_eq_true hn) rfl) h2 h3
theorem indF_any : IndF fAny := fun _ _ _ _ => trivial
theorem aEm {φs : List Fact} (h : ∀ φ ∈ φs, IndF φ) : IndF (dG φs) := fun _ _ _ ⟨cs, h1, h2⟩ => ⟨cs, h1, h2.ind h⟩
def fWrap (c : Array Value → Value) (φs : List Fact) : Fact := ⟨fun m v => ∃ cs : List Value, v = c cs.toArray ∧ aX φs m cs, fun h ⟨cs, h1, h2⟩ => ⟨cs, h1, h2.mono h⟩⟩
def rX (c : Array Value → Value) (fs : List OF) (v : Value) : Tk := ⟨fun m H => ∃ cs : List Value, v = c cs.toArray ∧ eL fs m cs H, fun h ⟨cs, h1, h2⟩ => ⟨cs, h1, h2.mono h⟩⟩
def OpenK : List OF → (List Fact → List Tk → Prop) → Prop
 | [], K => K [] []
 | .pure φ :: fs, K => OpenK fs fun φs Δ => K (φ :: φs) Δ
 | .own f _ :: fs, K => ∀ u, OpenK fs fun φs Δ => K (fEq u :: φs) (f u :: Δ)
theorem aBv {m : Mem} : ∀ {fs : List OF} {K : List Fact → List Tk → Prop} {cs : List Value} {H : Heap}, OpenK fs K → eL fs m cs H → ∃ φs Δ, K φs Δ ∧ aX φs m cs ∧ bP Δ m H
 | [], _, _, _, h, ⟨e1, e2⟩ => ⟨[], [], h, e1, e2⟩
 | .pure φ :: fs, K, _, _, h, ⟨c, r, H1, H2, e1, e2, ⟨e3, h1, _⟩, h2⟩ => by
  subst e3
  obtain ⟨φs, Δ, h3, h4, h5⟩ := aBv (fs := fs) (K := fun φs Δ => K (φ :: φs) Δ) h h2
  exact ⟨φ :: φs, Δ, h3, ⟨c, r, e1, h1, h4⟩, by rw [e2]; exact h5⟩
 | .own f _ :: fs, K, _, _, h, ⟨c, r, H1, H2, e1, e2, h1, h2⟩ => by
  obtain ⟨φs, Δ, h3, h4, h5⟩ := aBv (fs := fs) (K := fun φs Δ => K (fEq c :: φs) (f c :: Δ)) (h c) h2
  exact ⟨fEq c :: φs, f c :: Δ, h3, ⟨c, r, e1, rfl, h4⟩, ⟨H1, H2, e2, h1, h5⟩⟩
theorem aEL {c : Array Value → Value} {fs : List OF} {v : Value} {d : Nat} (h : OpenK fs fun φs Δ' => T β n ds ((d, fWrap c φs) :: Γ) (Δ' ++ Δ) F) : T β n ds ((d, fEq v) :: Γ) (rX c fs v :: Δ) F := fun m L a w hF hL hS => by
 obtain ⟨H, R, rfl, ⟨cs, hv, hcs⟩, hR⟩ := hL
 obtain ⟨φs, Δ', h1, h2, h3⟩ := aBv h hcs
 refine h1 m _ a w ⟨hF.size, hF.defs, fun t ψ ht => ?_⟩ (h3.append hR) hS
 rcases oO ht with ⟨rfl, rfl⟩ | ⟨hne, ht⟩
 ·obtain ⟨u, h4, h5⟩ := hF.get d (fEq v) (by simp [lk])
  have h5 : u = v := h5
  exact ⟨u, h4, cs, h5.trans hv, h2⟩
 ·exact hF.get t ψ (by
   simp only [lk]
   have : Nat.beq d t = false := by
    cases hb : Nat.beq d t with
    | false => rfl
    | true => exact absurd (Nat.eq_of_beq_eq_true hb) hne
   rw [this]; exact ht)
def eJ : List OF → List Fact → List Tk → Prop
 | [], φs, Δ => φs = [] ∧ Δ = []
 | .pure ψ :: fs, φs, Δ => ∃ φ r, φs = φ :: r ∧ Ent φ ψ ∧ dW ψ ∧ eJ fs r Δ
 | .own f _ :: fs, φs, Δ => ∃ u r Δ', φs = fEq u :: r ∧ Δ = f u :: Δ' ∧ eJ fs r Δ'
theorem eJ.nil : eJ [] [] [] := ⟨rfl, rfl⟩
theorem eJ.pure {φ ψ : Fact} {fs : List OF} {φs : List Fact} {Δ : List Tk} (h : Ent φ ψ) (hl : dW ψ) (k : eJ fs φs Δ) : eJ (.pure ψ :: fs) (φ :: φs) Δ := ⟨φ, φs, rfl, h, hl, k⟩
theorem eJ.own {f : Value → Tk} {hf : ∀ v m H, (f v).p m H → cX v} {u : Value} {fs : List OF} {φs : List Fact} {Δ : List Tk} (k : eJ fs φs Δ) : eJ (.own f hf :: fs) (fEq u :: φs) (f u :: Δ) := ⟨u, φs, Δ, rfl, rfl, k⟩
theorem eJ.all {m : Mem} : ∀ {fs : List OF} {φs : List Fact} {Δ : List Tk} {cs : List Value} {L : Heap}, eJ fs φs Δ → aX φs m cs → bP Δ m L → eL fs m cs L
 | [], _, _, _, _, ⟨e1, e2⟩, h1, h2 => by subst e1 e2; exact ⟨h1, h2⟩
 | .pure ψ :: fs, _, _, _, _, ⟨φ, r, e1, he, hl, hk⟩, h1, h2 => by
  subst e1
  obtain ⟨c, s, e3, h3, h4⟩ := h1
  exact ⟨c, s, [], _, e3, rfl, ⟨rfl, he m c h3, hl m c (he m c h3)⟩, hk.all h4 h2⟩
 | .own f _ :: fs, _, _, _, _, ⟨u, r, Δ', e1, e2, hk⟩, h1, h2 => by
  subst e1 e2
  obtain ⟨c, s, e3, h3, h4⟩ := h1
  obtain ⟨H, R, e4, h5, h6⟩ := h2
  have h3 : c = u := h3
  subst h3
  exact ⟨c, s, H, R, e3, e4, h5, hk.all h4 h6⟩
theorem aF2 {fn : Func} {φ ψ : Fact} {fs : List OF} {t u : Nat} (hr : fn.results = #[.tmp t, .tmp u]) (hv : gK Γ t φ) (hz : gK Γ u ψ) (ha : eJ fs [φ, ψ] Δ) : T β n [] Γ Δ (bodyPost P fn (fR β fAny (fun v => [rX .tuple fs v])) .ret) := fun m L a w hF hL hS => by
 obtain ⟨_, h1, h2⟩ := hv
 obtain ⟨v, h3, h4⟩ := hF.get t _ h1
 obtain ⟨_, g1, g2⟩ := hz
 obtain ⟨z, g3, g4⟩ := hF.get u _ g1
 exact ⟨hF.defs, .tuple #[v, z], by simp [results, hr, Array.getD_eq_getD_getElem?, h3, g3, Sem.run_bind, Sem.run, pure], m, L, hS, _, rfl, trivial,
  L, [], by simp, ⟨[v, z], rfl, ha.all ⟨v, [z], rfl, h2 m v h4, z, [], rfl, g2 m z g4, rfl⟩ hL⟩, rfl⟩
theorem aEI {fn : Func} {fs : List OF} {Δ1 : List Tk} {t b sz : Nat} {ty ty' : TypeId} {φs : List Fact} (hr : fn.results = #[.cell t ty]) (hT : jR P ty sz) (hv : gK Γ t (fEq (ptr b))) (ha : eJ fs φs Δ1) (hd : Δ = aC b ty' φs :: Δ1) (hsz : φs.length = sz) : T β n [] Γ Δ (bodyPost P fn (fR β fAny (fun v => [rX .agg fs v])) .ret) := fun m L a w hF hL hS => by
 subst hsz
 subst hd
 obtain ⟨χ, h1, h2⟩ := hv
 obtain ⟨v, h3, h4⟩ := hF.get t χ h1
 have h5 : v = ptr b := h2 m v h4
 subst h5
 obtain ⟨cs, R, rfl, h6, h7⟩ := vV hL
 have hl := h6.length
 have h8 := SX.run_loadCellsFrom (P := P) (w := w) (p := ⟨b, 0, none⟩) cs 0 #[] (fun j u hj => by
  rw [Nat.zero_add, uB]
  exact hS.own_cell (k := 0) (b := b) (c := cs.toArray) (T := ty') (fz := (0, 0)) rfl rfl rfl (by simpa using hj))
 have hload : (loadVar ty ⟨b, 0, none⟩).run P w = .ok (.agg cs.toArray) w := by
  rw [hl] at h8
  simp [loadVar, Sem.run_bind, aC8 hT, aBt hT, loadCells, Sem.run, pure, h8]
 refine ⟨hF.defs, .agg cs.toArray, ?_, m, R, hS.drop (List.sublist_cons_self _ _), _, rfl, trivial, R, [], by simp, ⟨cs, rfl, ha.all h6 h7⟩, rfl⟩
 simp [results, hr, Array.getD_eq_getD_getElem?, h3, Sem.run_bind, Sem.run, pure, ptr, asAddr]
 rw [hload]
 rfl
variable {l : List NO} {e : Env'} {i : Nat} {od : Env' → OD} {G : Env' → Cf → (Nat → Tk) → Prop}
theorem N_callO {g : Operand} {args : List Operand} {ts : Array TypeId} {f : FuncId} {first captured : Array Value} {φs ψs : List Fact} {Φ : Fact} {p d : Nat} {τ : Value → Tk} {φ' : Oc → Fact} {Δ' : Oc → List Tk} (hod : od e = .op [p] true φ' Δ') (hφ : ∀ b, φ' b = fEq b.v) (hτ : ∀ b, Δ' b = [τ b.v]) (hw : bU ops Γ o) (hp : Δ[p]? = some cZ)
  (ho : o.op = .call { callee := .value g, args := args.toArray, argTypes := ts }) (hd : o.dst = some d)
  (hg : Has Γ g (fEq (.func (.func f) first captured))) (hargs : aK Γ args φs) (hall : first.toList.map fEq ++ φs ++ captured.toList.map fEq = ψs) (hf : eT P f) (hc : FnS P f ψs [] Φ (fun v => [τ v]))
  (k : ∀ b u, NC P r ops G l (e.set i ⟨b, u⟩) (lk ((d, fEq u) :: Γ)) (dOf (Δ.set p (τ u)))) : NC P r ops G ((i, o, od) :: l) e (lk Γ) (dOf Δ) := by
 refine ⟨?_, fun b => ?_⟩
 ·simp only [hod]
  refine ⟨hw, ?_, fun b => by rw [hτ]; rfl⟩
  intro β n ds m L R a w K Q hF hL hS hk
  have hL0 : L = [] := by
   obtain ⟨H, R', rfl, h1, h2⟩ := hL
   simp only [dOf, hp, Option.getD_some] at h1
   have h1 : H = [] := h1
   have h2 : R' = [] := h2
   rw [h1, h2]; rfl
  subst hL0
  have he := jY hF
  have hge : a.eval g = _ := he.get hg (by rw [ho]; simp [Op.operands, Call.operands])
  have hall' : aX ψs m (first.toList ++ args.map a.eval ++ captured.toList) := hall ▸ (((hQ _).append (hargs.all' he (by rw [ho]; intro x hx; simp [Op.operands, Call.operands, hx]))).append (hQ _))
  refine kU (L := []) ho hge rfl hf (hc m [] _ hall' rfl) hS (fun m' L' v w' hle ⟨u, hv, h3, h4⟩ hS' => ?_) (fun m' L' c w' _ ⟨u, hv, _⟩ _ => by cases hv) (fun m' L' ⟨u, hv, _⟩ => by cases hv)
  cases hv
  exact hk ⟨0, v⟩ m' L' v w' hle (by rw [hφ]; rfl) (by simp only [OD.wr, if_true]; rw [hτ]; exact h4) hS'
 ·have hlt := (List.getElem?_eq_some_iff.1 hp).1
  simp only [hod, eZ, eP, if_true, hd, hφ, hτ]
  rw [rZ hlt]
  exact k b.n b.v
end
end Go.SW
namespace Go.SW
open Go.SX
section
variable {P : Program} {β : bN} {n : Nat} {ds : List Deferred} {Γ : Ctx} {Δ R : List Tk} {F : Act → World → Prop}
theorem eB {v : Value} {e sz k : Nat} {fs : List OF} (i : Nat) (hi : Δ[i]? = some (fA v e sz k fs)) (h : cX v → T β n ds Γ Δ F) : T β n ds Γ Δ F := fun m L a w hF hL hS => by
 obtain ⟨Hs, hl, rfl, hg⟩ := hL.heaps
 have hlt := (List.getElem?_eq_some_iff.1 hi).1
 obtain ⟨H, hH⟩ : ∃ H, Hs[i]? = some H := ⟨Hs[i], by simp [hl, hlt]⟩
 exact h (jG m H (hg i _ H hi hH)) m _ a w hF (bP.of_heaps hl hg) hS
theorem mk_rep {α γ : Type} {z : α} {z' : γ} {k : Int} {zs : List α} (h : mk z k = some zs) : zs = List.replicate k.toNat z ∧ mk z' k = some (List.replicate k.toNat z') := by
 unfold mk at h ⊢
 split at h
 ·cases h; rename_i hk; exact ⟨rfl, by rw [if_pos hk]⟩
 ·cases h
theorem T_nilsD2 {α : Type} {o : OTy (List α)} {v : Value} {e k : Nat} {ys : List (List α)} (hy : ys = List.replicate k []) (hs : o.sz = 1) (ho : ∀ f ∈ o.leafs [], ∀ m, (f.tk (.slice none 0 0)).p m [])
  (h : T β n ds Γ (bL v e o ys :: Δ) F) : T β n ds Γ (aE v e (tF 1) (List.replicate k [⟨fEq (.slice none 0 0), aD trivial⟩]) :: Δ) F := by
 subst hy; exact T_nilsD rfl hs ho h
theorem nil_tk {α : Type} {t : Ty α} {e : Nat} : ∀ f ∈ (cL e t).leafs [], ∀ m, (f.tk (.slice none 0 0)).p m [] := fun f hf m => by
 have : f = .own (fun v => aE v e t []) (fun _ => dK) := by simpa [cL] using hf
 subst this
 exact ⟨[], by simpa using fQ.nil (es := t.sz) (T := e), by simp, rfl⟩
theorem gR {v u : Value} {e sz k p : Nat} {fs : List OF} {φ : Fact} {f : Value → Tk} {hf : ∀ v m H, (f v).p m H → cX v} (hp : fs[p]? = some (.pure φ)) (he : Ent φ (fEq u)) (h : T β n ds Γ (fA v e sz k (fs.set p (.own f hf)) :: Δ) F) :
  T β n ds Γ (f u :: fA v e sz k fs :: Δ) F := fun m L a w x y z => by
 obtain ⟨K, L', rfl, hK, y⟩ := y
 obtain ⟨cs, H0, H1, R, rfl, h1, h2, h3, h4⟩ := sB y
 obtain ⟨c, A, K0, B, h5, rfl, ⟨rfl, hcu, _⟩, h7⟩ := h3.at hp
 have hcu : c = u := he m c hcu
 subst hcu
 have h8 := h7 m (.own f hf) c K (Mem.le_refl _) hK
 rw [zU h5] at h8
 have hperm : (K ++ (H0 ++ ((A ++ ([] ++ B)) ++ R))).Perm ((H0 ++ (A ++ (K ++ B))) ++ R) := by
  simp only [List.nil_append, ← List.append_assoc]
  refine List.Perm.append_right _ (List.Perm.append_right _ ?_)
  simp only [List.append_assoc]
  rw [← List.append_assoc H0 A K]
  exact List.perm_append_comm.trans (by simp)
 exact h m _ a w x ⟨_, R, rfl, ⟨cs, H0, _, h1, h2, rfl, h8⟩, h4⟩ (z.perm hperm)
end
section
variable {P : Program} {β : bN} {n : Nat} {ds : List Deferred} {Γ : Ctx} {Δ : List Tk} {r : Option Nat} {Q : Exit → Act → World → Prop} {ops : Array Oper} {o : Oper} {l : List NO} {e : Env'} {i : Nat} {od : Env' → OD} {G : Env' → Cf → (Nat → Tk) → Prop}
theorem aCf {g : Operand} {args : List Operand} {ts : Array TypeId} {f : FuncId} {first captured : Array Value} {φs ψs : List Fact} {Φ : Fact} {p d : Nat} {τ : Value → Tk} {φ' : Oc → Fact} {Δ' : Oc → List Tk} (hod : od e = .op [p] true φ' Δ') (hφ : ∀ b, φ' b = eI b.v) (hτ : ∀ b, Δ' b = [τ b.v]) (hw : bU ops Γ o) (hp : Δ[p]? = some cZ)
  (ho : o.op = .call { callee := .value g, args := args.toArray, argTypes := ts }) (hd : o.dst = some d)
  (hg : Has Γ g (fEq (.func (.func f) first captured))) (hargs : aK Γ args φs) (hall : first.toList.map fEq ++ φs ++ captured.toList.map fEq = ψs) (hf : eT P f) (hc : FnS P f ψs [] Φ (fun v => [τ v])) (hcell : ∀ v m H, (τ v).p m H → cX v)
  (k : ∀ b u, NC P r ops G l (e.set i ⟨b, u⟩) (lk ((d, eI u) :: Γ)) (dOf (Δ.set p (τ u)))) : NC P r ops G ((i, o, od) :: l) e (lk Γ) (dOf Δ) := by
 refine ⟨?_, fun b => ?_⟩
 ·simp only [hod]
  refine ⟨hw, ?_, fun b => by rw [hτ]; rfl⟩
  intro β n ds m L R a w K Q hF hL hS hk
  have hL0 : L = [] := by
   obtain ⟨H, R', rfl, h1, h2⟩ := hL
   simp only [dOf, hp, Option.getD_some] at h1
   have h1 : H = [] := h1
   have h2 : R' = [] := h2
   rw [h1, h2]; rfl
  subst hL0
  have he := jY hF
  have hge : a.eval g = _ := he.get hg (by rw [ho]; simp [Op.operands, Call.operands])
  have hall' : aX ψs m (first.toList ++ args.map a.eval ++ captured.toList) := hall ▸ (((hQ _).append (hargs.all' he (by rw [ho]; intro x hx; simp [Op.operands, Call.operands, hx]))).append (hQ _))
  refine kU (L := []) ho hge rfl hf (hc m [] _ hall' rfl) hS (fun m' L' v w' hle ⟨u, hv, h3, h4⟩ hS' => ?_) (fun m' L' c w' _ ⟨u, hv, _⟩ _ => by cases hv) (fun m' L' ⟨u, hv, _⟩ => by cases hv)
  cases hv
  have hcv : cX v := by
   obtain ⟨H, R', _, h5, _⟩ := h4
   exact hcell v m' H h5
  exact hk ⟨0, v⟩ m' L' v w' hle (by rw [hφ]; exact ⟨rfl, hcv⟩) (by simp only [OD.wr, if_true]; rw [hτ]; exact h4) hS'
 ·have hlt := (List.getElem?_eq_some_iff.1 hp).1
  simp only [hod, eZ, eP, if_true, hd, hφ, hτ]
  rw [rZ hlt]
  exact k b.n b.v
end
theorem frz_wrap {c : Array Value → Value} {fs : List OF} {φs : List Fact} {v : Value} (h : dP fs φs) : Frz (rX c fs v) (fWrap c φs) v := fun m H ⟨cs, h1, h2⟩ m' hle hm => ⟨cs, h1, h.all hle h2 hm⟩
theorem FnS.frz {P : Program} {f : FuncId} {args : List Fact} {Δ : List Tk} {τ : Value → Tk} {φ : Fact} (h : FnS P f args Δ fAny (fun v => [τ v])) (hf : ∀ v, Frz (τ v) φ v) : FnS P f args Δ φ (fun _ => []) := fun m L vs hv hL w hS => by
 refine (h m L vs hv hL w hS).mono fun e w' ⟨m', L', hS', v, he, _, hT⟩ => ?_
 obtain ⟨H, R, e1, h1, h2⟩ := hT
 have h2 : R = [] := h2
 subst h2 e1
 obtain ⟨m'', h3, h4, h5⟩ := aAf hS'
 exact ⟨m'', [], h4, v, he, hf v m' H h1 m'' h3 h5, rfl⟩
end Go.SW
namespace Go.SW
open Go.SX
def fOpt {α : Type} (t : Ty α) (x : Option α) : Fact := ⟨fun m v => (x = none ∧ v = .pointer none) ∨ ∃ y, x = some y ∧ (aF t y).p m v, fun h k => k.imp id fun ⟨y, e, z⟩ => ⟨y, e, (aF t y).mono h z⟩⟩
theorem ent_optS {α : Type} {t : Ty α} {y : α} : Ent (aF t y) (fOpt t (some y)) := fun _ _ h => .inr ⟨y, rfl, h⟩
theorem aCw {α : Type} {t : Ty α} : Ent (fEq (.pointer none)) (fOpt t none) := fun _ _ h => .inl ⟨rfl, h⟩
theorem uA {α : Type} {t : Ty α} {x : Option α} {y : α} (h : x = some y) : Ent (fOpt t x) (aF t y) := fun m v k => by
 rcases k with ⟨e, _⟩ | ⟨z, e, hz⟩
 ·rw [h] at e; cases e
 ·rw [h] at e; cases e; exact hz
section
variable {P : Program} {Γ : Ctx} {o : Oper}
theorem o_addW {T U : TypeId} {x y : Operand} {k : IntKind} {i j : Int} (ho : o.op = .binOp .add T x y U) (hx : Has Γ x (aA k i)) (hy : Has Γ y (aA k j)) : OpT P Γ [] o (aA k (k.wrap (i + j))) :=
 gP ho hx hy jO fun w => by simp [binOp, Op.intArith, Sem.run, pure]
theorem o_mulW {T U : TypeId} {x y : Operand} {k : IntKind} {i j : Int} (ho : o.op = .binOp .mul T x y U) (hx : Has Γ x (aA k i)) (hy : Has Γ y (aA k j)) : OpT P Γ [] o (aA k (k.wrap (i * j))) :=
 gP ho hx hy jO fun w => by simp [binOp, Op.intArith, Sem.run, pure]
def andI (k : IntKind) (x y : Int) : Int := k.wrap (BitVec.ofInt k.bits x &&& BitVec.ofInt k.bits y).toNat
theorem o_and {T U : TypeId} {x y : Operand} {k : IntKind} {i j : Int} (ho : o.op = .binOp .and T x y U) (hx : Has Γ x (aA k i)) (hy : Has Γ y (aA k j)) : OpT P Γ [] o (aA k (andI k i j)) :=
 gP ho hx hy jO fun w => by simp [binOp, Op.intBits, Sem.run, pure, andI]
def shrI (k : IntKind) (x y : Int) : Option Int := if y < 0 then none else some (x.fdiv (2 ^ (min y.toNat k.bits)))
theorem guard_sh {op : BinOp} {T : TypeId} {x y : Operand} {k k' : IntKind} {i j : Int} (w : World) : (eqGuard op T x y (.int k i) (.int k' j)).run P w = .ok () w := by cases op <;> simp [eqGuard, Sem.run, pure]
theorem o_shr {T U : TypeId} {x y : Operand} {k k' : IntKind} {i j z : Int} (ho : o.op = .binOp .shr T x y U) (hx : Has Γ x (aA k i)) (hy : Has Γ y (aA k' j)) (h : shrI k i j = some z) : OpT P Γ [] o (aA k z) :=
 gP ho hx hy guard_sh fun w => by
  unfold shrI at h
  split at h
  ·cases h
  ·rename_i hj; cases h; simp [binOp, Op.shift, Sem.run, pure, hj]
def remI (k : IntKind) (x y : Int) : Option Int := if y = 0 then none else some (x.tmod y)
theorem o_rem {T U : TypeId} {x y : Operand} {k : IntKind} {i j z : Int} (ho : o.op = .binOp .rem T x y U) (hx : Has Γ x (aA k i)) (hy : Has Γ y (aA k j)) (h : remI k i j = some z) : OpT P Γ [] o (aA k z) :=
 gP ho hx hy jO fun w => by
  unfold remI at h
  split at h
  ·cases h
  ·rename_i hj; cases h; simp [binOp, Op.intDiv, Sem.run, pure, hj]
theorem aAI {α : Type} {t : Ty α} : ∀ (xs : List α) (k : Nat), (xs.take k).flatMap t.leafs = (xs.flatMap t.leafs).take (k * t.sz)
 | [], k => by simp
 | x :: xs, 0 => by simp
 | x :: xs, k + 1 => by
  rw [List.take_succ_cons, List.flatMap_cons, List.flatMap_cons, aAI xs k, show (k + 1) * t.sz = t.sz + k * t.sz from by rw [Nat.add_mul]; omega, aFU (t.len x)]
theorem aCQ {α : Type} {t : Ty α} : ∀ (xs : List α) (k : Nat), (xs.drop k).flatMap t.leafs = (xs.flatMap t.leafs).drop (k * t.sz)
 | [], k => by simp
 | x :: xs, 0 => by simp
 | x :: xs, k + 1 => by
  rw [List.drop_succ_cons, List.flatMap_cons, aCQ xs k, show (k + 1) * t.sz = t.sz + k * t.sz from by rw [Nat.add_mul]; omega, aCZ (t.len x)]
def cpy {α : Type} (xs ys : List α) (lo n : Nat) : List α := xs.take lo ++ ys.take n ++ xs.drop (lo + n)
theorem aCc {α : Type} {xs ys : List α} {lo n : Nat} (h1 : lo + n ≤ xs.length) (h2 : n ≤ ys.length) : (cpy xs ys lo n).length = xs.length := by
 simp [cpy]; omega
def aAz (v : Value) (es lo hi : Nat) : Fact := ⟨fun _ u => ∃ base base' len cap, v = .slice base len cap ∧ u = .slice base' (hi - lo) (cap - lo) ∧ (base = none → base' = none) ∧ ∀ b, base = some ⟨b, 0, none⟩ → lo < hi → base' = some ⟨b, lo * es, none⟩, fun _ h => h⟩
theorem aDQ {α : Type} {t : Ty α} {xs ys : List α} {MT e : TypeId} {x : Operand} {v : Value} {lo hi : Option Operand} {l h : Int} (ho : o.op = .slice MT x lo hi none) (hx : Has Γ x (fEq v)) (hl : HasB Γ lo 0 l) (hh : HasB Γ hi xs.length h) (hT : kG P MT t.sz)
  (hs : slc xs l h = some ys) : OpT P Γ [aE v e t xs] o (aAz v t.sz l.toNat h.toNat) :=
 ⟨by rw [ho]; rfl, fun β m L a w he hS hL => by
  have h0 : a.eval x = v := he.get hx (by rw [ho]; simp [Op.operands])
  obtain ⟨H, R, rfl, ⟨cs, hR, hB, h2⟩, h3⟩ := hL
  obtain ⟨b, cap, hv, hc, hb⟩ : ∃ (b : Option Addr) (cap : Nat), v = .slice b xs.length cap ∧ xs.length ≤ cap ∧ ∀ p, b = some p → p.off = 0 ∧ p = ⟨p.block, 0, none⟩ := by
   rcases hR with ⟨_, ⟨rfl, h4, rfl⟩ | ⟨b, c, cap, rfl, rfl, h5, h6, h7⟩⟩
   ·exact ⟨none, 0, by rw [h4], by omega, fun p h => by cases h⟩
   ·exact ⟨_, cap, rfl, h6, fun p h => by cases h; exact ⟨rfl, rfl⟩⟩
  obtain ⟨h1, h2, h3, hys⟩ := aAx hs
  have hfin : (aAz v t.sz l.toNat h.toNat).p m (.slice (if cap = l.toNat then b else b.map (·.add (l.toNat * t.sz))) (h.toNat - l.toNat) (cap - l.toNat)) := by
   refine ⟨b, _, xs.length, cap, hv, rfl, fun e => by subst e; split <;> rfl, fun b' e hlt => ?_⟩
   subst e
   rw [if_neg (by omega)]
   simp [nT]
  refine ⟨_, ?_, hfin⟩
  unfold kG rO at hT
  cases hu : P.underlying MT with
  | none => rw [hu] at hT; cases hT
  | some d =>
   rw [hu] at hT
   cases d <;> try (simp at hT; done)
   rename_i el
   simp only [Option.map_eq_some_iff] at hT
   obtain ⟨inf, hinf, hsz⟩ := hT
   have hur : (underlying MT).run P w = .ok (.slice el) w := cW hu w
   have hss := iE (P := P) hinf w
   rw [hv] at h0
   simp only [execOp, ho, h0, Instr.sliceAt, Instr.slice, Instr.sliceBounds, Sem.run_bind, hur, Result.andThen_ok]
   rcases hl with ⟨rfl, rfl⟩ | ⟨y, kd, rfl, hy⟩ <;> rcases hh with ⟨rfl, rfl⟩ | ⟨y', kd', rfl, hy'⟩
   ·simp [Sem.run_bind, hss, hsz, Sem.run, pure]
   ·have g2 : a.eval y' = .int kd' h := he.get hy' (by rw [ho]; simp [Op.operands])
    have b2 := fun c => qS (P := P) (kd := kd') (y := cap) (c := c) (i := h) (by omega) (by omega) w
    simp [Sem.run_bind, g2, b2, hss, hsz, Sem.run, pure]
   ·have g1 : a.eval y = .int kd l := he.get hy (by rw [ho]; simp [Op.operands])
    have b1 := fun c => qS (P := P) (kd := kd) (y := xs.length) (c := c) (i := l) h1 h2 w
    simp [Sem.run_bind, g1, b1, hss, hsz, Sem.run, pure]
   ·have g1 : a.eval y = .int kd l := he.get hy (by rw [ho]; simp [Op.operands])
    have g2 : a.eval y' = .int kd' h := he.get hy' (by rw [ho]; simp [Op.operands])
    have b2 := fun c => qS (P := P) (kd := kd') (y := cap) (c := c) (i := h) (by omega) (by omega) w
    have b1 := fun c => qS (P := P) (kd := kd) (y := h.toNat) (c := c) (i := l) h1 (by omega) w
    simp [Sem.run_bind, g1, g2, b1, b2, hss, hsz, Sem.run, pure]⟩
theorem aFu {β : bN} {α : Type} {t : Ty α} {m : Mem} {R : Heap} {w : World} {v : Value} {ty e : TypeId} {by' : Nat} {xs ys : List α} {cs ns : List Value} {H : Heap} {lo dl dc sl sc : Nat} {dst src : Option Addr} (hS : St β m (H ++ R) w) (hT : ElT P ty e t.sz by')
  (hR : fQ v t.sz e xs.length cs H) (hcs : aX (xs.flatMap t.leafs) m cs) (hns : aX (ys.flatMap t.leafs) m ns) (hlo : lo + dl ≤ xs.length) (hyl : ys.length = sl)
  (hd : 0 < dl → ∃ b len cap, v = .slice (some ⟨b, 0, none⟩) len cap ∧ dst = some ⟨b, lo * t.sz, none⟩)
  (hsrc : 0 < sl → ∃ a, src = some a ∧ ∀ (j : Nat) c, ns[j]? = some c → w.cell? (a.add j) = some c) (u : TypeId) :
  ∃ w' H' cs', (Builtin.copy_ #[ty, ty] u #[.slice dst dl dc, .slice src sl sc]).run P w = .ok (.int .i64 (min sl dl : Nat)) w' ∧ St β m (H' ++ R) w' ∧ fQ v t.sz e (cpy xs ys lo (min sl dl)).length cs' H' ∧ aX ((cpy xs ys lo (min sl dl)).flatMap t.leafs) m cs' := by
 obtain ⟨ht, i, z, hi, h1, h2, hz, hzs⟩ := hT.spell
 have hcl : cs.length = xs.length * t.sz := by rw [hcs.length, lF]
 have hnl : ns.length = ys.length * t.sz := by rw [hns.length, lF]
 have hsz := iE (P := P) hi w
 by_cases h0 : min sl dl = 0
 ·have hc0 : cpy xs ys lo (min sl dl) = xs := by simp [cpy, h0]
  refine ⟨w, H, cs, ?_, hS, by rw [hc0]; exact hR, by rw [hc0]; exact hcs⟩
  have hf : (Builtin.firstCells i.size 0 (.slice src sl sc)).run P w = .ok #[] w := by
   cases src with
   | none => simp [Builtin.firstCells, Sem.run, pure]
   | some a =>
    have := SX.run_loadCellsFrom (P := P) (w := w) (p := a) [] 0 #[] (fun j v h => by simp at h)
    simpa [Builtin.firstCells, loadCells] using this
  have h0' : Nat.min sl dl = 0 := h0
  cases dst <;> simp [Builtin.copy_, Sem.run_bind, cW ht, hsz, Builtin.lenOf, Sem.run, pure, h0', hf, storeCells, goInt, h0]
 ·obtain ⟨b, len, cap, hv, rfl⟩ := hd (by omega)
  obtain ⟨a, rfl, hcell⟩ := hsrc (by omega)
  have hmul1 : min sl dl * t.sz ≤ ys.length * t.sz := Nat.mul_le_mul_right _ (by omega)
  have hmul2 : (lo + min sl dl) * t.sz ≤ xs.length * t.sz := Nat.mul_le_mul_right _ (by omega)
  rw [Nat.add_mul] at hmul2
  have hvs : (ns.take (min sl dl * t.sz)).length = min sl dl * t.sz := by simp; omega
  have hns' := hns.take (min sl dl * t.sz)
  rw [← aAI] at hns'
  obtain ⟨w', H', hr, hS', hR'⟩ := aAr (P := P) (vs := ns.take (min sl dl * t.sz)) (off := lo * t.sz) hS hR hv (by omega) (hns'.cells aBO)
  refine ⟨w', H', _, ?_, hS', by rw [aCc (by omega) (by omega)]; exact hR', ?_⟩
  ·have hl := run_loadCells (w := w) (p := a) (ns.take (min sl dl * t.sz)) (fun j c hc => by
    rw [List.getElem?_take] at hc
    split at hc
    ·exact hcell j c hc
    ·cases hc)
   rw [hvs] at hl
   have hf : (Builtin.firstCells i.size (Nat.min sl dl) (.slice (some a) sl sc)).run P w = .ok (ns.take (min sl dl * t.sz)).toArray w := by
    rw [h1]; exact hl
   simp [Builtin.copy_, Sem.run_bind, cW ht, hsz, Builtin.lenOf, Sem.run, pure, hf, hr, goInt]
  ·simp only [cpy, List.flatMap_append, aCQ]
   rw [hvs, ← Nat.add_mul, aAI xs lo]
   exact ((hcs.take _).append hns').append (hcs.drop _)
where
 run_loadCells {w : World} {p : Addr} (cs : List Value) (h : ∀ j v, cs[j]? = some v → w.cell? (p.add j) = some v) : (loadCells p cs.length).run P w = .ok cs.toArray w := by
  have := SX.run_loadCellsFrom (P := P) (w := w) (p := p) cs 0 #[] (fun j v hj => by rw [Nat.zero_add]; exact h j v hj)
  simpa [loadCells] using this
theorem sl_cells {β : bN} {α : Type} {t : Ty α} {m : Mem} {L : Heap} {w : World} {v : Value} {ys : List α} (hS : St β m L w) (h : (fSl t ys).p m v) :
  ∃ src cap ns, v = .slice src ys.length cap ∧ aX (ys.flatMap t.leafs) m ns ∧ (0 < ys.length → ∃ a, src = some a ∧ ∀ (j : Nat) c, ns[j]? = some c → w.cell? (a.add j) = some c) := by
 obtain ⟨q, ⟨src, cap, hue, _, hq⟩, hyB, hel⟩ := h
 have hcells : ∀ (l : List α) (f : Nat → Addr), (∀ (i : Nat) y, l[i]? = some y → t.at m (f i) y) → ∃ ns, aX (l.flatMap t.leafs) m ns ∧ ∀ (i j : Nat) c, i < l.length → j < t.sz → ns[i * t.sz + j]? = some c → w.cell? ((f i).add j) = some c := by
  intro l
  induction l with
  | nil => intro f _; exact ⟨[], rfl, fun i j c h => by simp at h⟩
  | cons y l ih =>
   intro f hf
   obtain ⟨ns, h5, h6⟩ := ih (fun i => f (i + 1)) fun i z hz => hf (i + 1) z (by simpa using hz)
   obtain ⟨cy, h7, h8⟩ := hf 0 y rfl
   have hcy : cy.length = t.sz := by rw [h7.length, t.len]
   refine ⟨cy ++ ns, by rw [List.flatMap_cons]; exact h7.append h5, fun i j c hi hj hc => ?_⟩
   cases i with
   | zero =>
    rw [Nat.zero_mul, Nat.zero_add, List.getElem?_append_left (by omega)] at hc
    exact hS.cell (h8 j c hc)
   | succ i =>
    have : (i + 1) * t.sz + j = t.sz + (i * t.sz + j) := by rw [Nat.add_mul]; omega
    rw [this, List.getElem?_append_right (by omega), show t.sz + (i * t.sz + j) - cy.length = i * t.sz + j from by omega] at hc
    exact h6 i j c (by simpa using hi) hj hc
 obtain ⟨ns, hns, hnc⟩ := hcells ys q hel
 refine ⟨src, cap, ns, hue, hns, fun hpos => ?_⟩
 obtain ⟨p, rfl, hp⟩ := hq 0 hpos
 refine ⟨p, rfl, fun j c hc => ?_⟩
 have hlt := (List.getElem?_eq_some_iff.1 hc).1
 rw [hns.length, lF] at hlt
 have hsz : 0 < t.sz := by
  rcases Nat.eq_zero_or_pos t.sz with h | h
  ·rw [h] at hlt; simp at hlt
  ·exact h
 have hi : j / t.sz < ys.length := (Nat.div_lt_iff_lt_mul hsz).2 hlt
 have hdm : j / t.sz * t.sz + j % t.sz = j := by rw [Nat.mul_comm]; exact Nat.div_add_mod j t.sz
 have h9 := hnc (j / t.sz) (j % t.sz) c hi (Nat.mod_lt _ hsz) (by rw [hdm]; exact hc)
 obtain ⟨p', h10, h11⟩ := hq (j / t.sz) hi
 cases h10
 rw [← h11, aCj, hdm] at h9
 exact h9
end
section
variable {P : Program} {β : bN} {n : Nat} {ds : List Deferred} {Γ : Ctx} {Δ : List Tk} {r : Option Nat} {Q : Exit → Act → World → Prop} {ops : Array Oper} {o : Oper} {aU : List Oper}
theorem T_copyF {α : Type} {t : Ty α} {ty e by' d : Nat} {x y : Operand} {v : Value} {xs ys : List α} (hw : bU ops Γ o) (ho : o.op = .call { callee := .builtin .copy, args := #[x, y], argTypes := #[ty, ty] }) (hd : o.dst = some d) (hn : Nat.ble (d + 1) n = true)
  (hx : Has Γ x (fEq v)) (hy : Has Γ y (fSl t ys)) (hT : ElT P ty e t.sz by')
  (k : T β n ds ((d, aA .i64 (min ys.length xs.length : Nat)) :: Γ) (aE v e t (cpy xs ys 0 (min ys.length xs.length)) :: Δ) (wpListIn (fw r) 0 P ops Q aU)) : T β n ds Γ (aE v e t xs :: Δ) (wpListIn (fw r) 0 P ops Q (o :: aU)) := fun m L a w hF hL hS => by
 obtain ⟨cs, H, R, rfl, h1, hB, h2, h4⟩ := sF hL
 have hxe : a.eval x = v := hF.has hx
 obtain ⟨src, cap, ns, hye, hns, hsrc⟩ := sl_cells hS (hF.has hy)
 obtain ⟨db, dc, hv, hdb⟩ : ∃ (db : Option Addr) (dc : Nat), v = .slice db xs.length dc ∧ (0 < xs.length → ∃ b len cap, v = .slice (some ⟨b, 0, none⟩) len cap ∧ db = some ⟨b, 0 * t.sz, none⟩) := by
  rcases h1 with ⟨_, ⟨rfl, h4, rfl⟩ | ⟨b, c, cap, rfl, rfl, h5, h6, h7⟩⟩
  ·exact ⟨none, 0, by rw [h4], fun h => by omega⟩
  ·exact ⟨_, cap, rfl, fun _ => ⟨b, _, cap, rfl, by simp⟩⟩
 obtain ⟨w', H', cs', hr, hS', hR', hcs'⟩ := aFu (P := P) (lo := 0) (dl := xs.length) (dc := dc) (sc := cap) hS hT h1 h2 hns (by omega) rfl hdb hsrc o.type
 have hnd : fU o.op = false := by rw [ho]; rfl
 have h3 : o.semAt (fw r).round a.eval = execOp a.eval o := Oper.semAt_eq _ _ _ fun c hc => by rw [hc] at hnd; cases hnd
 simp only [wpListIn, hw.wanted hF, if_true]
 refine ⟨fun _ _ => trivial, ?_⟩
 have e1 : (execOp a.eval o).run P w = .ok (.value (.int .i64 (min ys.length xs.length : Nat))) w' := by
  rw [hv] at hxe
  simp only [execOp, ho, resolve, invoke, builtin, Sem.run_bind, List.map_toArray, List.map_cons, List.map_nil, hxe, hye]
  simp [hxe, hye, Sem.run_bind, hr, Sem.run, pure]
 rw [h3, e1, Oper.uponIn_value, hd]
 refine k m _ _ _ (hF.put (Nat.le_of_ble_eq_true hn) rfl) ⟨H', R, rfl, ⟨cs', hR', ?_, hcs'⟩, h4⟩ hS'
 rw [aCc (by omega) (by omega)]; exact hB
variable {l : List NO} {e : Env'} {i : Nat} {od : Env' → OD} {G : Env' → Cf → (Nat → Tk) → Prop}
theorem N_copyR {α : Type} {t : Ty α} {ty et by' d p es lo hi lo' hi' : Nat} {x y : Operand} {v : Value} {xs : List α} {φ0 : Oc → Fact} {Δ' : Oc → List Tk}
  (hod : od e = .op [p] true φ0 Δ') (h0 : ∀ c, φ0 c = aA .i64 (min (hi' - lo') (hi - lo) : Nat)) (hτ : ∀ c, Δ' c = [aE v et t (cpy xs (xs.drop lo') lo (min (hi' - lo') (hi - lo)))]) (hw : bU ops Γ o)
  (ho : o.op = .call { callee := .builtin .copy, args := #[x, y], argTypes := #[ty, ty] }) (hd : o.dst = some d) (hp : Δ[p]? = some (aE v et t xs)) (hes : es = t.sz) (hx : Has Γ x (aAz v es lo hi)) (hy : Has Γ y (aAz v es lo' hi')) (hT : ElT P ty et t.sz by')
  (hb : lo ≤ hi ∧ hi ≤ xs.length ∧ lo' ≤ hi' ∧ hi' ≤ xs.length)
  (kk : ∀ c, NC P r ops G l (e.set i c) (lk ((d, aA .i64 (min (hi' - lo') (hi - lo) : Nat)) :: Γ)) (dOf (Δ.set p (aE v et t (cpy xs (xs.drop lo') lo (min (hi' - lo') (hi - lo))))))) : NC P r ops G ((i, o, od) :: l) e (lk Γ) (dOf Δ) := by
 refine ⟨?_, fun b' => ?_⟩
 ·simp only [hod]
  refine ⟨hw, ?_, fun b => by rw [hτ]; rfl⟩
  intro β n ds m L R a w K Q hF hL hS hkk
  simp only [List.map_cons, List.map_nil, dOf, hp, Option.getD_some] at hL
  have he := jY hF
  obtain ⟨cs, H, R', rfl, h1, hB, h2, h4⟩ := sF hL
  have h4 : R' = [] := h4
  subst h4
  rw [List.append_nil] at hS hL
  subst hes
  obtain ⟨base, base', len, cap, hv, hxe, hn1, hn2⟩ := he.get hx (by rw [ho]; simp [Op.operands, Call.operands])
  obtain ⟨sbase, sbase', slen, scap, hv', hye, hn1', hn2'⟩ := he.get hy (by rw [ho]; simp [Op.operands, Call.operands])
  obtain ⟨hb1, hb2, hb3, hb4⟩ := hb
  have hrow : 0 < xs.length → ∃ b cap, v = .slice (some ⟨b, 0, none⟩) xs.length cap ∧ ∀ (j : Nat) c, cs[j]? = some c → w.cell? ⟨b, j, none⟩ = some c := fun hpos => by
   rcases h1 with ⟨_, ⟨rfl, h4, rfl⟩ | ⟨b, c, cap, rfl, rfl, h5, h6, h7⟩⟩
   ·omega
   ·refine ⟨b, cap, rfl, fun j u hu => yY hS (b := b) (c := c) (T := et) (by simp) (rS h7 hu)⟩
  have hdrop := (h2.drop (lo' * t.sz)).take ((hi' - lo') * t.sz)
  rw [← aCQ, ← aAI] at hdrop
  have hlen : ((xs.drop lo').take (hi' - lo')).length = hi' - lo' := by simp; omega
  obtain ⟨w', H', cs', hr, hS', hR', hcs'⟩ := aFu (P := P) (lo := lo) (dl := hi - lo) (dc := cap - lo) (sl := hi' - lo') (sc := scap - lo') (dst := base') (src := sbase') hS hT h1 h2 hdrop (by omega) hlen
   (fun hpos => by
    obtain ⟨b, cap', hvb, _⟩ := hrow (by omega)
    rw [hv] at hvb; cases hvb
    exact ⟨b, _, _, hv, hn2 b rfl (by omega)⟩)
   (fun hpos => by
    obtain ⟨b, cap', hvb, hc⟩ := hrow (by omega)
    rw [hv'] at hvb; cases hvb
    refine ⟨_, hn2' b rfl (by omega), fun j c hj => ?_⟩
    rw [nT]
    rw [List.getElem?_take] at hj
    split at hj
    ·rw [List.getElem?_drop] at hj; exact hc _ c hj
    ·cases hj) o.type
  have htk : cpy xs ((xs.drop lo').take (hi' - lo')) lo (min (hi' - lo') (hi - lo)) = cpy xs (xs.drop lo') lo (min (hi' - lo') (hi - lo)) := by
   simp only [cpy, List.take_take]; rw [Nat.min_eq_left (by omega)]
  rw [htk] at hR' hcs'
  have hnd : fU o.op = false := by rw [ho]; rfl
  have h3 : o.semAt (fw r).round a.eval = execOp a.eval o := Oper.semAt_eq _ _ _ fun c hc => by rw [hc] at hnd; cases hnd
  refine ⟨fun _ _ => trivial, ?_⟩
  have e1 : (execOp a.eval o).run P w = .ok (.value (.int .i64 (min (hi' - lo') (hi - lo) : Nat))) w' := by
   simp only [execOp, ho, resolve, invoke, builtin, Sem.run_bind, List.map_toArray, List.map_cons, List.map_nil, hxe, hye]
   simp [hxe, hye, Sem.run_bind, hr, Sem.run, pure]
  rw [h3, e1, Oper.uponIn_value]
  refine hkk default m H' _ w' (Mem.le_refl _) (by rw [h0]; rfl) ?_ hS'
  simp only [OD.wr, if_true]
  rw [hτ]
  exact ⟨H', [], by simp, ⟨cs', hR', by rw [aCc (by omega) (by simp; omega)]; exact hB, hcs'⟩, rfl⟩
 ·have hlt := (List.getElem?_eq_some_iff.1 hp).1
  simp only [hod, eZ, eP, if_true, hd, h0, hτ]
  rw [rZ hlt]
  exact kk b'
theorem aAU {α : Type} {xs ys : List α} {l h : Int} (e : slc xs l h = some ys) : l.toNat ≤ h.toNat ∧ h.toNat ≤ xs.length := by
 obtain ⟨h1, h2, h3, _⟩ := aAx e; omega
end
section
variable {β : bN} {n : Nat} {ds : List Deferred} {Γ : Ctx} {F : Act → World → Prop} {a0 a1 a2 a3 a4 a5 a6 a7 a8 a9 b0 b1 b2 b3 b4 b5 b6 b7 b8 b9 c0 c1 c2 c3 c4 c5 c6 c7 c8 c9 d : Tk} {R : List Tk}
theorem dH (h : T β n ds Γ (d :: a0 :: R) F) : T β n ds Γ (a0 :: d :: R) F := nJ (List.perm_middle (l₁ := [a0])) h
theorem eH (h : T β n ds Γ (d :: a0 :: a1 :: R) F) : T β n ds Γ (a0 :: a1 :: d :: R) F := nJ (List.perm_middle (l₁ := [a0, a1])) h
theorem eF (h : T β n ds Γ (d :: a0 :: a1 :: a2 :: R) F) : T β n ds Γ (a0 :: a1 :: a2 :: d :: R) F := nJ (List.perm_middle (l₁ := [a0, a1, a2])) h
theorem bM (h : T β n ds Γ (d :: a0 :: a1 :: a2 :: a3 :: R) F) : T β n ds Γ (a0 :: a1 :: a2 :: a3 :: d :: R) F := nJ (List.perm_middle (l₁ := [a0, a1, a2, a3])) h
theorem nG (h : T β n ds Γ (d :: a0 :: a1 :: a2 :: a3 :: a4 :: R) F) : T β n ds Γ (a0 :: a1 :: a2 :: a3 :: a4 :: d :: R) F := nJ (List.perm_middle (l₁ := [a0, a1, a2, a3, a4])) h
theorem mU (h : T β n ds Γ (d :: a0 :: a1 :: a2 :: a3 :: a4 :: a5 :: R) F) : T β n ds Γ (a0 :: a1 :: a2 :: a3 :: a4 :: a5 :: d :: R) F := nJ (List.perm_middle (l₁ := [a0, a1, a2, a3, a4, a5])) h
theorem T_fr7 (h : T β n ds Γ (d :: a0 :: a1 :: a2 :: a3 :: a4 :: a5 :: a6 :: R) F) : T β n ds Γ (a0 :: a1 :: a2 :: a3 :: a4 :: a5 :: a6 :: d :: R) F := nJ (List.perm_middle (l₁ := [a0, a1, a2, a3, a4, a5, a6])) h
theorem T_fr8 (h : T β n ds Γ (d :: a0 :: a1 :: a2 :: a3 :: a4 :: a5 :: a6 :: a7 :: R) F) : T β n ds Γ (a0 :: a1 :: a2 :: a3 :: a4 :: a5 :: a6 :: a7 :: d :: R) F := nJ (List.perm_middle (l₁ := [a0, a1, a2, a3, a4, a5, a6, a7])) h
end
end Go.SW
namespace Go.SW
open Go.SX
theorem aHt {β : bN} {m : Mem} {L : Heap} {w : World} (h : St β m L w) (hfp : β.fp = []) (may : MemPlace → Prop) : β.w.keptBut w may := by
 refine ⟨h.os, h.output, fun i hi => ?_⟩
 rw [h.frame i hi (by rw [hfp]; exact List.not_mem_nil)]
 cases β.w.heap[i]? with
 | none => rfl
 | some o =>
  cases o with
  | cells c t fr => exact ⟨rfl, rfl, rfl, fun j _ => rfl⟩
  | map es clock => exact .inr ⟨rfl, rfl⟩
  | _ => rfl
def iZ (W : World) : Mem := fun b => W.heap[b]?
theorem st_memOf (W : World) : St ⟨W, iZ W, []⟩ (iZ W) [] W :=
 ⟨fun _ _ h => h, fun x h => (by cases h), fun x h => (by cases h), List.nodup_nil, Mem.le_refl _, fun _ hb => absurd rfl hb, fun x h => (by cases h), Nat.le_refl _, fun _ _ _ => rfl, rfl, rfl, rfl⟩
theorem FnS.calls {P : Program} {f : FuncId} {args : List Fact} {Φ : Fact} {W : World} {vs : List Value} (h : FnS P f args [] Φ (fun _ => [])) (hv : aX args (iZ W) vs) :
  Calls P f vs.toArray W fun e w' => ∃ m' v, e = .returned v ∧ Φ.p m' v ∧ St ⟨W, iZ W, []⟩ m' [] w' :=
 (h (iZ W) [] vs hv rfl W (st_memOf W)).mono fun e w' ⟨m', L', hS, v, he, hp, hL⟩ => ⟨m', v, he, hp, by have : L' = [] := hL; subst this; exact hS⟩
end Go.SW
namespace Go.SW
open Go.SX
theorem hh {Γ : Ctx} {x : Operand} {φ : Fact} (h : evT Γ x = some φ := by exact rfl) : Has Γ x φ := has h
theorem bs {α γ : Type} {o : Option α} {f : α → Option γ} {r : γ} {G : Prop} (k : ∀ x, o = some x → f x = some r → G) (h : o.bind f = some r) : G := let ⟨x, h1, h2⟩ := bind_some h; k x h1 h2
theorem is {γ : Type} {p : Prop} [Decidable p] {a b : Option γ} {r : γ} {G : Prop} (k : decide p = true → a = some r → G) (k' : decide p = false → b = some r → G) (h : (if p then a else b) = some r) : G := (ite_some h).elim (fun x => k x.1 x.2) (fun x => k' x.1 x.2)
theorem cs {γ : Type} {c : Bool} {a b : Option γ} {r : γ} {G : Prop} (k : c = true → a = some r → G) (k' : c = false → b = some r → G) (h : (bif c then a else b) = some r) : G := (aJj h).elim (fun x => k x.1 x.2) (fun x => k' x.1 x.2)
section
variable {P : Program} {β : bN} {n : Nat} {ds : List Deferred} {Γ : Ctx} {Δ : List Tk} {r : Option Nat} {Q Q' : Exit → Act → World → Prop} {N F : Act → World → Prop} {ops : Array Oper} {o : Oper} {aU : List Oper}
theorem Sr {id : Nat} {l : List Oper} {y : Code} (h : T β n ds Γ Δ (wpListIn (fw r) 0 P l.toArray (Exit.then (y.wpIn (fw r) 0 P Q) Q) l)) : T β n ds Γ Δ ((Code.seq (Code.region id l.toArray false) y).wpIn (fw r) 0 P Q) := aH (aFo h)
theorem Nn (h : T β n ds Γ Δ N) : T β n ds Γ Δ (wpListIn (fw r) 0 P ops (Exit.then N Q) []) := T_nil (aES h)
theorem Rr (h : T β n ds Γ Δ (Q .ret)) : T β n ds Γ Δ (Code.ret.wpIn (fw r) 0 P (Exit.then N Q)) := T_retc (aDJ h)
theorem Yy {d : Nat} {φ : Fact} (h : OpT P Γ [] o φ) (k : T β n ds ((d, φ) :: Γ) Δ (wpListIn (fw r) 0 P ops Q aU)) (hw : bU ops Γ o := by exact trivial) (hd : o.dst = some d := by exact rfl) (hn : Nat.ble (d + 1) n = true := by exact rfl) : T β n ds Γ Δ (wpListIn (fw r) 0 P ops Q (o :: aU)) := T_y hw hd hn h k
theorem Ym {d : Nat} {x : Operand} {φ : Fact} (k : T β n ds ((d, φ) :: Γ) Δ (wpListIn (fw r) 0 P ops Q aU)) (hw : bU ops Γ o := by exact trivial) (hd : o.dst = some d := by exact rfl) (hn : Nat.ble (d + 1) n = true := by exact rfl) (ho : o.op = .move x := by exact rfl) (hx : evT Γ x = some φ := by exact rfl) :
  T β n ds Γ Δ (wpListIn (fw r) 0 P ops Q (o :: aU)) := T_y hw hd hn (bV ho (has hx)) k
theorem Ya {d : Nat} {x : Operand} {φ : Fact} (k : T β n ds ((d, φ) :: Γ) Δ (wpListIn (fw r) 0 P ops Q aU)) (hw : bU ops Γ o := by exact trivial) (hd : o.dst = some d := by exact rfl) (hn : Nat.ble (d + 1) n = true := by exact rfl) (ho : o.op = .assign x := by exact rfl) (hx : evT Γ x = some φ := by exact rfl) :
  T β n ds Γ Δ (wpListIn (fw r) 0 P ops Q (o :: aU)) := T_y hw hd hn (aAY ho (has hx)) k
theorem Sc {t : Nat} {φ : Fact} {Γ' : Ctx} (k : fY Γ' Γ) (h : lk Γ t = some φ := by exact rfl) : fY ((t, φ) :: Γ') Γ := fY.cons (bO h) k
def GW (ops : Array Oper) (Γ : Ctx) (o : Oper) (c want : Bool) : Prop := ∃ j d, o.guard = some (j, want) ∧ (ops[j]?).bind (·.dst) = some d ∧ lk Γ d = some (aI c)
theorem GW.wants {c want : Bool} (h : GW ops Γ o c want) (hc : c = want) : bU ops Γ o := by
 obtain ⟨j, d, h1, h2, h3⟩ := h
 unfold bU; rw [h1]; exact ⟨d, c, h2, h3, hc⟩
theorem GW.unwants {c want : Bool} (h : GW ops Γ o c want) (hc : c ≠ want) : xH ops Γ o := by
 obtain ⟨j, d, h1, h2, h3⟩ := h
 exact ⟨j, want, d, _, h1, h2, h3, nb hc⟩
theorem Yg {d : Nat} {φ : Fact} {c want : Bool} (hc : c = want) (h : OpT P Γ [] o φ) (k : T β n ds ((d, φ) :: Γ) Δ (wpListIn (fw r) 0 P ops Q aU)) (hg : GW ops Γ o c want := by exact ⟨_, _, rfl, rfl, rfl⟩) (hd : o.dst = some d := by exact rfl) (hn : Nat.ble (d + 1) n = true := by exact rfl) :
  T β n ds Γ Δ (wpListIn (fw r) 0 P ops Q (o :: aU)) := T_y (hg.wants hc) hd hn h k
theorem Yt {d : Nat} {c : Bool} (hc : c = true) (k : T β n ds ((d, fEq undef) :: Γ) Δ (wpListIn (fw r) 0 P ops Q aU)) (hg : GW ops Γ o c false := by exact ⟨_, _, rfl, rfl, rfl⟩) (hd : o.dst = some d := by exact rfl) (hn : Nat.ble (d + 1) n = true := by exact rfl) :
  T β n ds Γ Δ (wpListIn (fw r) 0 P ops Q (o :: aU)) := dS (hg.unwants (ne_ft hc)) hd hn k
theorem Yf {d : Nat} {c : Bool} (hc : c = false) (k : T β n ds ((d, fEq undef) :: Γ) Δ (wpListIn (fw r) 0 P ops Q aU)) (hg : GW ops Γ o c true := by exact ⟨_, _, rfl, rfl, rfl⟩) (hd : o.dst = some d := by exact rfl) (hn : Nat.ble (d + 1) n = true := by exact rfl) :
  T β n ds Γ Δ (wpListIn (fw r) 0 P ops Q (o :: aU)) := dS (hg.unwants (ne_tf hc)) hd hn k
theorem Yo {d : Nat} {φ : Fact} {τ : Tk} (i : Nat) (hτ : Δ[i]? = some τ) (h : OpT P Γ [τ] o φ) (k : T β n ds ((d, φ) :: Γ) Δ (wpListIn (fw r) 0 P ops Q aU)) (hw : bU ops Γ o := by exact trivial) (hd : o.dst = some d := by exact rfl) (hn : Nat.ble (d + 1) n = true := by exact rfl) :
  T β n ds Γ Δ (wpListIn (fw r) 0 P ops Q (o :: aU)) := T_o1 i hw hτ hd hn h k
theorem Yh {d : Nat} {φ : Fact} {τ : Tk} {c want : Bool} (i : Nat) (hτ : Δ[i]? = some τ) (hc : c = want) (h : OpT P Γ [τ] o φ) (k : T β n ds ((d, φ) :: Γ) Δ (wpListIn (fw r) 0 P ops Q aU)) (hg : GW ops Γ o c want := by exact ⟨_, _, rfl, rfl, rfl⟩) (hd : o.dst = some d := by exact rfl) (hn : Nat.ble (d + 1) n = true := by exact rfl) :
  T β n ds Γ Δ (wpListIn (fw r) 0 P ops Q (o :: aU)) := T_o1 i (hg.wants hc) hτ hd hn h k
end
end Go.SW
namespace Go.SW
open Go.SX
def odS : Env' → OD := fun _ => .skip
def odC (ps : List Nat) (wr : Bool) (φ : Fact) (Δo : List Tk) : Env' → OD := fun _ => .op ps wr (fun _ => φ) (fun _ => Δo)
def odN (ps : List Nat) (wr : Bool) (Φ : Nat → Value → Fact) (Δo : Nat → Value → List Tk) : Env' → OD := fun _ => .op ps wr (fun c => Φ c.n c.v) (fun c => Δo c.n c.v)
def od1 (j : Nat) (ps : List Nat) (wr : Bool) (Φ : Nat → Value → Fact) (Δo : Nat → Value → List Tk) : Env' → OD := fun e => .op ps wr (fun _ => Φ (e j).n (e j).v) (fun _ => Δo (e j).n (e j).v)
def od2 (j k : Nat) (ps : List Nat) (wr : Bool) (Φ : Nat → Value → Nat → Value → Fact) (Δo : Nat → Value → Nat → Value → List Tk) : Env' → OD :=
 fun e => .op ps wr (fun _ => Φ (e j).n (e j).v (e k).n (e k).v) (fun _ => Δo (e j).n (e j).v (e k).n (e k).v)
def od3 (j k l : Nat) (ps : List Nat) (wr : Bool) (Φ : Nat → Value → Nat → Value → Nat → Value → Fact) (Δo : Nat → Value → Nat → Value → Nat → Value → List Tk) : Env' → OD :=
 fun e => .op ps wr (fun _ => Φ (e j).n (e j).v (e k).n (e k).v (e l).n (e l).v) (fun _ => Δo (e j).n (e j).v (e k).n (e k).v (e l).n (e l).v)
def odN1 (j : Nat) (ps : List Nat) (wr : Bool) (Φ : Nat → Value → Nat → Value → Fact) (Δo : Nat → Value → Nat → Value → List Tk) : Env' → OD :=
 fun e => .op ps wr (fun c => Φ (e j).n (e j).v c.n c.v) (fun c => Δo (e j).n (e j).v c.n c.v)
def odN2 (j k : Nat) (ps : List Nat) (wr : Bool) (Φ : Nat → Value → Nat → Value → Nat → Value → Fact) (Δo : Nat → Value → Nat → Value → Nat → Value → List Tk) : Env' → OD :=
 fun e => .op ps wr (fun c => Φ (e j).n (e j).v (e k).n (e k).v c.n c.v) (fun c => Δo (e j).n (e j).v (e k).n (e k).v c.n c.v)
def odN3 (j k l : Nat) (ps : List Nat) (wr : Bool) (Φ : Nat → Value → Nat → Value → Nat → Value → Nat → Value → Fact) (Δo : Nat → Value → Nat → Value → Nat → Value → Nat → Value → List Tk) : Env' → OD :=
 fun e => .op ps wr (fun c => Φ (e j).n (e j).v (e k).n (e k).v (e l).n (e l).v c.n c.v) (fun c => Δo (e j).n (e j).v (e k).n (e k).v (e l).n (e l).v c.n c.v)
section
variable {ods : List (Env' → OD)} {us : List Us} {ps : List Nat} {wr : Bool}
theorem FkS (h : dX ods us) : dX (odS :: ods) (([], false, []) :: us) := .cons (fits0 rfl rfl) h
theorem FkC {φ : Fact} {Δo : List Tk} (h : dX ods us) : dX (odC ps wr φ Δo :: ods) ((ps, wr, []) :: us) := .cons (fits0 rfl rfl) h
theorem FkN {Φ : Nat → Value → Fact} {Δo : Nat → Value → List Tk} (h : dX ods us) : dX (odN ps wr Φ Δo :: ods) ((ps, wr, []) :: us) := .cons (fits0 rfl rfl) h
theorem FkD1 {j : Nat} {Φ : Nat → Value → Fact} {Δo : Nat → Value → List Tk} (h : dX ods us) : dX (od1 j ps wr Φ Δo :: ods) ((ps, wr, [j]) :: us) := .cons (fits1 (od := fun c => .op ps wr (fun _ => Φ c.n c.v) (fun _ => Δo c.n c.v)) fun _ => ⟨rfl, rfl⟩) h
theorem FkD2 {j k : Nat} {Φ : Nat → Value → Nat → Value → Fact} {Δo : Nat → Value → Nat → Value → List Tk} (h : dX ods us) : dX (od2 j k ps wr Φ Δo :: ods) ((ps, wr, [j, k]) :: us) :=
 .cons (fits2 (od := fun c d => .op ps wr (fun _ => Φ c.n c.v d.n d.v) (fun _ => Δo c.n c.v d.n d.v)) fun _ _ => ⟨rfl, rfl⟩) h
theorem FkD3 {j k l : Nat} {Φ : Nat → Value → Nat → Value → Nat → Value → Fact} {Δo : Nat → Value → Nat → Value → Nat → Value → List Tk} (h : dX ods us) : dX (od3 j k l ps wr Φ Δo :: ods) ((ps, wr, [j, k, l]) :: us) :=
 .cons (fits3 (od := fun c d b => .op ps wr (fun _ => Φ c.n c.v d.n d.v b.n b.v) (fun _ => Δo c.n c.v d.n d.v b.n b.v)) fun _ _ _ => ⟨rfl, rfl⟩) h
theorem FkN1 {j : Nat} {Φ : Nat → Value → Nat → Value → Fact} {Δo : Nat → Value → Nat → Value → List Tk} (h : dX ods us) : dX (odN1 j ps wr Φ Δo :: ods) ((ps, wr, [j]) :: us) := .cons (fits1 (od := fun c => .op ps wr (fun d => Φ c.n c.v d.n d.v) (fun d => Δo c.n c.v d.n d.v)) fun _ => ⟨rfl, rfl⟩) h
theorem FkN2 {j k : Nat} {Φ : Nat → Value → Nat → Value → Nat → Value → Fact} {Δo : Nat → Value → Nat → Value → Nat → Value → List Tk} (h : dX ods us) : dX (odN2 j k ps wr Φ Δo :: ods) ((ps, wr, [j, k]) :: us) :=
 .cons (fits2 (od := fun c d => .op ps wr (fun b => Φ c.n c.v d.n d.v b.n b.v) (fun b => Δo c.n c.v d.n d.v b.n b.v)) fun _ _ => ⟨rfl, rfl⟩) h
theorem FkN3 {j k l : Nat} {Φ : Nat → Value → Nat → Value → Nat → Value → Nat → Value → Fact} {Δo : Nat → Value → Nat → Value → Nat → Value → Nat → Value → List Tk} (h : dX ods us) : dX (odN3 j k l ps wr Φ Δo :: ods) ((ps, wr, [j, k, l]) :: us) :=
 .cons (fits3 (od := fun c d a => .op ps wr (fun b => Φ c.n c.v d.n d.v a.n a.v b.n b.v) (fun b => Δo c.n c.v d.n d.v a.n a.v b.n b.v)) fun _ _ _ => ⟨rfl, rfl⟩) h
end
section
variable {P : Program} {r : Option Nat} {ops : Array Oper} {β : bN} {n : Nat} {ds : List Deferred} {Γ : Ctx} {Δ : List Tk} {o : Oper} {l : List NO} {e : Env'} {i : Nat} {G : Env' → Cf → (Nat → Tk) → Prop} {Q : Exit → Act → World → Prop}
theorem bH {id : Nat} {lo : List Oper} {ods : List (Env' → OD)} {us : List Us} (h k q : Nat) (hm : P.follows .mixedOrders = true) (hle : (lo.take h).length = h) (hol : ods.length = h) (hq : (Δ ++ List.replicate k cZ).length = q)
  (hn : NC P r lo.toArray (NG P r lo.toArray β n ds Q (lo.drop h) q) (iJ 0 (lo.take h) ods) env0 (lk Γ) (dOf (Δ ++ List.replicate k cZ))) (hu : dX ods us) (hB : (netB lo.toArray h us && ((lo.take h).zip us).all (wfU n q)) = true) :
  T β n ds Γ Δ ((Code.region id lo.toArray true).wpIn (fw r) 0 P Q) := by
 rw [Bool.and_eq_true] at hB
 exact T_net h ods us k q hm hu hB.1 hle hol hB.2 hq hn
theorem My {d : Nat} {φ : Fact} (h : OpT P Γ [] o φ) (k : ∀ b, NC P r ops G l (e.set i b) (lk ((d, φ) :: Γ)) (dOf Δ)) (hw : bU ops Γ o := by exact trivial) (hd : o.dst = some d := by exact rfl) :
  NC P r ops G ((i, o, odC [] false φ []) :: l) e (lk Γ) (dOf Δ) := N_y rfl (fun _ => rfl) hw hd h k
theorem Mg {d : Nat} {φ : Fact} {c want : Bool} (hc : c = want) (h : OpT P Γ [] o φ) (k : ∀ b, NC P r ops G l (e.set i b) (lk ((d, φ) :: Γ)) (dOf Δ)) (hg : GW ops Γ o c want := by exact ⟨_, _, rfl, rfl, rfl⟩) (hd : o.dst = some d := by exact rfl) :
  NC P r ops G ((i, o, odC [] false φ []) :: l) e (lk Γ) (dOf Δ) := N_y rfl (fun _ => rfl) (hg.wants hc) hd h k
theorem Mo {d : Nat} {φ : Fact} {τ : Tk} (p : Nat) (hp : [p].map (dOf Δ) = [τ]) (h : OpT P Γ [τ] o φ) (k : ∀ b, NC P r ops G l (e.set i b) (lk ((d, φ) :: Γ)) (dOf Δ)) (hw : bU ops Γ o := by exact trivial) (hd : o.dst = some d := by exact rfl) :
  NC P r ops G ((i, o, odC [p] false φ [cZ]) :: l) e (lk Γ) (dOf Δ) := eD (ps := [p]) rfl (fun _ => rfl) hw hp hd h k
theorem Mt {d : Nat} {c : Bool} (hc : c = true) (k : ∀ b, NC P r ops G l (e.set i b) (lk ((d, fEq undef) :: Γ)) (dOf Δ)) (hg : GW ops Γ o c false := by exact ⟨_, _, rfl, rfl, rfl⟩) (hd : o.dst = some d := by exact rfl) : NC P r ops G ((i, o, odS) :: l) e (lk Γ) (dOf Δ) := eR rfl (hg.unwants (ne_ft hc)) hd k
theorem Mz {d : Nat} {c : Bool} (hc : c = false) (k : ∀ b, NC P r ops G l (e.set i b) (lk ((d, fEq undef) :: Γ)) (dOf Δ)) (hg : GW ops Γ o c true := by exact ⟨_, _, rfl, rfl, rfl⟩) (hd : o.dst = some d := by exact rfl) : NC P r ops G ((i, o, odS) :: l) e (lk Γ) (dOf Δ) := eR rfl (hg.unwants (ne_tf hc)) hd k
theorem Mn {d : Nat} (p : Nat) (f : Nat → Value) (τ : Nat → Tk) (hp : Δ[p]? = some cZ) (h : OpN P Γ o f τ) (k : ∀ b u, NC P r ops G l (e.set i ⟨b, u⟩) (lk ((d, fEq (f b)) :: Γ)) (dOf (Δ.set p (τ b)))) (hw : bU ops Γ o := by exact trivial) (hd : o.dst = some d := by exact rfl) :
  NC P r ops G ((i, o, odN [p] true (fun b _ => fEq (f b)) (fun b _ => [τ b])) :: l) e (lk Γ) (dOf Δ) := N_new rfl (fun _ => rfl) (fun _ => rfl) hw hp hd h k
theorem Mf {d : Nat} {f : Nat → Value} {τ : Nat → Tk} {φ : Fact} (h : OpN P Γ o f τ) (hz : ∀ b, Frz (τ b) φ (f b)) (k : ∀ b, NC P r ops G l (e.set i b) (lk ((d, φ) :: Γ)) (dOf Δ)) (hw : bU ops Γ o := by exact trivial) (hd : o.dst = some d := by exact rfl) :
  NC P r ops G ((i, o, odC [] true φ []) :: l) e (lk Γ) (dOf Δ) := N_newF rfl (fun _ => rfl) hw hd h hz k
theorem D1 {d : Nat} (j : Nat) (b : Nat) (u : Value) (Φ : Nat → Value → Fact) (hj : e j = ⟨b, u⟩) (h : OpT P Γ [] o (Φ b u)) (k : ∀ c, NC P r ops G l (e.set i c) (lk ((d, Φ b u) :: Γ)) (dOf Δ)) (hw : bU ops Γ o := by exact trivial) (hd : o.dst = some d := by exact rfl) :
  NC P r ops G ((i, o, od1 j [] false Φ (fun _ _ => [])) :: l) e (lk Γ) (dOf Δ) := N_y (f := fun _ => []) (by simp only [od1, hj]) (fun _ => rfl) hw hd h k
theorem D2 {d : Nat} (j j2 : Nat) (b : Nat) (u : Value) (b2 : Nat) (u2 : Value) (Φ : Nat → Value → Nat → Value → Fact) (hj : e j = ⟨b, u⟩) (hj2 : e j2 = ⟨b2, u2⟩) (h : OpT P Γ [] o (Φ b u b2 u2)) (k : ∀ c, NC P r ops G l (e.set i c) (lk ((d, Φ b u b2 u2) :: Γ)) (dOf Δ)) (hw : bU ops Γ o := by exact trivial) (hd : o.dst = some d := by exact rfl) :
  NC P r ops G ((i, o, od2 j j2 [] false Φ (fun _ _ _ _ => [])) :: l) e (lk Γ) (dOf Δ) := N_y (f := fun _ => []) (by simp only [od2, hj, hj2]) (fun _ => rfl) hw hd h k
end
end Go.SW
namespace Go.SW
open Go.SX
structure cT (Q : Prop) : Prop where
 h : Q
def tb : List (Nat × Nat) → Nat → Option Nat
 | [], _ => none
 | (a, b) :: l, t => bif Nat.beq a t then some b else tb l t
theorem yR : ∀ {l : List (Nat × Nat)} {t k : Nat}, tb l t = some k → (t, k) ∈ l
 | (a, b) :: l, t, k, h => by
  unfold tb at h
  cases e : Nat.beq a t with
  | true => rw [e] at h; cases h; have := Nat.eq_of_beq_eq_true e; subst this; exact .head _
  | false => rw [e] at h; exact .tail _ (yR h)
def tb3 : List (Nat × Nat × Nat) → Nat → Nat → Option Nat
 | [], _, _ => none
 | (a, b, c) :: l, s, f => bif Nat.beq a s && Nat.beq b f then some c else tb3 l s f
theorem aEK : ∀ {l : List (Nat × Nat × Nat)} {s f k : Nat}, tb3 l s f = some k → (s, f, k) ∈ l
 | (a, b, c) :: l, s, f, k, h => by
  unfold tb3 at h
  cases e : Nat.beq a s && Nat.beq b f with
  | true =>
   rw [e] at h; cases h
   have e := Bool.and_eq_true_iff.1 e
   have := Nat.eq_of_beq_eq_true e.1; subst this
   have := Nat.eq_of_beq_eq_true e.2; subst this
   exact .head _
  | false => rw [e] at h; exact .tail _ (aEK h)
def onb (x : Option Nat) (n : Nat) : Bool := match x with | some m => Nat.beq m n | none => false
theorem aAv {x : Option Nat} {n : Nat} (h : onb x n = true) : x = some n := by
 cases x with
 | none => cases h
 | some m => rw [Nat.eq_of_beq_eq_true h]
section
variable {P : Program}
def slB (P : Program) (t : TypeId) : Option Nat := match P.underlying t with | some (.slice e) => some e | _ => none
theorem us_of {l : List (Nat × Nat)} (h : (l.all fun p => onb (slB P p.1) p.2) = true) {t e : Nat} (k : tb l t = some e) : iR P t (.slice e) := by
 have := aAv (List.all_eq_true.1 h _ (yR k))
 unfold slB at this
 split at this
 ·rename_i q; cases this; exact q
 ·cases this
theorem el_of {l : List (Nat × Nat)} (h : (l.all fun p => onb (rO P p.1) p.2) = true) {t e : Nat} (k : tb l t = some e) : kG P t e := aAv (List.all_eq_true.1 h _ (yR k))
theorem sz_of {l : List (Nat × Nat)} (h : (l.all fun p => onb (nR P p.1) p.2) = true) {t e : Nat} (k : tb l t = some e) : gT P t e := aAv (List.all_eq_true.1 h _ (yR k))
theorem ag_of {l : List (Nat × Nat)} (h : (l.all fun p => aggB P p.1 p.2) = true) {t e : Nat} (k : tb l t = some e) : jR P t e := List.all_eq_true.1 h _ (yR k)
theorem sc_of {l : List Nat} (h : (l.all fun p => scalB P p) = true) {t : Nat} (k : (l.any fun p => Nat.beq p t) = true) : jQ P t := by
 obtain ⟨p, hp, e⟩ := List.any_eq_true.1 k
 have := Nat.eq_of_beq_eq_true e; subst this
 exact List.all_eq_true.1 h _ hp
theorem cb_of {l : List Nat} (h : (l.all fun p => callB P p) = true) {t : Nat} (k : (l.any fun p => Nat.beq p t) = true) : eT P t := by
 obtain ⟨p, hp, e⟩ := List.any_eq_true.1 k
 have := Nat.eq_of_beq_eq_true e; subst this
 exact List.all_eq_true.1 h _ hp
theorem fa_of {l : List (Nat × Nat × Nat)} (h : (l.all fun p => onb (aA8 P p.1 p.2.1) p.2.2) = true) {s f k : Nat} (e : tb3 l s f = some k) : rA P s f k := aAv (List.all_eq_true.1 h _ (aEK e))
def tb4 : List (Nat × Nat × Nat × Nat) → Nat → Option (Nat × Nat × Nat)
 | [], _ => none
 | (a, b) :: l, t => bif Nat.beq a t then some b else tb4 l t
theorem aF8 : ∀ {l : List (Nat × Nat × Nat × Nat)} {t : Nat} {k : Nat × Nat × Nat}, tb4 l t = some k → (t, k) ∈ l
 | (a, b) :: l, t, k, h => by
  unfold tb4 at h
  cases e : Nat.beq a t with
  | true => rw [e] at h; cases h; have := Nat.eq_of_beq_eq_true e; subst this; exact .head _
  | false => rw [e] at h; exact .tail _ (aF8 h)
theorem et_of {l : List (Nat × Nat × Nat × Nat)} (h : (l.all fun p => elB P p.1 p.2.1 p.2.2.1 p.2.2.2) = true) {t e s b : Nat} (k : tb4 l t = some (e, s, b)) : ElT P t e s b := List.all_eq_true.1 h _ (aF8 k)
end
theorem o_fieldC {α γ : Type} {P : Program} {Γ : Ctx} {o : Oper} {t : Ty α} (t' : Ty γ) (L : List (Nat × Nat × Nat)) {y : α} {z : γ} {S f k : Nat} {x : Operand} (ho : o.op = .fieldAddr S x f) (_ : (tb3 L S f).isSome = true) (hx : Has Γ x (aF t y)) (hf : rA P S f k) (hs : ((t.leafs y).drop k).take t'.sz = t'.leafs z) : OpT P Γ [] o (aF t' z) := fT ho hx hf hs
theorem o_nilP {α : Type} {P : Program} {Γ : Ctx} {o : Oper} {t : Ty α} {y : α} {x : Operand} (ho : o.op = .nilCheck x) (hx : Has Γ x (aF t y)) : OpT P Γ [] o (aF t y) := lC ho hx (fun _ _ ⟨p, h, _⟩ => ⟨p, h⟩)
theorem o_nilE {P : Program} {Γ : Ctx} {o : Oper} {p : Addr} {x : Operand} (ho : o.op = .nilCheck x) (hx : Has Γ x (fEq (.pointer (some p)))) : OpT P Γ [] o (fEq (.pointer (some p))) := lC ho hx (fun _ _ h => ⟨_, h⟩)
theorem cc {b w : Bool} (h : b = w := by first | with_reducible assumption | exact rfl | exact oP (by with_reducible assumption) | exact oZ (by with_reducible assumption)) : b = w := h
theorem ct {b : Bool} (h : b = true := by first | with_reducible assumption | exact rfl | exact oZ (by with_reducible assumption)) : b = true := h
theorem cf {b : Bool} (h : b = false := by first | with_reducible assumption | exact rfl | exact oP (by with_reducible assumption)) : b = false := h
theorem cn {b w : Bool} (h : b ≠ w := by first | exact ne_ft ct | exact ne_tf cf) : b ≠ w := h
section
variable {P : Program} {β : bN} {n : Nat} {ds : List Deferred} {Γ : Ctx} {Δ : List Tk} {r : Option Nat} {Q Q' : Exit → Act → World → Prop} {N F : Act → World → Prop} {ops : Array Oper} {o : Oper} {aU : List Oper}
theorem hl {xs : List Operand} {φs : List Fact} (h : aK Γ xs φs := by repeat (first | exact aK.nil | apply aK.cons (has rfl))) : aK Γ xs φs := h
theorem Tc {g : Operand} {args : List Operand} {ts : Array TypeId} {f : FuncId} {first captured : Array Value} {φs ψs : List Fact} {Δi Δr Δo : List Tk} {Φ : Fact} {d : Option Nat} (hc : FnS P f ψs Δi Φ (fun _ => Δo)) (k : T β n ds (putG d Φ Γ) (Δo ++ Δr) (wpListIn (fw r) 0 P ops Q aU))
  (hw : bU ops Γ o := by first | exact trivial | exact ⟨_, _, rfl, rfl, cc⟩) (ho : o.op = .call { callee := .value g, args := args.toArray, argTypes := ts } := by exact rfl) (hd : o.dst = d := by exact rfl) (hn : xA d n = true := by exact rfl) (hg : Has Γ g (fEq (.func (.func f) first captured)) := by exact has rfl)
  (hargs : aK Γ args φs := by exact hl) (hall : first.toList.map fEq ++ φs ++ captured.toList.map fEq = ψs := by exact rfl) (hf : eT P f := by exact cb rfl) (hΔ : Δ = Δi ++ Δr := by exact rfl) : T β n ds Γ Δ (wpListIn (fw r) 0 P ops Q (o :: aU)) := gS hw ho hd hn hg hargs hall hf hc hΔ k
theorem Tp {g : Operand} {args : List Operand} {ts : Array TypeId} {f : FuncId} {first captured : Array Value} {φs ψs : List Fact} {Δi Δr : List Tk} {c : List PanicEntry} (hc : FnP P f ψs Δi c) (k : T β n ds Γ Δr (Q (.panic c))) (hw : bU ops Γ o := by first | exact trivial | exact ⟨_, _, rfl, rfl, cc⟩)
  (ho : o.op = .call { callee := .value g, args := args.toArray, argTypes := ts } := by exact rfl) (hg : Has Γ g (fEq (.func (.func f) first captured)) := by exact has rfl) (hargs : aK Γ args φs := by exact hl) (hall : first.toList.map fEq ++ φs ++ captured.toList.map fEq = ψs := by exact rfl) (hf : eT P f := by exact cb rfl)
  (hΔ : Δ = Δi ++ Δr := by exact rfl) : T β n ds Γ Δ (wpListIn (fw r) 0 P ops Q (o :: aU)) := T_callP hw ho hg hargs hall hf hc hΔ k
def AllE (Γ : Ctx) (v : Value) : List Nat → Prop
 | [] => True
 | s :: ss => lk Γ s = some (fEq v) ∧ AllE Γ v ss
theorem AllE.all {v : Value} : ∀ {ss : List Nat}, AllE Γ v ss → ∀ s ∈ ss, lk Γ s = some (fEq v)
 | _ :: _, h, _, .head _ => h.1
 | _ :: _, h, s, .tail _ k => AllE.all h.2 s k
theorem fz {v : Value} {ss : List Nat} (h : AllE Γ v ss := by repeat (first | exact trivial | refine ⟨by exact rfl, ?_⟩)) : ∀ s ∈ ss, lk Γ s = some (fEq v) := h.all
theorem Tn {d : Nat} {f : Nat → Value} {τ : Nat → Tk} (h : OpN P Γ o f τ) (k : ∀ b, T β n ds ((d, fEq (f b)) :: Γ) (τ b :: Δ) (wpListIn (fw r) 0 P ops Q aU)) (hw : bU ops Γ o := by first | exact trivial | exact ⟨_, _, rfl, rfl, cc⟩) (hd : o.dst = some d := by exact rfl) (hn : Nat.ble (d + 1) n = true := by exact rfl) :
  T β n ds Γ Δ (wpListIn (fw r) 0 P ops Q (o :: aU)) := T_new hw hd hn h k
theorem sb {Γ' Γ : Ctx} (h : fY Γ' Γ := by repeat (first | exact fY.nil | refine Sc ?_)) : fY Γ' Γ := h
theorem Tm {ι : Type} {ok : ι → Prop} {Γf : ι → Ctx} {Δf : ι → List Tk} (i : ι) (h : ok i) (hs : fY (Γf i) Γ := by exact sb) (hd : Δ = Δf i := by exact rfl) : T β n ds Γ Δ (fun a w => ∃ i, ok i ∧ AtT β n ds (Γf i) (Δf i) a w) := T_meet i h hs hd
theorem ij {α : Type} {a b : α} (h : some a = some b) : b = a := (Option.some.inj h).symm
theorem ls {n : Nat} : n < n + 1 := Nat.lt_succ_self n
theorem Tl {ι : Type} {c : Code} (ok : ι → Prop) (μ : ι → Nat) (Γf : ι → Ctx) (Δf : ι → List Tk) (i₀ : ι) (h₀ : ok i₀) (round : ∀ i, ok i → T β n ds (Γf i) (Δf i) (c.wpIn (fw r) 0 P (Exit.then (fun a w => ∃ j, (ok j ∧ μ j < μ i) ∧ AtT β n ds (Γf j) (Δf j) a w) Q)))
  (hs : fY (Γf i₀) Γ := by exact sb) (hd : Δ = Δf i₀ := by exact rfl) : T β n ds Γ Δ ((Code.loop c).wpIn (fw r) 0 P Q) := T_loop ok μ Γf Δf i₀ h₀ hs hd round
theorem To {fn : Func} {Φ : Fact} {Δ' : List Tk} {t : Nat} (hr : fn.results = #[.tmp t] := by exact rfl) (hv : gK Γ t Φ := by exact bO rfl) (hd : Δ = Δ' := by exact rfl) : T β n [] Γ Δ (bodyPost P fn (fR β Φ (fun _ => Δ')) .ret) := nC hr hv hd
theorem Zy {d : Nat} {φ : Fact} (hw : bU ops Γ o) (h : OpT P Γ [] o φ) (hd : o.dst = some d) (hn : Nat.ble (d + 1) n = true) (k : T β n ds ((d, φ) :: Γ) Δ (wpListIn (fw r) 0 P ops Q aU)) : T β n ds Γ Δ (wpListIn (fw r) 0 P ops Q (o :: aU)) := T_y hw hd hn h k
theorem Zg {d : Nat} {φ : Fact} {c want : Bool} (hg : GW ops Γ o c want) (hc : c = want) (h : OpT P Γ [] o φ) (hd : o.dst = some d) (hn : Nat.ble (d + 1) n = true) (k : T β n ds ((d, φ) :: Γ) Δ (wpListIn (fw r) 0 P ops Q aU)) :
  T β n ds Γ Δ (wpListIn (fw r) 0 P ops Q (o :: aU)) := T_y (hg.wants hc) hd hn h k
theorem Zk {d : Nat} {c want : Bool} (hg : GW ops Γ o c want) (hc : c ≠ want) (hd : o.dst = some d) (hn : Nat.ble (d + 1) n = true) (k : T β n ds ((d, fEq undef) :: Γ) Δ (wpListIn (fw r) 0 P ops Q aU)) :
  T β n ds Γ Δ (wpListIn (fw r) 0 P ops Q (o :: aU)) := dS (hg.unwants hc) hd hn k
theorem Zo {d : Nat} {φ : Fact} {τ : Tk} (i : Nat) (hw : bU ops Γ o) (hτ : Δ[i]? = some τ) (h : OpT P Γ [τ] o φ) (hd : o.dst = some d) (hn : Nat.ble (d + 1) n = true) (k : T β n ds ((d, φ) :: Γ) Δ (wpListIn (fw r) 0 P ops Q aU)) :
  T β n ds Γ Δ (wpListIn (fw r) 0 P ops Q (o :: aU)) := T_o1 i hw hτ hd hn h k
theorem Zh {d : Nat} {φ : Fact} {τ : Tk} {c want : Bool} (i : Nat) (hg : GW ops Γ o c want) (hc : c = want) (hτ : Δ[i]? = some τ) (h : OpT P Γ [τ] o φ) (hd : o.dst = some d) (hn : Nat.ble (d + 1) n = true) (k : T β n ds ((d, φ) :: Γ) Δ (wpListIn (fw r) 0 P ops Q aU)) :
  T β n ds Γ Δ (wpListIn (fw r) 0 P ops Q (o :: aU)) := T_o1 i (hg.wants hc) hτ hd hn h k
end
section
variable {P : Program} {r : Option Nat} {ops : Array Oper} {β : bN} {n : Nat} {ds : List Deferred} {Γ : Ctx} {Δ : List Tk} {o : Oper} {l : List NO} {e : Env'} {i : Nat} {G : Env' → Cf → (Nat → Tk) → Prop} {Q : Exit → Act → World → Prop}
theorem Ny {d : Nat} {φ : Fact} (hw : bU ops Γ o) (h : OpT P Γ [] o φ) (hd : o.dst = some d) (k : ∀ b, NC P r ops G l (e.set i b) (lk ((d, φ) :: Γ)) (dOf Δ)) :
  NC P r ops G ((i, o, odC [] false φ []) :: l) e (lk Γ) (dOf Δ) := N_y rfl (fun _ => rfl) hw hd h k
theorem Ng {d : Nat} {φ : Fact} {c want : Bool} (hg : GW ops Γ o c want) (hc : c = want) (h : OpT P Γ [] o φ) (hd : o.dst = some d) (k : ∀ b, NC P r ops G l (e.set i b) (lk ((d, φ) :: Γ)) (dOf Δ)) :
  NC P r ops G ((i, o, odC [] false φ []) :: l) e (lk Γ) (dOf Δ) := N_y rfl (fun _ => rfl) (hg.wants hc) hd h k
theorem No {d : Nat} {φ : Fact} {τ : Tk} (p : Nat) (hw : bU ops Γ o) (hp : [p].map (dOf Δ) = [τ]) (h : OpT P Γ [τ] o φ) (hd : o.dst = some d) (k : ∀ b, NC P r ops G l (e.set i b) (lk ((d, φ) :: Γ)) (dOf Δ)) :
  NC P r ops G ((i, o, odC [p] false φ [cZ]) :: l) e (lk Γ) (dOf Δ) := eD (ps := [p]) rfl (fun _ => rfl) hw hp hd h k
theorem Nh {d : Nat} {φ : Fact} {τ : Tk} {c want : Bool} (p : Nat) (hg : GW ops Γ o c want) (hc : c = want) (hp : [p].map (dOf Δ) = [τ]) (h : OpT P Γ [τ] o φ) (hd : o.dst = some d) (k : ∀ b, NC P r ops G l (e.set i b) (lk ((d, φ) :: Γ)) (dOf Δ)) :
  NC P r ops G ((i, o, odC [p] false φ [cZ]) :: l) e (lk Γ) (dOf Δ) := eD (ps := [p]) rfl (fun _ => rfl) (hg.wants hc) hp hd h k
theorem Nc {g : Operand} {args : List Operand} {ts : Array TypeId} {f : FuncId} {first captured : Array Value} {φs ψs : List Fact} {Φ : Fact} {d : Nat} (hc : FnS P f ψs [] Φ (fun _ => [])) (k : ∀ b, NC P r ops G l (e.set i b) (lk ((d, Φ) :: Γ)) (dOf Δ)) (hw : bU ops Γ o := by first | exact trivial | exact ⟨_, _, rfl, rfl, cc⟩)
  (ho : o.op = .call { callee := .value g, args := args.toArray, argTypes := ts } := by exact rfl) (hd : o.dst = some d := by exact rfl) (hg : Has Γ g (fEq (.func (.func f) first captured)) := by exact has rfl) (hargs : aK Γ args φs := by exact hl) (hall : first.toList.map fEq ++ φs ++ captured.toList.map fEq = ψs := by exact rfl) (hf : eT P f := by exact cb rfl) :
  NC P r ops G ((i, o, odC [] true Φ []) :: l) e (lk Γ) (dOf Δ) := aBQ (od := odC [] true Φ []) rfl (fun _ => rfl) hw ho hd hg hargs hall hf hc k
theorem Nk {d : Nat} {c want : Bool} (hg : GW ops Γ o c want) (hc : c ≠ want) (hd : o.dst = some d) (k : ∀ b, NC P r ops G l (e.set i b) (lk ((d, fEq undef) :: Γ)) (dOf Δ)) : NC P r ops G ((i, o, odS) :: l) e (lk Γ) (dOf Δ) := eR rfl (hg.unwants hc) hd k
theorem fk {ods : List (Env' → OD)} {us : List Us} (h : dX ods us := by repeat first | exact dX.nil | apply FkC | apply FkS | apply FkN | apply FkD1 | apply FkD2 | apply FkD3 | apply FkN1 | apply FkN2 | apply FkN3) : dX ods us := h
end
end Go.SW
namespace Go.Dt
open Go.SX Go.SW
structure ScopeExp where
 Op : Int
 N : Int
 Kids : List ScopeExp
inductive sD (m : Mem) : Addr → ScopeExp → Prop
 | mk (p : Addr) (x : ScopeExp) (v2 : Value) (q2 : Nat → Addr) : (∃ u, m.cell p = some u ∧ (aA .i64 x.Op).p m u) → (∃ u, m.cell (p.add 1) = some u ∧ (aA .i64 x.N).p m u) → m.cell (p.add 2) = some v2 → Sl v2 x.Kids.length 3 q2 → x.Kids.length ≤ 1000000000 → (∀ (i : Nat) y, x.Kids[i]? = some y → sD m (q2 i) y) → sD m p x
theorem sD.mono {m m' : Mem} (h : Mem.le m m') : ∀ {p : Addr} {x : ScopeExp}, sD m p x → sD m' p x := fun {p x} k => by
 induction k with
 | mk p x v2 q2 e0 e1 c2 s2 l2 _r2 ih2 => exact .mk p x v2 q2 (let ⟨u, a, b⟩ := e0; ⟨u, Mem.cell_mono h a, Fact.mono _ h b⟩) (let ⟨u, a, b⟩ := e1; ⟨u, Mem.cell_mono h a, Fact.mono _ h b⟩) (Mem.cell_mono h c2) s2 l2 ih2
def gE (xs : List ScopeExp) : Fact := ⟨fun m v => ∃ q, Sl v xs.length 3 q ∧ xs.length ≤ 1000000000 ∧ ∀ (i : Nat) y, xs[i]? = some y → sD m (q i) y, fun h ⟨q, h1, h2, h3⟩ => ⟨q, h1, h2, fun i y hy => (h3 i y hy).mono h⟩⟩
theorem aA6 {xs : List ScopeExp} : dW (gE xs) := fun _ _ ⟨_, h, _⟩ => h.isCell
def bA : Ty ScopeExp := ⟨3, fun x => [aA .i64 x.Op, aA .i64 x.N, gE x.Kids], fun _ => rfl, fun x => (aO (aD trivial) (aO (aD trivial) (aO (aA6) bX)))⟩
theorem aGn {m : Mem} {p : Addr} {x : ScopeExp} : bA.at m p x ↔ sD m p x := by
 constructor
 ·rintro ⟨cs, ⟨c0, r0, rfl, h0, ⟨c1, r1, rfl, h1, ⟨c2, r2, rfl, h2, hn⟩⟩⟩, hc⟩
  have hn : r2 = [] := hn
  subst hn
  obtain ⟨q2, s2, l2, a2⟩ := h2
  exact .mk p x c2 q2 ⟨c0, hc 0 _ rfl, h0⟩ ⟨c1, hc 1 _ rfl, h1⟩ (hc 2 _ rfl) s2 l2 a2
 ·rintro ⟨p, x, v2, q2, ⟨u0, g0, e0⟩, ⟨u1, g1, e1⟩, g2, s2, l2, a2⟩
  refine ⟨[u0, u1, v2], ⟨u0, [u1, v2], rfl, e0, ⟨u1, [v2], rfl, e1, ⟨v2, [], rfl, ⟨q2, s2, l2, a2⟩, rfl⟩⟩⟩, fun j c hj => ?_⟩
  match j, hj with
  | 0, hj => cases hj; exact g0
  | 1, hj => cases hj; exact g1
  | 2, hj => cases hj; exact g2
  | j + 3, hj => simp at hj
theorem iO {xs : List ScopeExp} : gE xs = fSl bA xs := Fact.ext' fun m v => by
 constructor
 ·rintro ⟨q, h1, h2, h3⟩; exact ⟨q, h1, h2, fun i x hx => aGn.2 (h3 i x hx)⟩
 ·rintro ⟨q, h1, h2, h3⟩; exact ⟨q, h1, h2, fun i x hx => aGn.1 (h3 i x hx)⟩
theorem aGg {φ : Fact} {xs : List ScopeExp} (h : Ent φ (fSl bA xs)) : Ent φ (gE xs) := by rw [iO]; exact h
structure ScopeNode where
 Op : Int
 N : Int
 Args : List ScopeExp
 Kids : List Int
def aL : Ty ScopeNode := ⟨4, fun x => [aA .i64 x.Op, aA .i64 x.N, fSl bA x.Args, fSl (aB .i64) x.Kids], fun _ => rfl, fun x => (aO (aD trivial) (aO (aD trivial) (aO (aZ) (aO (aZ) bX))))⟩
structure ScopeChan where
 At : Int
 Many : Int
def bF : Ty ScopeChan := ⟨2, fun x => [aA .i64 x.At, aA .i64 x.Many], fun _ => rfl, fun x => (aO (aD trivial) (aO (aD trivial) bX))⟩
structure ScopeSpot where
 In : Int
 Node : Int
def bW : Ty ScopeSpot := ⟨2, fun x => [aA .i64 x.In, aA .i64 x.Node], fun _ => rfl, fun x => (aO (aD trivial) (aO (aD trivial) bX))⟩
structure ScopeRule where
 At : Int
 Joins : List Int
 Node : Int
def bK : Ty ScopeRule := ⟨3, fun x => [aA .i64 x.At, fSl (aB .i64) x.Joins, aA .i64 x.Node], fun _ => rfl, fun x => (aO (aD trivial) (aO (aZ) (aO (aD trivial) bX)))⟩
structure ScopeDef where
 Chans : List ScopeChan
 Spots : List ScopeSpot
 Rules : List ScopeRule
def aJ : Ty ScopeDef := ⟨3, fun x => [fSl bF x.Chans, fSl bW x.Spots, fSl bK x.Rules], fun _ => rfl, fun x => (aO (aZ) (aO (aZ) (aO (aZ) bX)))⟩
structure ScopeProg where
 Free : List ByteArray
 Nodes : List ScopeNode
 Defs : List ScopeDef
 Main : Int
def dO : Ty ScopeProg := ⟨4, fun x => [fSl aM x.Free, fSl aL x.Nodes, fSl aJ x.Defs, aA .i64 x.Main], fun _ => rfl, fun x => (aO (aZ) (aO (aZ) (aO (aZ) (aO (aD trivial) bX))))⟩
structure UsageDef where
 Chans : List Int
 Rules : List Int
 Args : List (List Int)
def bC : Ty UsageDef := ⟨3, fun x => [fSl (aB .i64) x.Chans, fSl (aB .i64) x.Rules, fSl (tSl (aB .i64)) x.Args], fun _ => rfl, fun x => (aO (aZ) (aO (aZ) (aO (aZ) bX)))⟩
def dI : OTy UsageDef := ⟨3, fun x => [.own (fun v => aE v 30 (aB .i64) x.Chans) (fun _ => dK), .own (fun v => aE v 30 (aB .i64) x.Rules) (fun _ => dK), .own (fun v => bL v 58 (cL 30 (aB .i64)) x.Args) (fun _ => jG)], fun _ => rfl⟩
structure Ref05_Chan where
 Def : Int
 Index : Int
structure bR where
 p : ScopeProg
 Envs : List (List Ref05_Chan)
 Sizes : List Int
 Heads : List Int
structure Usage_channel where
 def_ : Int
 index : Int
def dJ : Ty Usage_channel := ⟨2, fun x => [aA .i64 x.def_, aA .i64 x.index], fun _ => rfl, fun x => (aO (aD trivial) (aO (aD trivial) bX))⟩
structure Usage_text where
 ScopeProg : ScopeProg
 denotes : List (aQ Int Usage_channel)
 sizes : List Int
 heads : List Int
def bJ : Ty Usage_text := ⟨7, fun x => dO.leafs x.ScopeProg ++ [fSl (gL cP (fun y => fSt dJ y)) x.denotes, fSl (aB .i64) x.sizes, fSl (aB .i64) x.heads], fun _ => rfl, fun x => (yM (dO.cell x.ScopeProg) (aO (aZ) (aO (aZ) (aO (aZ) bX))))⟩
structure Usage_text_R where
 ScopeProg : ScopeProg
 denotes : Value
 sizes : List Int
 heads : Value
def fV : Ty Usage_text_R := ⟨7, fun x => dO.leafs x.ScopeProg ++ [eI x.denotes, fSl (aB .i64) x.sizes, eI x.heads], fun _ => rfl, fun x => (yM (dO.cell x.ScopeProg) (aO (kB) (aO (aZ) (aO (kB) bX))))⟩
def eE : Ty Usage_text := ⟨7, fun x => dO.leafs x.ScopeProg ++ [fCell, fSl (aB .i64) x.sizes, fCell], fun _ => rfl, fun x => (yM (dO.cell x.ScopeProg) (aO (aAs) (aO (aZ) (aO (aAs) bX))))⟩
theorem aE7 {x : Usage_text} : Ent (aF bJ x) (aF eE x) := aDE (aN.app aN.rfl (aN.cons (zK aZ) (aN.cons Ent.rfl (aN.cons (zK aZ) aN.nil))))
theorem aIl {x : Usage_text} {h_denotes h_heads : Value} : Ent (aF fV (⟨x.ScopeProg, h_denotes, x.sizes, h_heads⟩ : Usage_text_R)) (aF eE x) := aDE (aN.app aN.rfl (aN.cons (zK kB) (aN.cons Ent.rfl (aN.cons (zK kB) aN.nil))))
structure Ref03_look where
 p : ScopeProg
 sizes : List Int
 owner : List Int
 users : List Int
 bad : Bool
def vW : Ty Ref03_look := ⟨8, fun x => dO.leafs x.p ++ [fSl (aB .i64) x.sizes, fSl (aB .i64) x.owner, fSl (aB .i64) x.users, aI x.bad], fun _ => rfl, fun x => (yM (dO.cell x.p) (aO (aZ) (aO (aZ) (aO (aZ) (aO (aD trivial) bX)))))⟩
structure Scope_looker where
 p : ScopeProg
 sizes : List Int
 met : List Bool
 defs : List Bool
def kL : Ty Scope_looker := ⟨7, fun x => dO.leafs x.p ++ [fSl (aB .i64) x.sizes, fSl cD x.met, fSl cD x.defs], fun _ => rfl, fun x => (yM (dO.cell x.p) (aO (aZ) (aO (aZ) (aO (aZ) bX))))⟩
structure Scope_flaw where
 e : Int
structure Scope_speaks where
def aHz : Ty Scope_speaks := ⟨0, fun x => [], fun _ => rfl, fun x => bX⟩
structure Scope_travels where
def aJr : Ty Scope_travels := ⟨0, fun x => [], fun _ => rfl, fun x => bX⟩
structure Scope_declares where
def aI2 : Ty Scope_declares := ⟨0, fun x => [], fun _ => rfl, fun x => bX⟩
structure Scope_decides where
def aJq : Ty Scope_decides := ⟨0, fun x => [], fun _ => rfl, fun x => bX⟩
theorem qA : ∀ x, dP (dI.leafs x) (bC.leafs x) := fun x => (dP.cons (fun v => cO) (dP.cons (fun v => cO) (dP.cons (fun v => (lI rfl (fun x => dP.cons (fun v => cO) dP.nil))) dP.nil)))
theorem aIV : ∀ x, iP (dI.leafs x) := fun x => (iP.cons (fun v => (aC0 aCt)) (iP.cons (fun v => (aC0 aCt)) (iP.cons (fun v => (aDy (fun x => iP.cons (fun v => (aC0 aCt)) iP.nil))) iP.nil)))
end Go.Dt
set_option maxRecDepth 100000
set_option maxHeartbeats 2000000
namespace Go.Proofs.YtmnbfgeljmhekaaGreat
open Go.SX Go.SW Go.Dt
theorem bG : Tryz.prog.follows .mixedOrders = true := by kernel_rfl
theorem aCI : gX Tryz.prog 105 [(0, 1), (1, 1), (2, 1)] (.agg #[.int .i64 0, .slice none 0 0, .int .i64 0]) := ⟨(by kernel_rfl : gO Tryz.prog 105 = some [(0, 1), (1, 1), (2, 1)]), (by kernel_rfl : cQ Tryz.prog 105 = some (.agg #[.int .i64 0, .slice none 0 0, .int .i64 0]))⟩
theorem aAt : gX Tryz.prog 110 [(0, 1), (1, 1)] (.agg #[.int .i64 0, .int .i64 0]) := ⟨(by kernel_rfl : gO Tryz.prog 110 = some [(0, 1), (1, 1)]), (by kernel_rfl : cQ Tryz.prog 110 = some (.agg #[.int .i64 0, .int .i64 0]))⟩
theorem aIq : gX Tryz.prog 121 [(0, 1), (1, 1)] (.agg #[.int .i64 0, .int .i64 0]) := ⟨(by kernel_rfl : gO Tryz.prog 121 = some [(0, 1), (1, 1)]), (by kernel_rfl : cQ Tryz.prog 121 = some (.agg #[.int .i64 0, .int .i64 0]))⟩
theorem aHE : gX Tryz.prog 151 [(0, 4), (4, 1), (5, 1), (6, 1)] (.agg #[.slice none 0 0, .slice none 0 0, .slice none 0 0, .int .i64 0, .slice none 0 0, .slice none 0 0, .slice none 0 0]) := ⟨(by kernel_rfl : gO Tryz.prog 151 = some [(0, 4), (4, 1), (5, 1), (6, 1)]), (by kernel_rfl : cQ Tryz.prog 151 = some (.agg #[.slice none 0 0, .slice none 0 0, .slice none 0 0, .int .i64 0, .slice none 0 0, .slice none 0 0, .slice none 0 0]))⟩
theorem aJb : gX Tryz.prog 167 [(0, 1)] (.agg #[.int .i64 0]) := ⟨(by kernel_rfl : gO Tryz.prog 167 = some [(0, 1)]), (by kernel_rfl : cQ Tryz.prog 167 = some (.agg #[.int .i64 0]))⟩
theorem aG2 : gX Tryz.prog 190 [] (.agg #[]) := ⟨(by kernel_rfl : gO Tryz.prog 190 = some []), (by kernel_rfl : cQ Tryz.prog 190 = some (.agg #[]))⟩
theorem aHZ : gX Tryz.prog 191 [] (.agg #[]) := ⟨(by kernel_rfl : gO Tryz.prog 191 = some []), (by kernel_rfl : cQ Tryz.prog 191 = some (.agg #[]))⟩
theorem aGG : gX Tryz.prog 192 [] (.agg #[]) := ⟨(by kernel_rfl : gO Tryz.prog 192 = some []), (by kernel_rfl : cQ Tryz.prog 192 = some (.agg #[]))⟩
theorem aI9 : gX Tryz.prog 193 [] (.agg #[]) := ⟨(by kernel_rfl : gO Tryz.prog 193 = some []), (by kernel_rfl : cQ Tryz.prog 193 = some (.agg #[]))⟩
theorem ty_bu_26 : gX Tryz.prog 26 [(0, 1), (1, 1), (2, 1), (3, 1)] (.agg #[.slice none 0 0, .slice none 0 0, .slice none 0 0, .int .i64 0]) := ⟨(by kernel_rfl : gO Tryz.prog 26 = some [(0, 1), (1, 1), (2, 1), (3, 1)]), (by kernel_rfl : cQ Tryz.prog 26 = some (.agg #[.slice none 0 0, .slice none 0 0, .slice none 0 0, .int .i64 0]))⟩
theorem kQ : gX Tryz.prog 51 [(0, 1), (1, 1), (2, 1), (3, 1)] (.agg #[.int .i64 0, .int .i64 0, .slice none 0 0, .slice none 0 0]) := ⟨(by kernel_rfl : gO Tryz.prog 51 = some [(0, 1), (1, 1), (2, 1), (3, 1)]), (by kernel_rfl : cQ Tryz.prog 51 = some (.agg #[.int .i64 0, .int .i64 0, .slice none 0 0, .slice none 0 0]))⟩
theorem aFw : gX Tryz.prog 56 [(0, 1), (1, 1), (2, 1)] (.agg #[.int .i64 0, .int .i64 0, .slice none 0 0]) := ⟨(by kernel_rfl : gO Tryz.prog 56 = some [(0, 1), (1, 1), (2, 1)]), (by kernel_rfl : cQ Tryz.prog 56 = some (.agg #[.int .i64 0, .int .i64 0, .slice none 0 0]))⟩
theorem aCV : gX Tryz.prog 61 [(0, 1), (1, 1), (2, 1)] (.agg #[.slice none 0 0, .slice none 0 0, .slice none 0 0]) := ⟨(by kernel_rfl : gO Tryz.prog 61 = some [(0, 1), (1, 1), (2, 1)]), (by kernel_rfl : cQ Tryz.prog 61 = some (.agg #[.slice none 0 0, .slice none 0 0, .slice none 0 0]))⟩
theorem ty_bu_84 : gX Tryz.prog 84 [(0, 4), (4, 1), (5, 1), (6, 1)] (.agg #[.slice none 0 0, .slice none 0 0, .slice none 0 0, .int .i64 0, .slice none 0 0, .slice none 0 0, .slice none 0 0]) := ⟨(by kernel_rfl : gO Tryz.prog 84 = some [(0, 4), (4, 1), (5, 1), (6, 1)]), (by kernel_rfl : cQ Tryz.prog 84 = some (.agg #[.slice none 0 0, .slice none 0 0, .slice none 0 0, .int .i64 0, .slice none 0 0, .slice none 0 0, .slice none 0 0]))⟩
theorem ty_bu_89 : gX Tryz.prog 89 [(0, 4), (4, 1), (5, 1), (6, 1), (7, 1)] (.agg #[.slice none 0 0, .slice none 0 0, .slice none 0 0, .int .i64 0, .slice none 0 0, .slice none 0 0, .slice none 0 0, .bool false]) := ⟨(by kernel_rfl : gO Tryz.prog 89 = some [(0, 4), (4, 1), (5, 1), (6, 1), (7, 1)]), (by kernel_rfl : cQ Tryz.prog 89 = some (.agg #[.slice none 0 0, .slice none 0 0, .slice none 0 0, .int .i64 0, .slice none 0 0, .slice none 0 0, .slice none 0 0, .bool false]))⟩
theorem aE8 : gX Tryz.prog 99 [(0, 1), (1, 1), (2, 1)] (.agg #[.slice none 0 0, .slice none 0 0, .slice none 0 0]) := ⟨(by kernel_rfl : gO Tryz.prog 99 = some [(0, 1), (1, 1), (2, 1)]), (by kernel_rfl : cQ Tryz.prog 99 = some (.agg #[.slice none 0 0, .slice none 0 0, .slice none 0 0]))⟩
theorem yQ : lE Tryz.prog 123 cP (.agg #[.int .i64 0, .int .i64 0]) := ⟨3, 121, by kernel_rfl, by kernel_rfl, by kernel_rfl⟩
theorem lL : lE Tryz.prog 183 kStr (.bool false) := ⟨9, 4, by kernel_rfl, by kernel_rfl, by kernel_rfl⟩
theorem aEn : lE Tryz.prog 199 cP (.bool false) := ⟨3, 4, by kernel_rfl, by kernel_rfl, by kernel_rfl⟩
theorem aDS : niB Tryz.prog 167 = true := by kernel_rfl
theorem aF1 : niB Tryz.prog 190 = true := by kernel_rfl
theorem aEE : niB Tryz.prog 191 = true := by kernel_rfl
theorem aE9 : niB Tryz.prog 192 = true := by kernel_rfl
theorem aFs : niB Tryz.prog 193 = true := by kernel_rfl
theorem aEo : niB Tryz.prog 197 = true := by kernel_rfl
theorem aCk : niB Tryz.prog 9 = true := by kernel_rfl
theorem aHr : iR Tryz.prog 4 .bool := (by kernel_rfl : Tryz.prog.underlying 4 = some .bool)
theorem aBR : Tryz.prog.underlying 153 = some (.int .u64) := by kernel_rfl
theorem aF7 : Tryz.prog.underlying 186 = some (.interface ((Tryz.prog.underlying 186).elim #[] fun | .interface ms => ms | _ => #[])) := by kernel_rfl
theorem aDT : Tryz.prog.underlying 20 = some (.interface ((Tryz.prog.underlying 20).elim #[] fun | .interface ms => ms | _ => #[])) := by kernel_rfl
theorem aA1 : Tryz.prog.underlying 3 = some (.int .i64) := by kernel_rfl
theorem ty_un_5 : Tryz.prog.underlying 5 = some (.int .u8) := by kernel_rfl
theorem mV : iR Tryz.prog 9 .string := (by kernel_rfl : Tryz.prog.underlying 9 = some .string)
theorem aJc : cQ Tryz.prog 167 = some (.agg #[.int .i64 0]) := by kernel_rfl
theorem aHl : cQ Tryz.prog 190 = some (.agg #[]) := by kernel_rfl
theorem aJl : cQ Tryz.prog 191 = some (.agg #[]) := by kernel_rfl
theorem aH9 : cQ Tryz.prog 192 = some (.agg #[]) := by kernel_rfl
theorem aJo : cQ Tryz.prog 193 = some (.agg #[]) := by kernel_rfl
theorem aBB : SX.Zero Tryz.prog 102 (.agg #[.int .i64 0, .int .i64 0]) := (by kernel_rfl : cQ Tryz.prog 102 = some (.agg #[.int .i64 0, .int .i64 0]))
theorem uD : SX.Zero Tryz.prog 105 (.agg #[.int .i64 0, .slice none 0 0, .int .i64 0]) := (by kernel_rfl : cQ Tryz.prog 105 = some (.agg #[.int .i64 0, .slice none 0 0, .int .i64 0]))
theorem aBq : SX.Zero Tryz.prog 110 (.agg #[.int .i64 0, .int .i64 0]) := (by kernel_rfl : cQ Tryz.prog 110 = some (.agg #[.int .i64 0, .int .i64 0]))
theorem aB4 : SX.Zero Tryz.prog 121 (.agg #[.int .i64 0, .int .i64 0]) := (by kernel_rfl : cQ Tryz.prog 121 = some (.agg #[.int .i64 0, .int .i64 0]))
theorem aIz : SX.Zero Tryz.prog 123 (.map none) := (by kernel_rfl : cQ Tryz.prog 123 = some (.map none))
theorem aGM : SX.Zero Tryz.prog 157 (.slice none 0 0) := (by kernel_rfl : cQ Tryz.prog 157 = some (.slice none 0 0))
theorem aG1 : SX.Zero Tryz.prog 167 (.agg #[.int .i64 0]) := (by kernel_rfl : cQ Tryz.prog 167 = some (.agg #[.int .i64 0]))
theorem aH5 : SX.Zero Tryz.prog 194 (.nilFunc) := (by kernel_rfl : cQ Tryz.prog 194 = some (.nilFunc))
theorem aAE : SX.Zero Tryz.prog 26 (.agg #[.slice none 0 0, .slice none 0 0, .slice none 0 0, .int .i64 0]) := (by kernel_rfl : cQ Tryz.prog 26 = some (.agg #[.slice none 0 0, .slice none 0 0, .slice none 0 0, .int .i64 0]))
theorem sO : SX.Zero Tryz.prog 3 (.int .i64 0) := (by kernel_rfl : cQ Tryz.prog 3 = some (.int .i64 0))
theorem ty_ze_30 : SX.Zero Tryz.prog 30 (.int .i64 0) := (by kernel_rfl : cQ Tryz.prog 30 = some (.int .i64 0))
theorem aEc : SX.Zero Tryz.prog 31 (.int .i64 0) := (by kernel_rfl : cQ Tryz.prog 31 = some (.int .i64 0))
theorem aCs : SX.Zero Tryz.prog 4 (.bool false) := (by kernel_rfl : cQ Tryz.prog 4 = some (.bool false))
theorem pN : SX.Zero Tryz.prog 51 (.agg #[.int .i64 0, .int .i64 0, .slice none 0 0, .slice none 0 0]) := (by kernel_rfl : cQ Tryz.prog 51 = some (.agg #[.int .i64 0, .int .i64 0, .slice none 0 0, .slice none 0 0]))
theorem aBy : SX.Zero Tryz.prog 56 (.agg #[.int .i64 0, .int .i64 0, .slice none 0 0]) := (by kernel_rfl : cQ Tryz.prog 56 = some (.agg #[.int .i64 0, .int .i64 0, .slice none 0 0]))
theorem uO : SX.Zero Tryz.prog 61 (.agg #[.slice none 0 0, .slice none 0 0, .slice none 0 0]) := (by kernel_rfl : cQ Tryz.prog 61 = some (.agg #[.slice none 0 0, .slice none 0 0, .slice none 0 0]))
theorem aFb : SX.Zero Tryz.prog 67 (.int .i64 0) := (by kernel_rfl : cQ Tryz.prog 67 = some (.int .i64 0))
theorem tB : SX.Zero Tryz.prog 99 (.agg #[.slice none 0 0, .slice none 0 0, .slice none 0 0]) := (by kernel_rfl : cQ Tryz.prog 99 = some (.agg #[.slice none 0 0, .slice none 0 0, .slice none 0 0]))
def aEG (b : Nat) (x : Scope_looker) (v0 v1 v2 : Value) : List Tk := [aC b 151 [fSl aM x.p.Free, fSl aL x.p.Nodes, fSl aJ x.p.Defs, aA .i64 x.p.Main, fEq v0, fEq v1, fEq v2], aE v0 3 (aB .i64) x.sizes, aE v1 4 cD x.met, aE v2 4 cD x.defs]
def aFy (b : Nat) (x : Scope_looker) (v0 v1 : Value) : List Tk := [tEx (aEG b x v0 v1)]
def aDx (b : Nat) (x : Scope_looker) (v0 : Value) : List Tk := [tEx (aFy b x v0)]
def aAH (b : Nat) (x : Scope_looker) : Tk := tEx (aDx b x)
theorem xB {β : bN} {n : Nat} {ds : List Deferred} {Γ : Ctx} {Δ : List Tk} {F : Act → World → Prop} {b : Nat} {x : Scope_looker} (h : ∀ v0 v1 v2, T β n ds Γ (aC b 151 [fSl aM x.p.Free, fSl aL x.p.Nodes, fSl aJ x.p.Defs, aA .i64 x.p.Main, fEq v0, fEq v1, fEq v2] :: aE v0 3 (aB .i64) x.sizes :: aE v1 4 cD x.met :: aE v2 4 cD x.defs :: Δ) F) : T β n ds Γ (aAH b x :: Δ) F := vL (fun v0 => vL (fun v1 => vL (fun v2 => h v0 v1 v2)))
theorem yX {β : bN} {n : Nat} {ds : List Deferred} {Γ : Ctx} {Δ : List Tk} {F : Act → World → Prop} {b : Nat} {x : Scope_looker} {v0 v1 v2 : Value} (h : T β n ds Γ (aAH b x :: Δ) F) : T β n ds Γ (aC b 151 [fSl aM x.p.Free, fSl aL x.p.Nodes, fSl aJ x.p.Defs, aA .i64 x.p.Main, fEq v0, fEq v1, fEq v2] :: aE v0 3 (aB .i64) x.sizes :: aE v1 4 cD x.met :: aE v2 4 cD x.defs :: Δ) F := tE (f := aEG b x v0 v1) v2 (tE (f := aFy b x v0) v1 (tE (f := aDx b x) v0 (h)))
def aFM (b : Nat) (x : Ref03_look) (v0 v1 v2 : Value) : List Tk := [aC b 89 [fSl aM x.p.Free, fSl aL x.p.Nodes, fSl aJ x.p.Defs, aA .i64 x.p.Main, fEq v0, fEq v1, fEq v2, aI x.bad], aE v0 3 (aB .i64) x.sizes, aE v1 3 (aB .i64) x.owner, aE v2 3 (aB .i64) x.users]
def aFJ (b : Nat) (x : Ref03_look) (v0 v1 : Value) : List Tk := [tEx (aFM b x v0 v1)]
def aE3 (b : Nat) (x : Ref03_look) (v0 : Value) : List Tk := [tEx (aFJ b x v0)]
def qN (b : Nat) (x : Ref03_look) : Tk := tEx (aE3 b x)
theorem sM {β : bN} {n : Nat} {ds : List Deferred} {Γ : Ctx} {Δ : List Tk} {F : Act → World → Prop} {b : Nat} {x : Ref03_look} (h : ∀ v0 v1 v2, T β n ds Γ (aC b 89 [fSl aM x.p.Free, fSl aL x.p.Nodes, fSl aJ x.p.Defs, aA .i64 x.p.Main, fEq v0, fEq v1, fEq v2, aI x.bad] :: aE v0 3 (aB .i64) x.sizes :: aE v1 3 (aB .i64) x.owner :: aE v2 3 (aB .i64) x.users :: Δ) F) : T β n ds Γ (qN b x :: Δ) F := vL (fun v0 => vL (fun v1 => vL (fun v2 => h v0 v1 v2)))
theorem gD {β : bN} {n : Nat} {ds : List Deferred} {Γ : Ctx} {Δ : List Tk} {F : Act → World → Prop} {b : Nat} {x : Ref03_look} {v0 v1 v2 : Value} (h : T β n ds Γ (qN b x :: Δ) F) : T β n ds Γ (aC b 89 [fSl aM x.p.Free, fSl aL x.p.Nodes, fSl aJ x.p.Defs, aA .i64 x.p.Main, fEq v0, fEq v1, fEq v2, aI x.bad] :: aE v0 3 (aB .i64) x.sizes :: aE v1 3 (aB .i64) x.owner :: aE v2 3 (aB .i64) x.users :: Δ) F := tE (f := aFM b x v0 v1) v2 (tE (f := aFJ b x v0) v1 (tE (f := aE3 b x) v0 (h)))
def usL : List (Nat × Nat) := [(22, 9), (23, 51), (24, 99), (27, 61), (44, 5), (48, 56), (49, 3), (58, 30), (59, 58), (95, 110), (96, 102), (97, 105), (149, 4), (156, 157), (157, 67)]
theorem usK : (usL.all fun p => onb (slB Tryz.prog p.1) p.2) = true := by kernel_rfl
theorem us {t e : Nat} (h : tb usL t = some e) : iR Tryz.prog t (.slice e) := us_of usK h
def elL : List (Nat × Nat) := [(22, 1), (23, 4), (24, 3), (27, 3), (44, 1), (48, 3), (49, 1), (58, 1), (59, 1), (72, 1), (82, 1), (95, 2), (96, 2), (97, 3), (118, 2), (149, 1), (156, 1), (157, 1)]
theorem elK : (elL.all fun p => onb (rO Tryz.prog p.1) p.2) = true := by kernel_rfl
theorem el {t e : Nat} (h : tb elL t = some e) : kG Tryz.prog t e := el_of elK h
def szL : List (Nat × Nat) := [(3, 1), (4, 1), (23, 1), (24, 1), (26, 4), (30, 1), (31, 1), (48, 1), (49, 1), (51, 4), (56, 3), (58, 1), (59, 1), (61, 3), (67, 1), (72, 1), (96, 1), (97, 1), (99, 3), (102, 2), (105, 3), (110, 2), (118, 1), (121, 2), (123, 1), (126, 2), (157, 1), (167, 1), (194, 1)]
theorem szK : (szL.all fun p => onb (nR Tryz.prog p.1) p.2) = true := by kernel_rfl
theorem sz {t e : Nat} (h : tb szL t = some e) : gT Tryz.prog t e := sz_of szK h
def agL : List (Nat × Nat) := [(26, 4), (51, 4), (56, 3), (61, 3), (99, 3), (102, 2), (105, 3), (110, 2), (121, 2), (126, 2)]
theorem agK : (agL.all fun p => aggB Tryz.prog p.1 p.2) = true := by kernel_rfl
theorem ag {t e : Nat} (h : tb agL t = some e) : jR Tryz.prog t e := ag_of agK h
def scL : List (Nat) := [3, 4, 5, 9, 22, 23, 24, 27, 30, 31, 47, 48, 49, 54, 58, 59, 64, 67, 72, 81, 82, 95, 96, 97, 118, 123, 149, 152, 157, 158, 194]
theorem scK : (scL.all fun p => scalB Tryz.prog p) = true := by kernel_rfl
theorem sc {t : Nat} (h : (scL.any fun p => Nat.beq p t) = true) : jQ Tryz.prog t := sc_of scK h
def cbL : List (Nat) := [8, 9, 10, 11, 12, 13, 14, 15, 16, 17, 18, 19, 20, 21, 22, 23, 24, 25, 26, 27, 28, 29, 30, 31, 32, 33, 34, 35, 36, 37, 38, 39, 40, 41, 42, 43, 44, 45, 46, 47, 48, 49, 50, 51, 52, 53, 54, 55, 56, 57, 58, 59, 60, 61, 62, 63, 64, 65, 66, 67, 68, 69, 70, 71, 72, 73, 74, 75, 76, 77, 78, 79, 80, 81, 82, 83, 84, 85, 86, 87, 88, 89, 90, 91, 92, 93, 94, 95, 96, 97, 98, 99, 100, 101, 102, 103, 104, 105, 106, 107, 108, 109, 110, 111, 112, 113, 114, 116, 117, 118, 119, 120, 121, 122, 123, 124, 125, 126, 127, 128, 129, 130, 131, 132, 148, 149, 150, 151, 152]
theorem cbK : (cbL.all fun p => callB Tryz.prog p) = true := by kernel_rfl
theorem cb {t : Nat} (h : (cbL.any fun p => Nat.beq p t) = true) : eT Tryz.prog t := cb_of cbK h
def faL : List (Nat × Nat × Nat) := [(26, 0, 0), (26, 1, 1), (26, 2, 2), (26, 3, 3), (51, 0, 0), (51, 1, 1), (51, 2, 2), (51, 3, 3), (56, 0, 0), (56, 1, 1), (56, 2, 2), (61, 0, 0), (61, 1, 1), (61, 2, 2), (74, 0, 0), (74, 1, 4), (74, 2, 5), (74, 3, 6), (84, 0, 0), (84, 1, 4), (84, 2, 5), (84, 3, 6), (89, 0, 0), (89, 1, 4), (89, 2, 5), (89, 3, 6), (89, 4, 7), (99, 0, 0), (99, 1, 1), (99, 2, 2), (102, 0, 0), (102, 1, 1), (105, 0, 0), (105, 1, 1), (105, 2, 2), (110, 0, 0), (110, 1, 1), (121, 0, 0), (121, 1, 1), (126, 0, 0), (126, 1, 1), (151, 0, 0), (151, 1, 4), (151, 2, 5), (151, 3, 6), (167, 0, 0)]
theorem faK : (faL.all fun p => onb (aA8 Tryz.prog p.1 p.2.1) p.2.2) = true := by kernel_rfl
theorem fa {s f t : Nat} (h : tb3 faL s f = some t) : rA Tryz.prog s f t := fa_of faK h
def etL : List (Nat × Nat × Nat × Nat) := [(22, 9, 1, 16), (23, 51, 4, 64), (24, 99, 3, 72), (27, 61, 3, 72), (48, 56, 3, 40), (49, 3, 1, 8), (58, 30, 1, 8), (59, 58, 1, 24), (72, 118, 1, 24), (82, 123, 1, 8), (95, 110, 2, 16), (96, 102, 2, 16), (97, 105, 3, 40), (118, 126, 2, 16), (149, 4, 1, 1), (156, 157, 1, 24), (157, 67, 1, 8)]
theorem etK : (etL.all fun p => elB Tryz.prog p.1 p.2.1 p.2.2.1 p.2.2.2) = true := by kernel_rfl
theorem et {t e s b : Nat} (h : tb4 etL t = some (e, s, b)) : ElT Tryz.prog t e s b := et_of etK h
def aH7 : List (Nat × Nat × Nat) := [(74, 0, 0), (84, 0, 0)]
theorem ox {Γ : Ctx} {o : Oper} {φ : Fact} (h : OpT Tryz.prog Γ [] o φ := by first
 | exact o_fieldC dO aH7 rfl (by exact rfl) hh (fa rfl) (by exact rfl)
 | exact bV rfl hh
 | exact fP rfl hh (sc rfl) (by exact rfl)
 | exact cC rfl hh hh (el (by exact rfl)) (by with_reducible assumption)
 | exact fW rfl hh (us rfl)
 | exact cI rfl hh cf hh
 | exact dF rfl hh ct hh
 | exact vJ rfl hh hh
 | exact o_eql rfl hh hh
 | exact rI rfl hh hh
 | exact gY rfl hh hh
 | exact o_leq rfl hh hh
 | exact qQ rfl hh hh
 | exact fI rfl hh hh (by with_reducible assumption)
 | exact aAY rfl hh
 | exact aI1 rfl hh (by exact rfl)
 | exact kT rfl hh
 | exact o_nilP rfl hh
 | exact o_nilE rfl hh
 | exact aCy rfl hh (ag (by exact rfl))
 | exact cG _ rfl hh (fa rfl) rfl
 | exact fT (t' := aB _) rfl hh (fa rfl) (by exact rfl)
 | exact fT (t' := tSl _) rfl hh (fa rfl) (by exact rfl)
 | exact fT (t' := cD) rfl hh (fa rfl) (by exact rfl)
 | exact fT (t' := aM) rfl hh (fa rfl) (by exact rfl)
 | exact fT (t' := tRaw) rfl hh (fa rfl) (by exact rfl)
 | exact o_sub rfl hh hh (by with_reducible assumption)
 | exact o_mul rfl hh hh (by with_reducible assumption)
 | exact o_shr rfl hh hh (by with_reducible assumption)
 | exact o_min rfl hh hh
 | exact o_mulW rfl hh hh
 | exact o_addW rfl hh hh
 | exact o_and rfl hh hh) : OpT Tryz.prog Γ [] o φ := h
theorem oo {Γ : Ctx} {o : Oper} {φ : Fact} {τ : Tk} (h : OpT Tryz.prog Γ [τ] o φ := by first
 | exact bY rfl hh (sc rfl) (by exact rfl) Ent.rfl
 | exact o_loadBS rfl hh (ag (by exact rfl)) (by exact rfl) (by exact rfl)
 | exact gF rfl hh hh (el (by exact rfl)) (by with_reducible assumption)
 | exact o_lenR rfl hh (us rfl)) : OpT Tryz.prog Γ [τ] o φ := h
theorem Z1 {P Q : Prop} (q : Q) (h : cT Q → P := by
 intro q
 first
 | refine Nn ?_
 | refine Ym ?_
 | refine Sr ?_
 | refine Ya ?_
 | refine Zy (by exact trivial) ox (by exact rfl) (by exact rfl) ?_
 | refine Zk (by exact ⟨_, _, rfl, rfl, rfl⟩) cn (by exact rfl) (by exact rfl) ?_
 | refine Zg (by exact ⟨_, _, rfl, rfl, rfl⟩) cc ox (by exact rfl) (by exact rfl) ?_
 | refine aES ?_
 | refine cY hh ct ?_
 | refine dD hh cf ?_
 | refine Rr ?_
 | refine aDJ ?_
 | refine T_in_ret ?_
 | refine aIY ?_
 | refine T_skip ?_
 | refine T_block ?_
 | refine aFo ?_
 | refine T_in_n ?_
 | refine T_exit ?_
 | refine T_in_hit ?_
 | refine aIg rfl ?_
 | refine T_retc ?_
 | refine N_done rfl ?_
 | refine aHf ?_
 | refine aIH ?_
 | refine T_nil ?_
 | refine Zo 0 (by exact trivial) (by exact rfl) oo (by exact rfl) (by exact rfl) ?_
 | refine Zo 1 (by exact trivial) (by exact rfl) oo (by exact rfl) (by exact rfl) ?_
 | refine Zo 2 (by exact trivial) (by exact rfl) oo (by exact rfl) (by exact rfl) ?_
 | refine Zo 3 (by exact trivial) (by exact rfl) oo (by exact rfl) (by exact rfl) ?_
 | refine Zo 4 (by exact trivial) (by exact rfl) oo (by exact rfl) (by exact rfl) ?_
 | refine Zo 5 (by exact trivial) (by exact rfl) oo (by exact rfl) (by exact rfl) ?_
 | refine Zo 6 (by exact trivial) (by exact rfl) oo (by exact rfl) (by exact rfl) ?_
 | refine Zo 7 (by exact trivial) (by exact rfl) oo (by exact rfl) (by exact rfl) ?_
 | refine Zh 0 (by exact ⟨_, _, rfl, rfl, rfl⟩) cc (by exact rfl) oo (by exact rfl) (by exact rfl) ?_
 | refine Zh 1 (by exact ⟨_, _, rfl, rfl, rfl⟩) cc (by exact rfl) oo (by exact rfl) (by exact rfl) ?_
 | refine Zh 2 (by exact ⟨_, _, rfl, rfl, rfl⟩) cc (by exact rfl) oo (by exact rfl) (by exact rfl) ?_
 | refine Zh 3 (by exact ⟨_, _, rfl, rfl, rfl⟩) cc (by exact rfl) oo (by exact rfl) (by exact rfl) ?_
 | refine Zh 4 (by exact ⟨_, _, rfl, rfl, rfl⟩) cc (by exact rfl) oo (by exact rfl) (by exact rfl) ?_
 | refine Zh 5 (by exact ⟨_, _, rfl, rfl, rfl⟩) cc (by exact rfl) oo (by exact rfl) (by exact rfl) ?_
 | refine Zh 6 (by exact ⟨_, _, rfl, rfl, rfl⟩) cc (by exact rfl) oo (by exact rfl) (by exact rfl) ?_
 | refine Zh 7 (by exact ⟨_, _, rfl, rfl, rfl⟩) cc (by exact rfl) oo (by exact rfl) (by exact rfl) ?_
 exact q.h) : P := h ⟨q⟩
theorem Z2 {P Q : Prop} (q : Q) (h : cT Q → P := by
 intro q
 refine Z1 ?_
 refine Z1 ?_
 exact q.h) : P := h ⟨q⟩
theorem Z3 {P Q : Prop} (q : Q) (h : cT Q → P := by
 intro q
 refine Z1 ?_
 refine Z1 ?_
 refine Z1 ?_
 exact q.h) : P := h ⟨q⟩
theorem Z4 {P Q : Prop} (q : Q) (h : cT Q → P := by
 intro q
 refine Z1 ?_
 refine Z1 ?_
 refine Z1 ?_
 refine Z1 ?_
 exact q.h) : P := h ⟨q⟩
theorem Z5 {P Q : Prop} (q : Q) (h : cT Q → P := by
 intro q
 refine Z2 ?_
 refine Z3 ?_
 exact q.h) : P := h ⟨q⟩
theorem Z6 {P Q : Prop} (q : Q) (h : cT Q → P := by
 intro q
 refine Z3 ?_
 refine Z3 ?_
 exact q.h) : P := h ⟨q⟩
theorem Z7 {P Q : Prop} (q : Q) (h : cT Q → P := by
 intro q
 refine Z3 ?_
 refine Z4 ?_
 exact q.h) : P := h ⟨q⟩
theorem Z8 {P Q : Prop} (q : Q) (h : cT Q → P := by
 intro q
 refine Z4 ?_
 refine Z4 ?_
 exact q.h) : P := h ⟨q⟩
theorem Z9 {P Q : Prop} (q : Q) (h : cT Q → P := by
 intro q
 refine Z4 ?_
 refine Z5 ?_
 exact q.h) : P := h ⟨q⟩
theorem Z10 {P Q : Prop} (q : Q) (h : cT Q → P := by
 intro q
 refine Z5 ?_
 refine Z5 ?_
 exact q.h) : P := h ⟨q⟩
theorem Z11 {P Q : Prop} (q : Q) (h : cT Q → P := by
 intro q
 refine Z5 ?_
 refine Z6 ?_
 exact q.h) : P := h ⟨q⟩
theorem Z12 {P Q : Prop} (q : Q) (h : cT Q → P := by
 intro q
 refine Z6 ?_
 refine Z6 ?_
 exact q.h) : P := h ⟨q⟩
theorem B1 {α γ : Type} {o : Option α} {f : α → Option γ} {r : γ} {P Q : Prop} (q : ∀ x, o = some x → f x = some r → Q) (h : cT Q → P := by
 intro q
 refine Z1 ?_
 exact q.h) (e : o.bind f = some r) : P := bs (fun x a b => h ⟨q x a b⟩) e
theorem I1 {γ : Type} {p : Prop} [Decidable p] {a b : Option γ} {r : γ} {P Q : Prop} (k : decide p = true → a = some r → Q) (k' : decide p = false → b = some r → Q) (h : cT Q → P := by
 intro q
 refine Z1 ?_
 exact q.h) (e : (if p then a else b) = some r) : P := is (fun c a => h ⟨k c a⟩) (fun c a => h ⟨k' c a⟩) e
theorem B2 {α γ : Type} {o : Option α} {f : α → Option γ} {r : γ} {P Q : Prop} (q : ∀ x, o = some x → f x = some r → Q) (h : cT Q → P := by
 intro q
 refine Z2 ?_
 exact q.h) (e : o.bind f = some r) : P := bs (fun x a b => h ⟨q x a b⟩) e
theorem I2 {γ : Type} {p : Prop} [Decidable p] {a b : Option γ} {r : γ} {P Q : Prop} (k : decide p = true → a = some r → Q) (k' : decide p = false → b = some r → Q) (h : cT Q → P := by
 intro q
 refine Z2 ?_
 exact q.h) (e : (if p then a else b) = some r) : P := is (fun c a => h ⟨k c a⟩) (fun c a => h ⟨k' c a⟩) e
theorem B3 {α γ : Type} {o : Option α} {f : α → Option γ} {r : γ} {P Q : Prop} (q : ∀ x, o = some x → f x = some r → Q) (h : cT Q → P := by
 intro q
 refine Z3 ?_
 exact q.h) (e : o.bind f = some r) : P := bs (fun x a b => h ⟨q x a b⟩) e
theorem I3 {γ : Type} {p : Prop} [Decidable p] {a b : Option γ} {r : γ} {P Q : Prop} (k : decide p = true → a = some r → Q) (k' : decide p = false → b = some r → Q) (h : cT Q → P := by
 intro q
 refine Z3 ?_
 exact q.h) (e : (if p then a else b) = some r) : P := is (fun c a => h ⟨k c a⟩) (fun c a => h ⟨k' c a⟩) e
theorem B4 {α γ : Type} {o : Option α} {f : α → Option γ} {r : γ} {P Q : Prop} (q : ∀ x, o = some x → f x = some r → Q) (h : cT Q → P := by
 intro q
 refine Z4 ?_
 exact q.h) (e : o.bind f = some r) : P := bs (fun x a b => h ⟨q x a b⟩) e
theorem I4 {γ : Type} {p : Prop} [Decidable p] {a b : Option γ} {r : γ} {P Q : Prop} (k : decide p = true → a = some r → Q) (k' : decide p = false → b = some r → Q) (h : cT Q → P := by
 intro q
 refine Z4 ?_
 exact q.h) (e : (if p then a else b) = some r) : P := is (fun c a => h ⟨k c a⟩) (fun c a => h ⟨k' c a⟩) e
theorem B5 {α γ : Type} {o : Option α} {f : α → Option γ} {r : γ} {P Q : Prop} (q : ∀ x, o = some x → f x = some r → Q) (h : cT Q → P := by
 intro q
 refine Z5 ?_
 exact q.h) (e : o.bind f = some r) : P := bs (fun x a b => h ⟨q x a b⟩) e
theorem I5 {γ : Type} {p : Prop} [Decidable p] {a b : Option γ} {r : γ} {P Q : Prop} (k : decide p = true → a = some r → Q) (k' : decide p = false → b = some r → Q) (h : cT Q → P := by
 intro q
 refine Z5 ?_
 exact q.h) (e : (if p then a else b) = some r) : P := is (fun c a => h ⟨k c a⟩) (fun c a => h ⟨k' c a⟩) e
theorem B6 {α γ : Type} {o : Option α} {f : α → Option γ} {r : γ} {P Q : Prop} (q : ∀ x, o = some x → f x = some r → Q) (h : cT Q → P := by
 intro q
 refine Z6 ?_
 exact q.h) (e : o.bind f = some r) : P := bs (fun x a b => h ⟨q x a b⟩) e
theorem I6 {γ : Type} {p : Prop} [Decidable p] {a b : Option γ} {r : γ} {P Q : Prop} (k : decide p = true → a = some r → Q) (k' : decide p = false → b = some r → Q) (h : cT Q → P := by
 intro q
 refine Z6 ?_
 exact q.h) (e : (if p then a else b) = some r) : P := is (fun c a => h ⟨k c a⟩) (fun c a => h ⟨k' c a⟩) e
theorem B7 {α γ : Type} {o : Option α} {f : α → Option γ} {r : γ} {P Q : Prop} (q : ∀ x, o = some x → f x = some r → Q) (h : cT Q → P := by
 intro q
 refine Z7 ?_
 exact q.h) (e : o.bind f = some r) : P := bs (fun x a b => h ⟨q x a b⟩) e
theorem I7 {γ : Type} {p : Prop} [Decidable p] {a b : Option γ} {r : γ} {P Q : Prop} (k : decide p = true → a = some r → Q) (k' : decide p = false → b = some r → Q) (h : cT Q → P := by
 intro q
 refine Z7 ?_
 exact q.h) (e : (if p then a else b) = some r) : P := is (fun c a => h ⟨k c a⟩) (fun c a => h ⟨k' c a⟩) e
theorem B8 {α γ : Type} {o : Option α} {f : α → Option γ} {r : γ} {P Q : Prop} (q : ∀ x, o = some x → f x = some r → Q) (h : cT Q → P := by
 intro q
 refine Z8 ?_
 exact q.h) (e : o.bind f = some r) : P := bs (fun x a b => h ⟨q x a b⟩) e
theorem I8 {γ : Type} {p : Prop} [Decidable p] {a b : Option γ} {r : γ} {P Q : Prop} (k : decide p = true → a = some r → Q) (k' : decide p = false → b = some r → Q) (h : cT Q → P := by
 intro q
 refine Z8 ?_
 exact q.h) (e : (if p then a else b) = some r) : P := is (fun c a => h ⟨k c a⟩) (fun c a => h ⟨k' c a⟩) e
theorem B9 {α γ : Type} {o : Option α} {f : α → Option γ} {r : γ} {P Q : Prop} (q : ∀ x, o = some x → f x = some r → Q) (h : cT Q → P := by
 intro q
 refine Z9 ?_
 exact q.h) (e : o.bind f = some r) : P := bs (fun x a b => h ⟨q x a b⟩) e
theorem I9 {γ : Type} {p : Prop} [Decidable p] {a b : Option γ} {r : γ} {P Q : Prop} (k : decide p = true → a = some r → Q) (k' : decide p = false → b = some r → Q) (h : cT Q → P := by
 intro q
 refine Z9 ?_
 exact q.h) (e : (if p then a else b) = some r) : P := is (fun c a => h ⟨k c a⟩) (fun c a => h ⟨k' c a⟩) e
theorem B10 {α γ : Type} {o : Option α} {f : α → Option γ} {r : γ} {P Q : Prop} (q : ∀ x, o = some x → f x = some r → Q) (h : cT Q → P := by
 intro q
 refine Z10 ?_
 exact q.h) (e : o.bind f = some r) : P := bs (fun x a b => h ⟨q x a b⟩) e
theorem I10 {γ : Type} {p : Prop} [Decidable p] {a b : Option γ} {r : γ} {P Q : Prop} (k : decide p = true → a = some r → Q) (k' : decide p = false → b = some r → Q) (h : cT Q → P := by
 intro q
 refine Z10 ?_
 exact q.h) (e : (if p then a else b) = some r) : P := is (fun c a => h ⟨k c a⟩) (fun c a => h ⟨k' c a⟩) e
theorem B11 {α γ : Type} {o : Option α} {f : α → Option γ} {r : γ} {P Q : Prop} (q : ∀ x, o = some x → f x = some r → Q) (h : cT Q → P := by
 intro q
 refine Z11 ?_
 exact q.h) (e : o.bind f = some r) : P := bs (fun x a b => h ⟨q x a b⟩) e
theorem I11 {γ : Type} {p : Prop} [Decidable p] {a b : Option γ} {r : γ} {P Q : Prop} (k : decide p = true → a = some r → Q) (k' : decide p = false → b = some r → Q) (h : cT Q → P := by
 intro q
 refine Z11 ?_
 exact q.h) (e : (if p then a else b) = some r) : P := is (fun c a => h ⟨k c a⟩) (fun c a => h ⟨k' c a⟩) e
theorem B12 {α γ : Type} {o : Option α} {f : α → Option γ} {r : γ} {P Q : Prop} (q : ∀ x, o = some x → f x = some r → Q) (h : cT Q → P := by
 intro q
 refine Z12 ?_
 exact q.h) (e : o.bind f = some r) : P := bs (fun x a b => h ⟨q x a b⟩) e
theorem ND {P Q : Prop} (q : Q) (h : cT Q → P := by
 intro q
 dsimp only [iJ, List.take, List.replicate, List.append, List.drop]
 exact q.h) : P := h ⟨q⟩
theorem M1 {P Q : Prop} (q : Q) (h : cT Q → P := by
 intro q
 first
 | refine Ny (by exact trivial) ox (by exact rfl) ?_
 | refine Nk (by exact ⟨_, _, rfl, rfl, rfl⟩) cn (by exact rfl) ?_
 | refine Ng (by exact ⟨_, _, rfl, rfl, rfl⟩) cc ox (by exact rfl) ?_
 | refine No 0 (by exact trivial) (by exact rfl) oo (by exact rfl) ?_
 | refine No 1 (by exact trivial) (by exact rfl) oo (by exact rfl) ?_
 | refine No 2 (by exact trivial) (by exact rfl) oo (by exact rfl) ?_
 | refine No 3 (by exact trivial) (by exact rfl) oo (by exact rfl) ?_
 | refine No 4 (by exact trivial) (by exact rfl) oo (by exact rfl) ?_
 | refine No 5 (by exact trivial) (by exact rfl) oo (by exact rfl) ?_
 | refine No 6 (by exact trivial) (by exact rfl) oo (by exact rfl) ?_
 | refine No 7 (by exact trivial) (by exact rfl) oo (by exact rfl) ?_
 | refine Nh 0 (by exact ⟨_, _, rfl, rfl, rfl⟩) cc (by exact rfl) oo (by exact rfl) ?_
 | refine Nh 1 (by exact ⟨_, _, rfl, rfl, rfl⟩) cc (by exact rfl) oo (by exact rfl) ?_
 | refine Nh 2 (by exact ⟨_, _, rfl, rfl, rfl⟩) cc (by exact rfl) oo (by exact rfl) ?_
 | refine Nh 3 (by exact ⟨_, _, rfl, rfl, rfl⟩) cc (by exact rfl) oo (by exact rfl) ?_
 | refine Nh 4 (by exact ⟨_, _, rfl, rfl, rfl⟩) cc (by exact rfl) oo (by exact rfl) ?_
 | refine Nh 5 (by exact ⟨_, _, rfl, rfl, rfl⟩) cc (by exact rfl) oo (by exact rfl) ?_
 | refine Nh 6 (by exact ⟨_, _, rfl, rfl, rfl⟩) cc (by exact rfl) oo (by exact rfl) ?_
 | refine Nh 7 (by exact ⟨_, _, rfl, rfl, rfl⟩) cc (by exact rfl) oo (by exact rfl) ?_
 exact q.h) : P := h ⟨q⟩
theorem M2 {P Q : Prop} (q : Q) (h : cT Q → P := by
 intro q
 refine M1 ?_
 intro b1
 refine M1 ?_
 revert b1
 exact q.h) : P := h ⟨q⟩
theorem M3 {P Q : Prop} (q : Q) (h : cT Q → P := by
 intro q
 refine M1 ?_
 intro b1
 refine M1 ?_
 intro b2
 refine M1 ?_
 revert b1 b2
 exact q.h) : P := h ⟨q⟩
theorem M4 {P Q : Prop} (q : Q) (h : cT Q → P := by
 intro q
 refine M1 ?_
 intro b1
 refine M1 ?_
 intro b2
 refine M1 ?_
 intro b3
 refine M1 ?_
 revert b1 b2 b3
 exact q.h) : P := h ⟨q⟩
theorem M5 {P Q : Prop} (q : Q) (h : cT Q → P := by
 intro q
 refine M1 ?_
 intro b1
 refine M1 ?_
 intro b2
 refine M1 ?_
 intro b3
 refine M1 ?_
 intro b4
 refine M1 ?_
 revert b1 b2 b3 b4
 exact q.h) : P := h ⟨q⟩
theorem M6 {P Q : Prop} (q : Q) (h : cT Q → P := by
 intro q
 refine M1 ?_
 intro b1
 refine M1 ?_
 intro b2
 refine M1 ?_
 intro b3
 refine M1 ?_
 intro b4
 refine M1 ?_
 intro b5
 refine M1 ?_
 revert b1 b2 b3 b4 b5
 exact q.h) : P := h ⟨q⟩
theorem M7 {P Q : Prop} (q : Q) (h : cT Q → P := by
 intro q
 refine M1 ?_
 intro b1
 refine M1 ?_
 intro b2
 refine M1 ?_
 intro b3
 refine M1 ?_
 intro b4
 refine M1 ?_
 intro b5
 refine M1 ?_
 intro b6
 refine M1 ?_
 revert b1 b2 b3 b4 b5 b6
 exact q.h) : P := h ⟨q⟩
theorem M8 {P Q : Prop} (q : Q) (h : cT Q → P := by
 intro q
 refine M1 ?_
 intro b1
 refine M1 ?_
 intro b2
 refine M1 ?_
 intro b3
 refine M1 ?_
 intro b4
 refine M1 ?_
 intro b5
 refine M1 ?_
 intro b6
 refine M1 ?_
 intro b7
 refine M1 ?_
 revert b1 b2 b3 b4 b5 b6 b7
 exact q.h) : P := h ⟨q⟩
end Go.Proofs.YtmnbfgeljmhekaaGreat
set_option maxRecDepth 100000
set_option maxHeartbeats 2000000
namespace Go.Proofs.YtmnbfgeljmhekaaGreat
open Go.SX Go.SW Go.Dt
attribute [local irreducible] Code.wpIn wpListIn Exit.then Exit.inBlock
theorem aEu (p0 : Nat) (e0 : Int) : FnD Tryz.prog 95 [fEq (ptr p0)] [aC p0 31 [aA .i64 e0]] (.returning) [aC p0 31 [aA .i64 e0]] := by
 refine FnD_of Tryz.func95 rfl Tryz.ntmps95 rfl (fun β c₀ cs hc => ?_)
 refine aE5 (v := .nilIface) (cs' := c₀ :: cs) (by simp [recoverD, hc]) rfl rfl rfl rfl rfl rfl ⟨rfl, rfl⟩ ?_
 refine T_inS ?_
 refine Z2 ?_
 refine Yy (zV rfl hh aDT (rfl : iT _ = some true)) ?_
 refine Z3 ?_
 exact T_endD (u' := .returning) (.inr rfl) rfl (by cases c₀; cases hc; rfl) rfl rfl
theorem aEC (p0 : Nat) (e0 e1 : Int) : FnD Tryz.prog 95 [fEq (ptr p0)] [aC p0 31 [aA .i64 e0]] (.panicking [{ v := (.iface 167 (.agg #[.int .i64 e1])), recovered := false }]) [aC p0 31 [aA .i64 e1]] := by
 refine FnD_of Tryz.func95 rfl Tryz.ntmps95 rfl (fun β c₀ cs hc => ?_)
 refine aE5 (v := (.iface 167 (.agg #[.int .i64 e1]))) (cs' := { c₀ with mode := .panicking [{ v := (.iface 167 (.agg #[.int .i64 e1])), recovered := true }] } :: cs) (by simp [recoverD, hc]) rfl rfl rfl rfl rfl rfl ⟨rfl, rfl⟩ ?_
 refine T_inS ?_
 refine Z2 ?_
 refine Yy (zV rfl hh aDT (rfl : iT _ = some false)) ?_
 refine Z4 ?_
 refine Yy (aI8 rfl hh aDS aJc) ?_
 refine Z2 ?_
 refine mG 11 rfl (sW [(.int .i64 e1)]) ?_
 refine Z1 ?_
 refine Tn (cK rfl aG1 rfl) fun b1 => ?_
 refine dM (φs' := [aA .i64 e1]) trivial rfl rfl (has rfl) (has rfl) (aO (aD trivial) bX) (sz rfl) rfl rfl rfl ?_
 refine Z2 ?_
 refine aH ?_
 refine Z12 ?_
 refine dH ?_
 refine dC (φs' := [aA .i64 e1]) trivial rfl rfl (has rfl) (has rfl) (aD trivial) (sz rfl) rfl rfl ?_
 refine Z1 ?_
 refine aG [0] (by decide) ?_
 exact T_endD (u' := .panicking [{ v := (.iface 167 (.agg #[.int .i64 e1])), recovered := true }]) (.inr rfl) rfl rfl rfl rfl
def bT (a0 : Bool) : Option (Unit ⊕ Value) :=
 bif a0 then
  some (Sum.inl ())
 else
  some (Sum.inr (.iface 167 (.agg ([(.int .i64 2)] : List Value).toArray)))
theorem aY  (a0 : Bool) (r : Unit ⊕ Value) (H : bT a0 = some r) : FnE Tryz.prog 108 [aI a0] [] r (fun r => dG []) (fun r => []) := by
 unfold bT at H
 refine rH Tryz.func108 rfl Tryz.ntmps108 rfl (fun β => ?_)
 refine Z4 ?_
 revert H; refine cs (fun c1 H => ?_) fun c1 H => ?_
 refine Z2 ?_
 cases H
 refine qF ?_
 exact fJ (.inr rfl) rfl rfl
 refine Z2 ?_
 refine Yy (dV (ψs := [aA .i64 2]) rfl aJb rfl (aV.cons (has rfl) (aT (aD trivial)) aV.nil) rfl) ?_
 refine Yy (nD rfl (dA rfl (yG [(.int .i64 2)])) aDS) ?_
 refine T_panic trivial rfl (has rfl) ?_
 cases H
 exact bZ
def aAn  : Option (aQ ByteArray Bool) :=
 some (aQ.upd (aQ.upd (aQ.upd (aQ.upd (aQ.upd (aQ.upd (aQ.upd (aQ.upd (aQ.upd (aQ.upd (aQ.none : aQ ByteArray Bool) ({ data := #[97, 110, 100] }) true) ({ data := #[100, 101, 102] }) true) ({ data := #[101, 108, 115, 101] }) true) ({ data := #[103, 111] }) true) ({ data := #[105, 102] }) true) ({ data := #[105, 110] }) true) ({ data := #[112, 108, 97, 99, 101] }) true) ({ data := #[115, 116, 111, 112] }) true) ({ data := #[116, 104, 101, 110] }) true) ({ data := #[119, 97, 116, 99, 104] }) true)
theorem aId   (r : aQ ByteArray Bool) (H : aAn = some r) : FnS Tryz.prog 122 [] [] (fS kStr (fun y => aI y) r) (fun _ => []) := by
 unfold aAn at H
 refine bD Tryz.func122 rfl Tryz.ntmps122 rfl (fun β => ?_)
 refine Z4 ?_
 refine Tn (zH (fun y => aI y) kStr rfl) fun b1 => ?_
 refine jS (k := { data := #[97, 110, 100] }) (y := true) trivial (.inr rfl) rfl (has rfl) (has rfl) rfl (has rfl) rfl lL ?_
 refine jS (k := { data := #[100, 101, 102] }) (y := true) trivial (.inr rfl) rfl (has rfl) (has rfl) rfl (has rfl) rfl lL ?_
 refine jS (k := { data := #[101, 108, 115, 101] }) (y := true) trivial (.inr rfl) rfl (has rfl) (has rfl) rfl (has rfl) rfl lL ?_
 refine jS (k := { data := #[103, 111] }) (y := true) trivial (.inr rfl) rfl (has rfl) (has rfl) rfl (has rfl) rfl lL ?_
 refine jS (k := { data := #[105, 102] }) (y := true) trivial (.inr rfl) rfl (has rfl) (has rfl) rfl (has rfl) rfl lL ?_
 refine jS (k := { data := #[105, 110] }) (y := true) trivial (.inr rfl) rfl (has rfl) (has rfl) rfl (has rfl) rfl lL ?_
 refine jS (k := { data := #[112, 108, 97, 99, 101] }) (y := true) trivial (.inr rfl) rfl (has rfl) (has rfl) rfl (has rfl) rfl lL ?_
 refine jS (k := { data := #[115, 116, 111, 112] }) (y := true) trivial (.inr rfl) rfl (has rfl) (has rfl) rfl (has rfl) rfl lL ?_
 refine jS (k := { data := #[116, 104, 101, 110] }) (y := true) trivial (.inr rfl) rfl (has rfl) (has rfl) rfl (has rfl) rfl lL ?_
 refine jS (k := { data := #[119, 97, 116, 99, 104] }) (y := true) trivial (.inr rfl) rfl (has rfl) (has rfl) rfl (has rfl) rfl lL ?_
 refine Z4 ?_
 refine cR (φ := fS kStr (fun y => aI y) (aQ.upd (aQ.upd (aQ.upd (aQ.upd (aQ.upd (aQ.upd (aQ.upd (aQ.upd (aQ.upd (aQ.upd (aQ.none : aQ ByteArray Bool) ({ data := #[97, 110, 100] }) true) ({ data := #[100, 101, 102] }) true) ({ data := #[101, 108, 115, 101] }) true) ({ data := #[103, 111] }) true) ({ data := #[105, 102] }) true) ({ data := #[105, 110] }) true) ({ data := #[112, 108, 97, 99, 101] }) true) ({ data := #[115, 116, 111, 112] }) true) ({ data := #[116, 104, 101, 110] }) true) ({ data := #[119, 97, 116, 99, 104] }) true)) (v := .map (some b1)) [0, 1, 2] aCg fz ?_
 refine cS ?_
 cases H
 exact To
def lQ (a0 : ByteArray) : Nat → Int → Option ((Unit) ⊕ (Bool))
| 0, _ => none
| k + 1, x2 =>
 if x2 < (a0.size : Int) then
  (sidx a0 x2).bind fun z1 =>
  if z1 < 97 then
   (some false).bind fun r => some (Sum.inr r)
  else
   (sidx a0 x2).bind fun z2 =>
   if 122 < z2 then
    (some false).bind fun r => some (Sum.inr r)
   else
    (chk (x2 + 1)).bind fun z3 =>
    lQ a0 k z3
 else
  some (Sum.inl ())
def sK (fuel : Nat) (a0 : ByteArray) : Option (Bool) :=
 (lQ a0 fuel 0).bind fun o => match o with
 | Sum.inr r => some r
 | Sum.inl _ =>
 (if 0 < (a0.size : Int) then
  if (a0.size : Int) ≤ 8 then
   (aAn).bind fun y1 =>
   some (!((y1.get a0).getD false))
  else
   some false
 else
  some false).bind fun x3 =>
 some x3
theorem aHK (fuel : Nat)  (a0 : ByteArray) (r : Bool) (H : sK fuel a0 = some r) : FnS Tryz.prog 109 [gU a0] [] (aI r) (fun _ => []) := by
 unfold sK at H
 refine bD Tryz.func109 rfl Tryz.ntmps109 rfl (fun β => ?_)
 revert H; refine B3 fun o1 H Hr1 => ?_
 refine aW (ι := Unit) (fun i => o1 = Sum.inl ()) (fun i => [(0, gU a0)]) (fun i => []) ?_ ?_
 refine Z2 ?_
 refine Yy (vD rfl hh mV) ?_
 refine Z3 ?_
 refine Tl (ι := Nat × Int) (fun i => lQ a0 i.1 i.2 = _) (fun i => i.1) (fun i => [(0, gU a0), (5, aA .i64 (a0.size : Int)), (6, aA .i64 i.2)]) (fun i => []) (fuel, 0) H ?_
 clear H; rintro ⟨k1, x2⟩ H
 replace H : lQ a0 k1 x2 = _ := H
 try dsimp only
 obtain _ | k1 := k1
 rw [lQ] at H; cases H
 rw [lQ] at H
 refine Z3 ?_
 refine aH ?_
 revert H; refine is (fun c1 H => ?_) fun c1 H => ?_
 refine Z3 ?_
 refine aH ?_
 revert H; refine B8 fun z1 h1 H => ?_
 refine Yy (aBg rfl hh hh mV h1) ?_
 revert H; refine I2 (fun c2 H => ?_) fun c2 H => ?_
 refine Z12 ?_
 revert H; refine B4 fun r1 H e1 => ?_
 cases e1; cases Hr1
 cases H
 exact To
 revert H; refine B2 fun z2 h2 H => ?_
 refine Yg c2 (aBg rfl hh hh mV h2) ?_
 revert H; refine I3 (fun c3 H => ?_) fun c3 H => ?_
 revert H; refine B10 fun r2 H e2 => ?_
 cases e2; cases Hr1
 cases H
 exact To
 revert H; refine B5 fun z3 h3 H => ?_
 refine Z3 ?_
 exact Tm ((k1, z3)) ⟨H, ls⟩
 refine Z6 ?_
 exact Tm (()) (ij H)
 clear H; intro i hi; subst o1; have H := Hr1; clear Hr1; try dsimp only at H
 try dsimp only
 revert H; refine bs fun o2 H Hr2 => ?_
 refine aW (ι := Bool) (fun i => o2 = i) (fun i => [(2, aI i)]) (fun i => []) ?_ ?_
 refine Z2 ?_
 refine Yy (vD rfl hh mV) ?_
 revert H; refine I2 (fun c4 H => ?_) fun c4 H => ?_
 refine Z1 ?_
 refine Yg c4 (vD rfl hh mV) ?_
 revert H; refine I3 (fun c5 H => ?_) fun c5 H => ?_
 revert H; refine bs fun y1 h4 H => ?_
 refine Tc (aId _ h4) ?_
 refine Z1 ?_
 refine Yg c5 (o_lookup (zα := false) (k := a0) rfl hh hh rfl lL Ent.rfl) ?_
 refine Z4 ?_
 exact Tm (!((y1.get a0).getD false)) (ij H)
 refine Z7 ?_
 exact Tm (false) (ij H)
 refine Z12 ?_
 exact Tm (false) (ij H)
 clear H; intro x3 hi; subst o2; have H := Hr2; clear Hr2; try dsimp only at H
 try dsimp only
 refine Z1 ?_
 cases H
 exact To
def kV (a0 : Int) : Option (Value) :=
 (if a0 = 1 then
  some (decide (a0 = 1))
 else
  some (decide (a0 = 7))).bind fun x1 =>
 bif x1 then
  some ((.iface 197 (.int .i64 0)) : Value)
 else
  if a0 = 3 then
   some ((.iface 197 (.int .i64 2)) : Value)
  else
   if a0 = 2 then
    some ((.iface 190 (.agg ([] : List Value).toArray)) : Value)
   else
    if a0 = 5 then
     some ((.iface 193 (.agg ([] : List Value).toArray)) : Value)
    else
     (if a0 = 6 then
      some (decide (a0 = 6))
     else
      some (decide (a0 = 8))).bind fun x2 =>
     bif x2 then
      some ((.iface 191 (.agg ([] : List Value).toArray)) : Value)
     else
      if a0 = 4 then
       some ((.iface 192 (.agg ([] : List Value).toArray)) : Value)
      else
       some (Go.Value.nilIface : Value)
theorem aHX  (a0 : Int) (r : Value) (H : kV a0 = some r) : FnS Tryz.prog 123 [aA .i64 a0] [] (eI r) (fun _ => []) := by
 unfold kV at H
 refine bD Tryz.func123 rfl Tryz.ntmps123 rfl (fun β => ?_)
 refine Z3 ?_
 refine aH ?_
 revert H; refine B4 fun o1 H Hr1 => ?_
 refine aW (ι := Bool) (fun i => o1 = i) (fun i => [(3, aA .i64 a0), (4, aI i)]) (fun i => []) ?_ ?_
 revert H; refine I4 (fun c1 H => ?_) fun c1 H => ?_
 refine Z3 ?_
 exact Tm (decide (a0 = 1)) (ij H)
 refine Z5 ?_
 exact Tm (decide (a0 = 7)) (ij H)
 clear H; intro x1 hi; subst o1; have H := Hr1; clear Hr1; try dsimp only at H
 try dsimp only
 revert H; refine cs (fun c2 H => ?_) fun c2 H => ?_
 refine Z2 ?_
 refine Yy (nD rfl hh aEo) ?_
 refine Z5 ?_
 cases H
 exact nC rfl (jF rfl (rU trivial)) rfl
 revert H; refine I5 (fun c3 H => ?_) fun c3 H => ?_
 refine Z2 ?_
 refine Yy (nD rfl hh aEo) ?_
 refine Z5 ?_
 cases H
 exact nC rfl (jF rfl (rU trivial)) rfl
 revert H; refine I5 (fun c4 H => ?_) fun c4 H => ?_
 refine Z2 ?_
 refine Yy (dV (ψs := []) rfl aG2 rfl aV.nil rfl) ?_
 refine Yy (nD rfl (dA rfl (yG [])) aF1) ?_
 refine Z5 ?_
 cases H
 exact nC rfl (jF rfl (rU trivial)) rfl
 revert H; refine I5 (fun c5 H => ?_) fun c5 H => ?_
 refine Z2 ?_
 refine Yy (dV (ψs := []) rfl aI9 rfl aV.nil rfl) ?_
 refine Yy (nD rfl (dA rfl (yG [])) aFs) ?_
 refine Z5 ?_
 cases H
 exact nC rfl (jF rfl (rU trivial)) rfl
 revert H; refine B1 fun o2 H Hr2 => ?_
 refine aW (ι := Bool) (fun i => o2 = i) (fun i => [(3, aA .i64 a0), (19, aI i)]) (fun i => []) ?_ ?_
 revert H; refine I4 (fun c6 H => ?_) fun c6 H => ?_
 refine Z3 ?_
 exact Tm (decide (a0 = 6)) (ij H)
 refine Z5 ?_
 exact Tm (decide (a0 = 8)) (ij H)
 clear H; intro x2 hi; subst o2; have H := Hr2; clear Hr2; try dsimp only at H
 try dsimp only
 revert H; refine cs (fun c7 H => ?_) fun c7 H => ?_
 refine Z2 ?_
 refine Yy (dV (ψs := []) rfl aHZ rfl aV.nil rfl) ?_
 refine Yy (nD rfl (dA rfl (yG [])) aEE) ?_
 refine Z5 ?_
 cases H
 exact nC rfl (jF rfl (rU trivial)) rfl
 revert H; refine I5 (fun c8 H => ?_) fun c8 H => ?_
 refine Z2 ?_
 refine Yy (dV (ψs := []) rfl aGG rfl aV.nil rfl) ?_
 refine Yy (nD rfl (dA rfl (yG [])) aE9) ?_
 refine Z5 ?_
 cases H
 exact nC rfl (jF rfl (rU trivial)) rfl
 refine Z8 ?_
 cases H
 exact nC rfl (jF rfl (rU trivial)) rfl
end Go.Proofs.YtmnbfgeljmhekaaGreat
set_option maxRecDepth 100000
set_option maxHeartbeats 2000000
namespace Go.Proofs.YtmnbfgeljmhekaaGreat
open Go.SX Go.SW Go.Dt
attribute [local irreducible] Code.wpIn wpListIn Exit.then Exit.inBlock
def pP (rec_scope_exp_1 : ScopeExp → Int → Int → Int → Option (Int ⊕ Value)) (a0 : ScopeExp) (a1 : Int) (w1 : Int) : Nat → Int → Int → Option (Int ⊕ Value)
| 0, _, _ => none
| k + 1, x4, x5 =>
 if x4 < (a0.Kids.length : Int) then
  (idx a0.Kids x4).bind fun y12 =>
  (chk (a1 + 1)).bind fun z2 =>
  (rec_scope_exp_1 (⟨y12.Op, y12.N, y12.Kids⟩ : ScopeExp) z2 x5 w1).bind fun y13 =>
  match y13 with
  | Sum.inr pv12 => some (Sum.inr pv12)
  | Sum.inl y13 =>
  (chk (x4 + 1)).bind fun z3 =>
  pP rec_scope_exp_1 a0 a1 w1 k z3 y13
 else
  some (Sum.inl x5)
def mY : Nat → ScopeExp → Int → Int → Int → Option (Int ⊕ Value)
| 0, _, _, _, _ => none
| fuel + 1, a0, a1, w0, w1 =>
 (chk (w0 + 1)).bind fun z1 =>
 (if z1 ≤ 60 then
  (bT (decide (a1 ≤ 12))).bind fun y1 =>
  match y1 with
  | Sum.inr pv1 => (some (Sum.inr pv1)).bind fun r => some (Sum.inr r)
  | Sum.inl y1 =>
  some (Sum.inl ())
 else
  (bT false).bind fun y2 =>
  match y2 with
  | Sum.inr pv2 => (some (Sum.inr pv2)).bind fun r => some (Sum.inr r)
  | Sum.inl y2 =>
  some (Sum.inl ())).bind fun o => match o with
 | Sum.inr r => some r
 | Sum.inl _ =>
 (if a0.Op = 1 then
  if (-1000000000) ≤ a0.N then
   if a0.N ≤ 1000000000 then
    (bT (decide ((a0.Kids.length : Int) = 0))).bind fun y3 =>
    match y3 with
    | Sum.inr pv3 => (some (Sum.inr pv3)).bind fun r => some (Sum.inr r)
    | Sum.inl y3 =>
    some (Sum.inl ())
   else
    (bT false).bind fun y4 =>
    match y4 with
    | Sum.inr pv4 => (some (Sum.inr pv4)).bind fun r => some (Sum.inr r)
    | Sum.inl y4 =>
    some (Sum.inl ())
  else
   (bT false).bind fun y5 =>
   match y5 with
   | Sum.inr pv5 => (some (Sum.inr pv5)).bind fun r => some (Sum.inr r)
   | Sum.inl y5 =>
   some (Sum.inl ())
 else
  if a0.Op = 2 then
   if 0 ≤ a0.N then
    if a0.N < w1 then
     (bT (decide ((a0.Kids.length : Int) = 0))).bind fun y6 =>
     match y6 with
     | Sum.inr pv6 => (some (Sum.inr pv6)).bind fun r => some (Sum.inr r)
     | Sum.inl y6 =>
     some (Sum.inl ())
    else
     (bT false).bind fun y7 =>
     match y7 with
     | Sum.inr pv7 => (some (Sum.inr pv7)).bind fun r => some (Sum.inr r)
     | Sum.inl y7 =>
     some (Sum.inl ())
   else
    (bT false).bind fun y8 =>
    match y8 with
    | Sum.inr pv8 => (some (Sum.inr pv8)).bind fun r => some (Sum.inr r)
    | Sum.inl y8 =>
    some (Sum.inl ())
  else
   (if a0.Op = 3 then
    some (decide (a0.Op = 3))
   else
    if a0.Op = 4 then
     some (decide (a0.Op = 4))
    else
     if a0.Op = 5 then
      some (decide (a0.Op = 5))
     else
      if a0.Op = 6 then
       some (decide (a0.Op = 6))
      else
       some (decide (a0.Op = 7))).bind fun x1 =>
   bif x1 then
    if a0.N = 0 then
     (bT (decide ((a0.Kids.length : Int) = 2))).bind fun y9 =>
     match y9 with
     | Sum.inr pv9 => (some (Sum.inr pv9)).bind fun r => some (Sum.inr r)
     | Sum.inl y9 =>
     some (Sum.inl ())
    else
     (bT false).bind fun y10 =>
     match y10 with
     | Sum.inr pv10 => (some (Sum.inr pv10)).bind fun r => some (Sum.inr r)
     | Sum.inl y10 =>
     some (Sum.inl ())
   else
    (bT false).bind fun y11 =>
    match y11 with
    | Sum.inr pv11 => (some (Sum.inr pv11)).bind fun r => some (Sum.inr r)
    | Sum.inl y11 =>
    some (Sum.inl ())).bind fun o => match o with
 | Sum.inr r => some r
 | Sum.inl _ =>
 pP (mY fuel) a0 a1 w1 fuel 0 z1
theorem aDF : ∀ (fuel : Nat), (∀ (q0 : Nat) (q2 : Nat) (a0 : ScopeExp) (a1 : Int) (w0 : Int) (w1 : Int) (r : Int ⊕ Value) (H : mY fuel a0 a1 w0 w1 = some r), FnE Tryz.prog 129 [fSt bA a0, aA .i64 a1, fEq (.pointer (some ⟨q0, 0, none⟩)), aF (aB .i64) w1, fEq (.pointer (some ⟨q2, 0, none⟩))] [aC q0 3 [aA .i64 w0], aC q2 194 [cU 129 [fEq (.pointer (some ⟨q0, 0, none⟩)), aF (aB .i64) w1, fEq (.pointer (some ⟨q2, 0, none⟩))]]] r (fun r => dG []) (fun r => [aC q0 3 [aA .i64 r], aC q2 194 [cU 129 [fEq (.pointer (some ⟨q0, 0, none⟩)), aF (aB .i64) w1, fEq (.pointer (some ⟨q2, 0, none⟩))]]])) := by
 intro fuel
 induction fuel with
 | zero => exact fun q0 q2 a0 a1 w0 w1 r H => (by rw [mY] at H; cases H)
 | succ fuel ih =>
 have ih_scope_exp_1 := ih
 refine ?_
 intro q0 q2 a0 a1 w0 w1 r H
 rw [mY] at H
 refine rH Tryz.func129 rfl Tryz.ntmps129 rfl (fun β => ?_)
 refine Z1 ?_
 refine Tn (cF rfl (has rfl) bQ) fun b1 => ?_
 revert H; refine B3 fun z1 h1 H => ?_
 refine Z1 ?_
 refine dH ?_
 refine dC (φs' := [aA .i64 z1]) trivial rfl rfl (has rfl) (has rfl) (aD trivial) (sz rfl) rfl rfl ?_
 revert H; refine B1 fun o1 H Hr1 => ?_
 refine aW (ι := Unit) (fun i => o1 = Sum.inl ()) (fun i => [(1, aA .i64 a1), (2, fEq (ptr q0)), (3, aF (aB .i64) w1), (4, fEq (ptr q2)), (5, fEq (ptr b1))]) (fun i => [aC q0 3 [aA .i64 z1], aC b1 56 [aA .i64 a0.Op, aA .i64 a0.N, gE a0.Kids], aC q2 194 [cU 129 [fEq (ptr q0), aF (aB .i64) w1, fEq (ptr q2)]]]) ?_ ?_
 revert H; refine I4 (fun c1 H => ?_) fun c1 H => ?_
 revert H; refine B3 fun y1 h2 H => ?_
 rcases y1 with y1 | pv1 <;> dsimp only at H
 refine Tc (aY _ _ h2).s ?_
 refine Z1 ?_
 exact Tm (()) (ij H)
 refine Tp (aY _ _ h2).pan ?_
 revert H; refine B1 fun r1 H e1 => ?_
 cases e1; cases Hr1
 cases H
 exact bZ
 revert H; refine B3 fun y2 h3 H => ?_
 rcases y2 with y2 | pv2 <;> dsimp only at H
 refine Tc (aY _ _ h3).s ?_
 refine Z1 ?_
 exact Tm (()) (ij H)
 refine Tp (aY _ _ h3).pan ?_
 revert H; refine B1 fun r2 H e2 => ?_
 cases e2; cases Hr1
 cases H
 exact bZ
 clear H; intro i hi; subst o1; have H := Hr1; clear Hr1; try dsimp only at H
 try dsimp only
 revert H; refine bs fun o2 H Hr2 => ?_
 refine aW (ι := Unit) (fun i => o2 = Sum.inl ()) (fun i => [(1, aA .i64 a1), (2, fEq (ptr q0)), (4, fEq (ptr q2)), (5, fEq (ptr b1))]) (fun i => [aC q0 3 [aA .i64 z1], aC b1 56 [aA .i64 a0.Op, aA .i64 a0.N, gE a0.Kids], aC q2 194 [cU 129 [fEq (ptr q0), aF (aB .i64) w1, fEq (ptr q2)]]]) ?_ ?_
 revert H; refine I9 (fun c2 H => ?_) fun c2 H => ?_
 revert H; refine I6 (fun c3 H => ?_) fun c3 H => ?_
 revert H; refine I5 (fun c4 H => ?_) fun c4 H => ?_
 refine Z1 ?_
 refine Yh 1 rfl c4 (bY rfl hh (sc rfl) rfl (jN iO)) ?_
 revert H; refine B3 fun y3 h4 H => ?_
 rcases y3 with y3 | pv3 <;> dsimp only at H
 refine Tc (aY _ _ h4).s ?_
 refine Z3 ?_
 exact Tm (()) (ij H)
 refine Tp (aY _ _ h4).pan ?_
 revert H; refine B2 fun r3 H e3 => ?_
 cases e3; cases Hr2
 cases H
 exact bZ
 revert H; refine B5 fun y4 h5 H => ?_
 rcases y4 with y4 | pv4 <;> dsimp only at H
 refine Tc (aY _ _ h5).s ?_
 refine Z3 ?_
 exact Tm (()) (ij H)
 refine Tp (aY _ _ h5).pan ?_
 revert H; refine B2 fun r4 H e4 => ?_
 cases e4; cases Hr2
 cases H
 exact bZ
 revert H; refine B10 fun y5 h6 H => ?_
 rcases y5 with y5 | pv5 <;> dsimp only at H
 refine Tc (aY _ _ h6).s ?_
 refine Z3 ?_
 exact Tm (()) (ij H)
 refine Tp (aY _ _ h6).pan ?_
 revert H; refine B2 fun r5 H e5 => ?_
 cases e5; cases Hr2
 cases H
 exact bZ
 revert H; refine I5 (fun c5 H => ?_) fun c5 H => ?_
 revert H; refine I6 (fun c6 H => ?_) fun c6 H => ?_
 revert H; refine I6 (fun c7 H => ?_) fun c7 H => ?_
 refine Z1 ?_
 refine Yh 1 rfl c7 (bY rfl hh (sc rfl) rfl (jN iO)) ?_
 revert H; refine B3 fun y6 h7 H => ?_
 rcases y6 with y6 | pv6 <;> dsimp only at H
 refine Tc (aY _ _ h7).s ?_
 refine Z3 ?_
 exact Tm (()) (ij H)
 refine Tp (aY _ _ h7).pan ?_
 revert H; refine B2 fun r6 H e6 => ?_
 cases e6; cases Hr2
 cases H
 exact bZ
 revert H; refine B5 fun y7 h8 H => ?_
 rcases y7 with y7 | pv7 <;> dsimp only at H
 refine Tc (aY _ _ h8).s ?_
 refine Z3 ?_
 exact Tm (()) (ij H)
 refine Tp (aY _ _ h8).pan ?_
 revert H; refine B2 fun r7 H e7 => ?_
 cases e7; cases Hr2
 cases H
 exact bZ
 revert H; refine B11 fun y8 h9 H => ?_
 rcases y8 with y8 | pv8 <;> dsimp only at H
 refine Tc (aY _ _ h9).s ?_
 refine Z3 ?_
 exact Tm (()) (ij H)
 refine Tp (aY _ _ h9).pan ?_
 revert H; refine B2 fun r8 H e8 => ?_
 cases e8; cases Hr2
 cases H
 exact bZ
 revert H; refine B1 fun o3 H Hr3 => ?_
 refine aW (ι := Bool) (fun i => o3 = i) (fun i => [(1, aA .i64 a1), (2, fEq (ptr q0)), (4, fEq (ptr q2)), (5, fEq (ptr b1)), (56, aI i)]) (fun i => [aC q0 3 [aA .i64 z1], aC b1 56 [aA .i64 a0.Op, aA .i64 a0.N, gE a0.Kids], aC q2 194 [cU 129 [fEq (ptr q0), aF (aB .i64) w1, fEq (ptr q2)]]]) ?_ ?_
 revert H; refine I4 (fun c8 H => ?_) fun c8 H => ?_
 refine Z3 ?_
 exact Tm (decide (a0.Op = 3)) (ij H)
 revert H; refine I5 (fun c9 H => ?_) fun c9 H => ?_
 refine Z3 ?_
 exact Tm (decide (a0.Op = 4)) (ij H)
 revert H; refine I5 (fun c10 H => ?_) fun c10 H => ?_
 refine Z3 ?_
 exact Tm (decide (a0.Op = 5)) (ij H)
 revert H; refine I5 (fun c11 H => ?_) fun c11 H => ?_
 refine Z3 ?_
 exact Tm (decide (a0.Op = 6)) (ij H)
 refine Z5 ?_
 exact Tm (decide (a0.Op = 7)) (ij H)
 clear H; intro x1 hi; subst o3; have H := Hr3; clear Hr3; try dsimp only at H
 try dsimp only
 revert H; refine cs (fun c12 H => ?_) fun c12 H => ?_
 revert H; refine I6 (fun c13 H => ?_) fun c13 H => ?_
 refine Z1 ?_
 refine Yh 1 rfl c13 (bY rfl hh (sc rfl) rfl (jN iO)) ?_
 revert H; refine B3 fun y9 h10 H => ?_
 rcases y9 with y9 | pv9 <;> dsimp only at H
 refine Tc (aY _ _ h10).s ?_
 refine Z3 ?_
 exact Tm (()) (ij H)
 refine Tp (aY _ _ h10).pan ?_
 revert H; refine B2 fun r9 H e9 => ?_
 cases e9; cases Hr2
 cases H
 exact bZ
 revert H; refine B5 fun y10 h11 H => ?_
 rcases y10 with y10 | pv10 <;> dsimp only at H
 refine Tc (aY _ _ h11).s ?_
 refine Z3 ?_
 exact Tm (()) (ij H)
 refine Tp (aY _ _ h11).pan ?_
 revert H; refine B2 fun r10 H e10 => ?_
 cases e10; cases Hr2
 cases H
 exact bZ
 revert H; refine B2 fun y11 h12 H => ?_
 rcases y11 with y11 | pv11 <;> dsimp only at H
 refine Tc (aY _ _ h12).s ?_
 refine Z3 ?_
 exact Tm (()) (ij H)
 refine Tp (aY _ _ h12).pan ?_
 revert H; refine B2 fun r11 H e11 => ?_
 cases e11; cases Hr2
 cases H
 exact bZ
 clear H; intro i hi; subst o2; have H := Hr2; clear Hr2; try dsimp only at H
 try dsimp only
 refine Z2 ?_
 refine Yo 1 rfl (bY rfl hh (sc rfl) rfl (jN iO)) ?_
 refine Z4 ?_
 refine Tl (ι := Nat × Int × Int) (fun i => pP (mY fuel) a0 a1 w1 i.1 i.2.1 i.2.2 = _) (fun i => i.1) (fun i => [(1, aA .i64 a1), (2, fEq (ptr q0)), (4, fEq (ptr q2)), (73, fSl bA a0.Kids), (74, aA .i64 (a0.Kids.length : Int)), (75, aA .i64 i.2.1)]) (fun i => [aC q0 3 [aA .i64 i.2.2], aC b1 56 [aA .i64 a0.Op, aA .i64 a0.N, gE a0.Kids], aC q2 194 [cU 129 [fEq (ptr q0), aF (aB .i64) w1, fEq (ptr q2)]]]) (fuel, 0, z1) H ?_
 clear H; rintro ⟨k1, x4, x5⟩ H
 replace H : pP (mY fuel) a0 a1 w1 k1 x4 x5 = _ := H
 try dsimp only
 obtain _ | k1 := k1
 rw [pP] at H; cases H
 rw [pP] at H
 refine Z3 ?_
 refine aH ?_
 revert H; refine is (fun c14 H => ?_) fun c14 H => ?_
 refine Z3 ?_
 refine aH ?_
 revert H; refine B2 fun y12 h13 H => ?_
 refine Z2 ?_
 refine Tn (cK rfl aBy rfl) fun b2 => ?_
 refine dM (φs' := [aA .i64 y12.Op, aA .i64 y12.N, gE y12.Kids]) trivial rfl rfl (has rfl) (has rfl) (aO (aD trivial) (aO (aD trivial) (aO (aA6) bX))) (sz rfl) rfl rfl rfl ?_
 revert H; refine B5 fun z2 h14 H => ?_
 refine Z1 ?_
 refine eF ?_
 refine eH ?_
 revert H; refine bs fun y13 h15 H => ?_
 rcases y13 with y13 | pv12 <;> dsimp only at H
 refine aAi trivial rfl rfl rfl (has rfl) (aK.cons (has rfl) (aK.cons (has rfl) aK.nil)) rfl (cb rfl) (ih_scope_exp_1 q0 q2 (⟨y12.Op, y12.N, y12.Kids⟩ : ScopeExp) z2 x5 w1 (Sum.inl y13) h15).s rfl ?_
 revert H; refine B4 fun z3 h16 H => ?_
 refine Z3 ?_
 refine aG [0, 3, 1] (by decide) ?_
 exact Tm ((k1, z3, y13)) ⟨H, ls⟩
 refine aAw trivial rfl (has rfl) (aK.cons (has rfl) (aK.cons (has rfl) aK.nil)) rfl (cb rfl) (ih_scope_exp_1 q0 q2 (⟨y12.Op, y12.N, y12.Kids⟩ : ScopeExp) z2 x5 w1 (Sum.inr pv12) h15).pan rfl ?_
 refine Z4 ?_
 cases H
 exact bZ
 refine Z5 ?_
 cases H
 refine qF ?_
 refine aG [0, 2] (by decide) ?_
 exact fJ (.inr rfl) rfl rfl
def xX (fuel : Nat) (a0 : ScopeExp) (a1 : Int) : Option (Unit ⊕ Value) :=
 (mY fuel (⟨a0.Op, a0.N, a0.Kids⟩ : ScopeExp) 1 0 a1).bind fun y1 =>
 match y1 with
 | Sum.inr pv1 => some (Sum.inr pv1)
 | Sum.inl y1 =>
 some (Sum.inl ())
theorem aD1 (fuel : Nat)  (a0 : ScopeExp) (a1 : Int) (r : Unit ⊕ Value) (H : xX fuel a0 a1 = some r) : FnE Tryz.prog 124 [fSt bA a0, aA .i64 a1] [] r (fun r => dG []) (fun r => []) := by
 unfold xX at H
 refine rH Tryz.func124 rfl Tryz.ntmps124 rfl (fun β => ?_)
 refine Z1 ?_
 refine Tn (cF rfl (has rfl) bQ) fun b1 => ?_
 refine Tn (cF rfl (has rfl) (aT (aD trivial))) fun b2 => ?_
 refine Z2 ?_
 refine Tn (cK rfl sO rfl) fun b3 => ?_
 refine dC (φs' := [aA .i64 0]) trivial rfl rfl (has rfl) (has rfl) (aD trivial) (sz rfl) rfl rfl ?_
 refine Z2 ?_
 refine Tn (cK rfl aH5 rfl) fun b4 => ?_
 refine Z2 ?_
 refine eH ?_
 refine cR (φ := aF (aB .i64) a1) (v := ptr b2) [3] (iG aN.rfl) fz ?_
 refine cS ?_
 refine Yy (uZ rfl (aK.cons hh (aK.cons hh (aK.cons hh aK.nil)))) ?_
 refine dC (φs' := [cU 129 [fEq (ptr b3), aF (aB .i64) a1, fEq (ptr b4)]]) trivial rfl rfl (has rfl) (has rfl) (leaf_clo) (sz rfl) rfl rfl ?_
 refine Z4 ?_
 refine dH ?_
 revert H; refine bs fun y1 h1 H => ?_
 rcases y1 with y1 | pv1 <;> dsimp only at H
 refine aAi trivial rfl rfl rfl (has rfl) (aK.cons (has rfl) (aK.cons (has rfl) aK.nil)) rfl (cb rfl) (aDF fuel b3 b4 (⟨a0.Op, a0.N, a0.Kids⟩ : ScopeExp) 1 0 a1 (Sum.inl y1) h1).s rfl ?_
 refine Z1 ?_
 cases H
 refine qF ?_
 refine aG [] (by decide) ?_
 exact fJ (.inr rfl) rfl rfl
 refine aAw trivial rfl (has rfl) (aK.cons (has rfl) (aK.cons (has rfl) aK.nil)) rfl (cb rfl) (aDF fuel b3 b4 (⟨a0.Op, a0.N, a0.Kids⟩ : ScopeExp) 1 0 a1 (Sum.inr pv1) h1).pan rfl ?_
 cases H
 exact bZ
def oB (a0 : List Int) (a1 : Int) : Nat → Int → Option ((Unit) ⊕ (Int))
| 0, _ => none
| k + 1, x2 =>
 if x2 < (a0.length : Int) then
  (idx a0 x2).bind fun y1 =>
  if a1 = y1 then
   (some x2).bind fun r => some (Sum.inr r)
  else
   (chk (x2 + 1)).bind fun z1 =>
   oB a0 a1 k z1
 else
  some (Sum.inl ())
def zQ (fuel : Nat) (a0 : List Int) (a1 : Int) : Option (Int) :=
 (oB a0 a1 fuel 0).bind fun o => match o with
 | Sum.inr r => some r
 | Sum.inl _ =>
 some (-1)
theorem aHC (fuel : Nat)  (a0 : List Int) (a1 : Int) (r : Int) (H : zQ fuel a0 a1 = some r) : FnS Tryz.prog 132 [fSl (aB .i64) a0, aA .i64 a1] [] (aA .i64 r) (fun _ => []) := by
 unfold zQ at H
 refine bD Tryz.func132 rfl Tryz.ntmps132 rfl (fun β => ?_)
 revert H; refine B3 fun o1 H Hr1 => ?_
 refine aW (ι := Unit) (fun i => o1 = Sum.inl ()) (fun i => []) (fun i => []) ?_ ?_
 refine Z6 ?_
 refine Tl (ι := Nat × Int) (fun i => oB a0 a1 i.1 i.2 = _) (fun i => i.1) (fun i => [(0, fSl (aB .i64) a0), (1, aA .i64 a1), (7, aA .i64 (a0.length : Int)), (8, aA .i64 i.2)]) (fun i => []) (fuel, 0) H ?_
 clear H; rintro ⟨k1, x2⟩ H
 replace H : oB a0 a1 k1 x2 = _ := H
 try dsimp only
 obtain _ | k1 := k1
 rw [oB] at H; cases H
 rw [oB] at H
 refine Z3 ?_
 refine aH ?_
 revert H; refine is (fun c1 H => ?_) fun c1 H => ?_
 refine Z3 ?_
 refine aH ?_
 revert H; refine B9 fun y1 h1 H => ?_
 revert H; refine I4 (fun c2 H => ?_) fun c2 H => ?_
 revert H; refine B11 fun r1 H e1 => ?_
 cases e1; cases Hr1
 cases H
 exact To
 revert H; refine B5 fun z1 h2 H => ?_
 refine Z3 ?_
 exact Tm ((k1, z1)) ⟨H, ls⟩
 refine Z6 ?_
 exact Tm (()) (ij H)
 clear H; intro i hi; subst o1; have H := Hr1; clear Hr1; try dsimp only at H
 try dsimp only
 refine Z4 ?_
 cases H
 exact To
def wP (fuel : Nat) (a0 : List Int) (a1 : Int) : Option (Bool) :=
 (zQ fuel a0 a1).bind fun y1 =>
 some (decide (0 ≤ y1))
theorem aHx (fuel : Nat)  (a0 : List Int) (a1 : Int) (r : Bool) (H : wP fuel a0 a1 = some r) : FnS Tryz.prog 131 [fSl (aB .i64) a0, aA .i64 a1] [] (aI r) (fun _ => []) := by
 unfold wP at H
 refine bD Tryz.func131 rfl Tryz.ntmps131 rfl (fun β => ?_)
 revert H; refine B6 fun y1 h1 H => ?_
 refine Tc (aHC _ _ _ _ h1) ?_
 refine Z4 ?_
 cases H
 exact To
end Go.Proofs.YtmnbfgeljmhekaaGreat
set_option maxRecDepth 100000
set_option maxHeartbeats 2000000
namespace Go.Proofs.YtmnbfgeljmhekaaGreat
open Go.SX Go.SW Go.Dt
attribute [local irreducible] Code.wpIn wpListIn Exit.then Exit.inBlock
def vF (a0 : Int) (w0 : ScopeDef) : Option (Unit ⊕ Value) :=
 if 0 ≤ a0 then
  (bT (decide (a0 ≤ (w0.Spots.length : Int)))).bind fun y1 =>
  match y1 with
  | Sum.inr pv1 => some (Sum.inr pv1)
  | Sum.inl y1 =>
  some (Sum.inl ())
 else
  (bT false).bind fun y2 =>
  match y2 with
  | Sum.inr pv2 => some (Sum.inr pv2)
  | Sum.inl y2 =>
  some (Sum.inl ())
theorem aAk  (a0 : Int) (w0 : ScopeDef) (r : Unit ⊕ Value) (H : vF a0 w0 = some r) : FnE Tryz.prog 130 [aA .i64 a0, aF aJ w0] [] r (fun r => dG []) (fun r => []) := by
 unfold vF at H
 refine rH Tryz.func130 rfl Tryz.ntmps130 rfl (fun β => ?_)
 revert H; refine I4 (fun c1 H => ?_) fun c1 H => ?_
 revert H; refine B6 fun y1 h1 H => ?_
 rcases y1 with y1 | pv1 <;> dsimp only at H
 refine Tc (aY _ _ h1).s ?_
 refine Z1 ?_
 cases H
 refine qF ?_
 exact fJ (.inr rfl) rfl rfl
 refine Tp (aY _ _ h1).pan ?_
 cases H
 exact bZ
 revert H; refine B6 fun y2 h2 H => ?_
 rcases y2 with y2 | pv2 <;> dsimp only at H
 refine Tc (aY _ _ h2).s ?_
 refine Z1 ?_
 cases H
 refine qF ?_
 exact fJ (.inr rfl) rfl rfl
 refine Tp (aY _ _ h2).pan ?_
 cases H
 exact bZ
def pE (a0 : ScopeDef) : Nat → Int → Option ((Unit) ⊕ (Unit ⊕ Value))
| 0, _ => none
| k + 1, x2 =>
 if x2 < (((⟨a0.Chans, a0.Spots, a0.Rules⟩ : ScopeDef).Chans).length : Int) then
  ((idx ((⟨a0.Chans, a0.Spots, a0.Rules⟩ : ScopeDef).Chans) x2).bind fun y4 =>
  (vF y4.At (⟨a0.Chans, a0.Spots, a0.Rules⟩ : ScopeDef)).bind fun y5 =>
  match y5 with
  | Sum.inr pv4 => ((some (Sum.inr pv4)).bind fun r => some (Sum.inr r)).bind fun r => some (Sum.inr r)
  | Sum.inl y5 =>
  if 0 ≤ y4.Many then
   (bT (decide (y4.Many ≤ 3))).bind fun y6 =>
   match y6 with
   | Sum.inr pv5 => ((some (Sum.inr pv5)).bind fun r => some (Sum.inr r)).bind fun r => some (Sum.inr r)
   | Sum.inl y6 =>
   some (Sum.inl ())
  else
   (bT false).bind fun y7 =>
   match y7 with
   | Sum.inr pv6 => ((some (Sum.inr pv6)).bind fun r => some (Sum.inr r)).bind fun r => some (Sum.inr r)
   | Sum.inl y7 =>
   some (Sum.inl ())).bind fun o => match o with
  | Sum.inr r => some r
  | Sum.inl _ =>
  (chk (x2 + 1)).bind fun z1 =>
  pE a0 k z1
 else
  some (Sum.inl ())
def pH (a0 : ScopeDef) : Nat → Int → Option ((Unit) ⊕ (Unit ⊕ Value))
| 0, _ => none
| k + 1, x4 =>
 if x4 < (((⟨a0.Chans, a0.Spots, a0.Rules⟩ : ScopeDef).Spots).length : Int) then
  ((idx ((⟨a0.Chans, a0.Spots, a0.Rules⟩ : ScopeDef).Spots) x4).bind fun y8 =>
  if 0 ≤ y8.In then
   (bT (decide (y8.In ≤ x4))).bind fun y9 =>
   match y9 with
   | Sum.inr pv7 => ((some (Sum.inr pv7)).bind fun r => some (Sum.inr r)).bind fun r => some (Sum.inr r)
   | Sum.inl y9 =>
   some (Sum.inl ())
  else
   (bT false).bind fun y10 =>
   match y10 with
   | Sum.inr pv8 => ((some (Sum.inr pv8)).bind fun r => some (Sum.inr r)).bind fun r => some (Sum.inr r)
   | Sum.inl y10 =>
   some (Sum.inl ())).bind fun o => match o with
  | Sum.inr r => some r
  | Sum.inl _ =>
  (chk (x4 + 1)).bind fun z2 =>
  pH a0 k z2
 else
  some (Sum.inl ())
def kM (fuel : Nat) (a0 : ScopeDef) (y11 : ScopeRule) : Nat → Int → (aQ Int Bool) → Option ((aQ Int Bool) ⊕ ((aQ Int Bool) ⊕ (Unit ⊕ Value)))
| 0, _, _ => none
| k + 1, x13, x14 =>
 if x13 < (y11.Joins.length : Int) then
  (idx y11.Joins x13).bind fun y15 =>
  (if 0 ≤ y15 then
   if y15 < (((⟨a0.Chans, a0.Spots, a0.Rules⟩ : ScopeDef).Chans).length : Int) then
    (idx ((⟨a0.Chans, a0.Spots, a0.Rules⟩ : ScopeDef).Chans) y15).bind fun y16 =>
    if y16.At = y11.At then
     (slc y11.Joins 0 x13).bind fun y17 =>
     (wP fuel y17 y15).bind fun y18 =>
     (bT (!y18)).bind fun y19 =>
     match y19 with
     | Sum.inr pv12 => (((some (Sum.inr pv12)).bind fun r => some (Sum.inr r)).bind fun r => some (Sum.inr r)).bind fun r => some (Sum.inr r)
     | Sum.inl y19 =>
     some (Sum.inl ())
    else
     (bT false).bind fun y20 =>
     match y20 with
     | Sum.inr pv13 => (((some (Sum.inr pv13)).bind fun r => some (Sum.inr r)).bind fun r => some (Sum.inr r)).bind fun r => some (Sum.inr r)
     | Sum.inl y20 =>
     some (Sum.inl ())
   else
    (bT false).bind fun y21 =>
    match y21 with
    | Sum.inr pv14 => (((some (Sum.inr pv14)).bind fun r => some (Sum.inr r)).bind fun r => some (Sum.inr r)).bind fun r => some (Sum.inr r)
    | Sum.inl y21 =>
    some (Sum.inl ())
  else
   (bT false).bind fun y22 =>
   match y22 with
   | Sum.inr pv15 => (((some (Sum.inr pv15)).bind fun r => some (Sum.inr r)).bind fun r => some (Sum.inr r)).bind fun r => some (Sum.inr r)
   | Sum.inl y22 =>
   some (Sum.inl ())).bind fun o => match o with
  | Sum.inr r => some r
  | Sum.inl _ =>
  (chk (x13 + 1)).bind fun z3 =>
  kM fuel a0 y11 k z3 (aQ.upd x14 y15 true)
 else
  some (Sum.inl x14)
def nV (fuel : Nat) (a0 : ScopeDef) : Nat → Int → (aQ Int Bool) → Option ((aQ Int Bool) ⊕ (Unit ⊕ Value))
| 0, _, _ => none
| k + 1, x8, x9 =>
 if x8 < (((⟨a0.Chans, a0.Spots, a0.Rules⟩ : ScopeDef).Rules).length : Int) then
  ((idx ((⟨a0.Chans, a0.Spots, a0.Rules⟩ : ScopeDef).Rules) x8).bind fun y11 =>
  (vF y11.At (⟨a0.Chans, a0.Spots, a0.Rules⟩ : ScopeDef)).bind fun y12 =>
  match y12 with
  | Sum.inr pv9 => ((some (Sum.inr pv9)).bind fun r => some (Sum.inr r)).bind fun r => some (Sum.inr r)
  | Sum.inl y12 =>
  (if 0 < (y11.Joins.length : Int) then
   (bT (decide ((y11.Joins.length : Int) ≤ 3))).bind fun y13 =>
   match y13 with
   | Sum.inr pv10 => (((some (Sum.inr pv10)).bind fun r => some (Sum.inr r)).bind fun r => some (Sum.inr r)).bind fun r => some (Sum.inr r)
   | Sum.inl y13 =>
   some (Sum.inl ())
  else
   (bT false).bind fun y14 =>
   match y14 with
   | Sum.inr pv11 => (((some (Sum.inr pv11)).bind fun r => some (Sum.inr r)).bind fun r => some (Sum.inr r)).bind fun r => some (Sum.inr r)
   | Sum.inl y14 =>
   some (Sum.inl ())).bind fun o => match o with
  | Sum.inr r => some r
  | Sum.inl _ =>
  kM fuel a0 y11 fuel 0 x9).bind fun o => match o with
  | Sum.inr r => some r
  | Sum.inl x10 =>
  (chk (x8 + 1)).bind fun z4 =>
  nV fuel a0 k z4 x10
 else
  some (Sum.inl x9)
def uQ (fuel : Nat) (a0 : ScopeDef) : Option (Unit ⊕ Value) :=
 (if (a0.Chans.length : Int) ≤ 30 then
  if (a0.Spots.length : Int) ≤ 30 then
   (bT (decide ((a0.Rules.length : Int) ≤ 30))).bind fun y1 =>
   match y1 with
   | Sum.inr pv1 => (some (Sum.inr pv1)).bind fun r => some (Sum.inr r)
   | Sum.inl y1 =>
   some (Sum.inl ())
  else
   (bT false).bind fun y2 =>
   match y2 with
   | Sum.inr pv2 => (some (Sum.inr pv2)).bind fun r => some (Sum.inr r)
   | Sum.inl y2 =>
   some (Sum.inl ())
 else
  (bT false).bind fun y3 =>
  match y3 with
  | Sum.inr pv3 => (some (Sum.inr pv3)).bind fun r => some (Sum.inr r)
  | Sum.inl y3 =>
  some (Sum.inl ())).bind fun o => match o with
 | Sum.inr r => some r
 | Sum.inl _ =>
 (pE a0 fuel 0).bind fun o => match o with
 | Sum.inr r => some r
 | Sum.inl _ =>
 (pH a0 fuel 0).bind fun o => match o with
 | Sum.inr r => some r
 | Sum.inl _ =>
 (nV fuel a0 fuel 0 (aQ.none : aQ Int Bool)).bind fun o => match o with
 | Sum.inr r => some r
 | Sum.inl x5 =>
 (bT (decide ((x5.size : Int) = (((⟨a0.Chans, a0.Spots, a0.Rules⟩ : ScopeDef).Chans).length : Int)))).bind fun y23 =>
 match y23 with
 | Sum.inr pv16 => some (Sum.inr pv16)
 | Sum.inl y23 =>
 some (Sum.inl ())
theorem aD9 (fuel : Nat)  (a0 : ScopeDef) (r : Unit ⊕ Value) (H : uQ fuel a0 = some r) : FnE Tryz.prog 125 [fSt aJ a0] [] r (fun r => dG []) (fun r => []) := by
 unfold uQ at H
 refine rH Tryz.func125 rfl Tryz.ntmps125 rfl (fun β => ?_)
 refine Z1 ?_
 refine Tn (cF rfl (has rfl) bQ) fun b1 => ?_
 revert H; refine B1 fun o1 H Hr1 => ?_
 refine aW (ι := Unit) (fun i => o1 = Sum.inl ()) (fun i => [(1, fEq (ptr b1))]) (fun i => [aC b1 99 [fSl bF a0.Chans, fSl bW a0.Spots, fSl bK a0.Rules]]) ?_ ?_
 revert H; refine I6 (fun c1 H => ?_) fun c1 H => ?_
 revert H; refine I6 (fun c2 H => ?_) fun c2 H => ?_
 revert H; refine B5 fun y1 h1 H => ?_
 rcases y1 with y1 | pv1 <;> dsimp only at H
 refine Tc (aY _ _ h1).s ?_
 refine Z1 ?_
 exact Tm (()) (ij H)
 refine Tp (aY _ _ h1).pan ?_
 revert H; refine B1 fun r1 H e1 => ?_
 cases e1; cases Hr1
 cases H
 exact bZ
 revert H; refine B5 fun y2 h2 H => ?_
 rcases y2 with y2 | pv2 <;> dsimp only at H
 refine Tc (aY _ _ h2).s ?_
 refine Z1 ?_
 exact Tm (()) (ij H)
 refine Tp (aY _ _ h2).pan ?_
 revert H; refine B1 fun r2 H e2 => ?_
 cases e2; cases Hr1
 cases H
 exact bZ
 revert H; refine B11 fun y3 h3 H => ?_
 rcases y3 with y3 | pv3 <;> dsimp only at H
 refine Tc (aY _ _ h3).s ?_
 refine Z1 ?_
 exact Tm (()) (ij H)
 refine Tp (aY _ _ h3).pan ?_
 revert H; refine B1 fun r3 H e3 => ?_
 cases e3; cases Hr1
 cases H
 exact bZ
 clear H; intro i hi; subst o1; have H := Hr1; clear Hr1; try dsimp only at H
 try dsimp only
 refine Z1 ?_
 refine cR (φ := aF aJ (⟨a0.Chans, a0.Spots, a0.Rules⟩ : ScopeDef)) (v := ptr b1) [1] (iG aN.rfl) fz ?_
 refine cS ?_
 refine Yy (uZ rfl (aK.cons hh aK.nil)) ?_
 revert H; refine B2 fun o2 H Hr2 => ?_
 refine aW (ι := Unit) (fun i => o2 = Sum.inl ()) (fun i => [(1, aF aJ (⟨a0.Chans, a0.Spots, a0.Rules⟩ : ScopeDef)), (2, cU 130 [aF aJ (⟨a0.Chans, a0.Spots, a0.Rules⟩ : ScopeDef)])]) (fun i => []) ?_ ?_
 refine Z7 ?_
 refine Tl (ι := Nat × Int) (fun i => pE a0 i.1 i.2 = _) (fun i => i.1) (fun i => [(1, aF aJ (⟨a0.Chans, a0.Spots, a0.Rules⟩ : ScopeDef)), (2, cU 130 [aF aJ (⟨a0.Chans, a0.Spots, a0.Rules⟩ : ScopeDef)]), (31, fSl bF ((⟨a0.Chans, a0.Spots, a0.Rules⟩ : ScopeDef).Chans)), (32, aA .i64 (((⟨a0.Chans, a0.Spots, a0.Rules⟩ : ScopeDef).Chans).length : Int)), (33, aA .i64 i.2)]) (fun i => []) (fuel, 0) H ?_
 clear H; rintro ⟨k1, x2⟩ H
 replace H : pE a0 k1 x2 = _ := H
 try dsimp only
 obtain _ | k1 := k1
 rw [pE] at H; cases H
 rw [pE] at H
 refine Z3 ?_
 refine aH ?_
 revert H; refine is (fun c3 H => ?_) fun c3 H => ?_
 revert H; refine B3 fun o3 H Hr3 => ?_
 refine aW (ι := Unit) (fun i => o3 = Sum.inl ()) (fun i => [(1, aF aJ (⟨a0.Chans, a0.Spots, a0.Rules⟩ : ScopeDef)), (2, cU 130 [aF aJ (⟨a0.Chans, a0.Spots, a0.Rules⟩ : ScopeDef)]), (31, fSl bF ((⟨a0.Chans, a0.Spots, a0.Rules⟩ : ScopeDef).Chans)), (32, aA .i64 (((⟨a0.Chans, a0.Spots, a0.Rules⟩ : ScopeDef).Chans).length : Int)), (33, aA .i64 x2)]) (fun i => []) ?_ ?_
 revert H; refine B2 fun y4 h4 H => ?_
 refine Z2 ?_
 refine Tn (cK rfl aBq rfl) fun b2 => ?_
 refine dM (φs' := [aA .i64 y4.At, aA .i64 y4.Many]) trivial rfl rfl (has rfl) (has rfl) (aO (aD trivial) (aO (aD trivial) bX)) (sz rfl) rfl rfl rfl ?_
 revert H; refine B5 fun y5 h5 H => ?_
 rcases y5 with y5 | pv4 <;> dsimp only at H
 refine aAi trivial rfl rfl rfl (has rfl) (aK.cons (has rfl) aK.nil) rfl (cb rfl) (aAk y4.At (⟨a0.Chans, a0.Spots, a0.Rules⟩ : ScopeDef) (Sum.inl y5) h5).s rfl ?_
 revert H; refine I6 (fun c4 H => ?_) fun c4 H => ?_
 revert H; refine B4 fun y6 h6 H => ?_
 rcases y6 with y6 | pv5 <;> dsimp only at H
 refine Tc (aY _ _ h6).s ?_
 refine Z3 ?_
 refine aG [] (by decide) ?_
 exact Tm (()) (ij H)
 refine Tp (aY _ _ h6).pan ?_
 revert H; refine B2 fun r4 H e4 => ?_
 cases e4; cases Hr3
 revert H; refine B3 fun r5 H e5 => ?_
 cases e5; cases Hr2
 cases H
 exact bZ
 revert H; refine B4 fun y7 h7 H => ?_
 rcases y7 with y7 | pv6 <;> dsimp only at H
 refine Tc (aY _ _ h7).s ?_
 refine Z3 ?_
 refine aG [] (by decide) ?_
 exact Tm (()) (ij H)
 refine Tp (aY _ _ h7).pan ?_
 revert H; refine B2 fun r6 H e6 => ?_
 cases e6; cases Hr3
 revert H; refine B3 fun r7 H e7 => ?_
 cases e7; cases Hr2
 cases H
 exact bZ
 refine aAw trivial rfl (has rfl) (aK.cons (has rfl) aK.nil) rfl (cb rfl) (aAk y4.At (⟨a0.Chans, a0.Spots, a0.Rules⟩ : ScopeDef) (Sum.inr pv4) h5).pan rfl ?_
 revert H; refine B3 fun r8 H e8 => ?_
 cases e8; cases Hr3
 revert H; refine B3 fun r9 H e9 => ?_
 cases e9; cases Hr2
 cases H
 exact bZ
 clear H; intro i hi; subst o3; have H := Hr3; clear Hr3; try dsimp only at H
 try dsimp only
 revert H; refine B1 fun z1 h8 H => ?_
 refine Z3 ?_
 exact Tm ((k1, z1)) ⟨H, ls⟩
 refine Z6 ?_
 exact Tm (()) (ij H)
 clear H; intro i hi; subst o2; have H := Hr2; clear Hr2; try dsimp only at H
 try dsimp only
 revert H; refine bs fun o4 H Hr4 => ?_
 refine aW (ι := Unit) (fun i => o4 = Sum.inl ()) (fun i => [(1, aF aJ (⟨a0.Chans, a0.Spots, a0.Rules⟩ : ScopeDef)), (2, cU 130 [aF aJ (⟨a0.Chans, a0.Spots, a0.Rules⟩ : ScopeDef)])]) (fun i => []) ?_ ?_
 refine Z7 ?_
 refine Tl (ι := Nat × Int) (fun i => pH a0 i.1 i.2 = _) (fun i => i.1) (fun i => [(1, aF aJ (⟨a0.Chans, a0.Spots, a0.Rules⟩ : ScopeDef)), (2, cU 130 [aF aJ (⟨a0.Chans, a0.Spots, a0.Rules⟩ : ScopeDef)]), (52, fSl bW ((⟨a0.Chans, a0.Spots, a0.Rules⟩ : ScopeDef).Spots)), (53, aA .i64 (((⟨a0.Chans, a0.Spots, a0.Rules⟩ : ScopeDef).Spots).length : Int)), (54, aA .i64 i.2)]) (fun i => []) (fuel, 0) H ?_
 clear H; rintro ⟨k2, x4⟩ H
 replace H : pH a0 k2 x4 = _ := H
 try dsimp only
 obtain _ | k2 := k2
 rw [pH] at H; cases H
 rw [pH] at H
 refine Z3 ?_
 refine aH ?_
 revert H; refine is (fun c5 H => ?_) fun c5 H => ?_
 revert H; refine B3 fun o5 H Hr5 => ?_
 refine aW (ι := Unit) (fun i => o5 = Sum.inl ()) (fun i => [(1, aF aJ (⟨a0.Chans, a0.Spots, a0.Rules⟩ : ScopeDef)), (2, cU 130 [aF aJ (⟨a0.Chans, a0.Spots, a0.Rules⟩ : ScopeDef)]), (52, fSl bW ((⟨a0.Chans, a0.Spots, a0.Rules⟩ : ScopeDef).Spots)), (53, aA .i64 (((⟨a0.Chans, a0.Spots, a0.Rules⟩ : ScopeDef).Spots).length : Int)), (54, aA .i64 x4)]) (fun i => []) ?_ ?_
 revert H; refine B3 fun y8 h9 H => ?_
 refine Z2 ?_
 refine Tn (cK rfl aBB rfl) fun b3 => ?_
 refine Z1 ?_
 refine dM (φs' := [aA .i64 y8.In, aA .i64 y8.Node]) trivial rfl rfl (has rfl) (has rfl) (aO (aD trivial) (aO (aD trivial) bX)) (sz rfl) rfl rfl rfl ?_
 revert H; refine I6 (fun c6 H => ?_) fun c6 H => ?_
 revert H; refine B5 fun y9 h10 H => ?_
 rcases y9 with y9 | pv7 <;> dsimp only at H
 refine Tc (aY _ _ h10).s ?_
 refine Z3 ?_
 refine aG [] (by decide) ?_
 exact Tm (()) (ij H)
 refine Tp (aY _ _ h10).pan ?_
 revert H; refine B2 fun r10 H e10 => ?_
 cases e10; cases Hr5
 revert H; refine B3 fun r11 H e11 => ?_
 cases e11; cases Hr4
 cases H
 exact bZ
 revert H; refine B5 fun y10 h11 H => ?_
 rcases y10 with y10 | pv8 <;> dsimp only at H
 refine Tc (aY _ _ h11).s ?_
 refine Z3 ?_
 refine aG [] (by decide) ?_
 exact Tm (()) (ij H)
 refine Tp (aY _ _ h11).pan ?_
 revert H; refine B2 fun r12 H e12 => ?_
 cases e12; cases Hr5
 revert H; refine B3 fun r13 H e13 => ?_
 cases e13; cases Hr4
 cases H
 exact bZ
 clear H; intro i hi; subst o5; have H := Hr5; clear Hr5; try dsimp only at H
 try dsimp only
 revert H; refine B1 fun z2 h12 H => ?_
 refine Z3 ?_
 exact Tm ((k2, z2)) ⟨H, ls⟩
 refine Z6 ?_
 exact Tm (()) (ij H)
 clear H; intro i hi; subst o4; have H := Hr4; clear Hr4; try dsimp only at H
 try dsimp only
 refine Z1 ?_
 refine Tn (zH (fun y => aI y) cP rfl) fun b4 => ?_
 revert H; refine B2 fun o6 H Hr6 => ?_
 refine aW (ι := aQ Int Bool) (fun i => o6 = Sum.inl i) (fun i => [(1, aF aJ (⟨a0.Chans, a0.Spots, a0.Rules⟩ : ScopeDef)), (7, fEq (.map (some b4)))]) (fun i => [hZ cP (fun y => aI y) b4 i]) ?_ ?_
 refine Z7 ?_
 refine Tl (ι := Nat × Int × aQ Int Bool) (fun i => nV fuel a0 i.1 i.2.1 i.2.2 = _) (fun i => i.1) (fun i => [(1, aF aJ (⟨a0.Chans, a0.Spots, a0.Rules⟩ : ScopeDef)), (2, cU 130 [aF aJ (⟨a0.Chans, a0.Spots, a0.Rules⟩ : ScopeDef)]), (7, fEq (.map (some b4))), (72, fSl bK ((⟨a0.Chans, a0.Spots, a0.Rules⟩ : ScopeDef).Rules)), (73, aA .i64 (((⟨a0.Chans, a0.Spots, a0.Rules⟩ : ScopeDef).Rules).length : Int)), (74, aA .i64 i.2.1)]) (fun i => [hZ cP (fun y => aI y) b4 i.2.2]) (fuel, 0, (aQ.none : aQ Int Bool)) H ?_
 clear H; rintro ⟨k3, x8, x9⟩ H
 replace H : nV fuel a0 k3 x8 x9 = _ := H
 try dsimp only
 obtain _ | k3 := k3
 rw [nV] at H; cases H
 rw [nV] at H
 refine Z3 ?_
 refine aH ?_
 revert H; refine is (fun c7 H => ?_) fun c7 H => ?_
 revert H; refine B3 fun o7 H Hr7 => ?_
 refine aW (ι := aQ Int Bool) (fun i => o7 = Sum.inl i) (fun i => [(1, aF aJ (⟨a0.Chans, a0.Spots, a0.Rules⟩ : ScopeDef)), (2, cU 130 [aF aJ (⟨a0.Chans, a0.Spots, a0.Rules⟩ : ScopeDef)]), (7, fEq (.map (some b4))), (72, fSl bK ((⟨a0.Chans, a0.Spots, a0.Rules⟩ : ScopeDef).Rules)), (73, aA .i64 (((⟨a0.Chans, a0.Spots, a0.Rules⟩ : ScopeDef).Rules).length : Int)), (74, aA .i64 x8)]) (fun i => [hZ cP (fun y => aI y) b4 i]) ?_ ?_
 revert H; refine B2 fun y11 h13 H => ?_
 refine Z2 ?_
 refine Tn (cK rfl uD rfl) fun b5 => ?_
 refine dM (φs' := [aA .i64 y11.At, fSl (aB .i64) y11.Joins, aA .i64 y11.Node]) trivial rfl rfl (has rfl) (has rfl) (aO (aD trivial) (aO (aZ) (aO (aD trivial) bX))) (sz rfl) rfl rfl rfl ?_
 revert H; refine B5 fun y12 h14 H => ?_
 rcases y12 with y12 | pv9 <;> dsimp only at H
 refine aAi trivial rfl rfl rfl (has rfl) (aK.cons (has rfl) aK.nil) rfl (cb rfl) (aAk y11.At (⟨a0.Chans, a0.Spots, a0.Rules⟩ : ScopeDef) (Sum.inl y12) h14).s rfl ?_
 revert H; refine B1 fun o8 H Hr8 => ?_
 refine aW (ι := Unit) (fun i => o8 = Sum.inl ()) (fun i => [(1, aF aJ (⟨a0.Chans, a0.Spots, a0.Rules⟩ : ScopeDef)), (2, cU 130 [aF aJ (⟨a0.Chans, a0.Spots, a0.Rules⟩ : ScopeDef)]), (7, fEq (.map (some b4))), (72, fSl bK ((⟨a0.Chans, a0.Spots, a0.Rules⟩ : ScopeDef).Rules)), (73, aA .i64 (((⟨a0.Chans, a0.Spots, a0.Rules⟩ : ScopeDef).Rules).length : Int)), (74, aA .i64 x8), (9, fEq (ptr b5))]) (fun i => [aC b5 105 [aA .i64 y11.At, fSl (aB .i64) y11.Joins, aA .i64 y11.Node], hZ cP (fun y => aI y) b4 x9]) ?_ ?_
 revert H; refine I6 (fun c8 H => ?_) fun c8 H => ?_
 revert H; refine B5 fun y13 h15 H => ?_
 rcases y13 with y13 | pv10 <;> dsimp only at H
 refine Tc (aY _ _ h15).s ?_
 refine Z1 ?_
 exact Tm (()) (ij H)
 refine Tp (aY _ _ h15).pan ?_
 revert H; refine B1 fun r14 H e14 => ?_
 cases e14; cases Hr8
 revert H; refine B2 fun r15 H e15 => ?_
 cases e15; cases Hr7
 revert H; refine B3 fun r16 H e16 => ?_
 cases e16; cases Hr6
 cases H
 exact bZ
 revert H; refine B5 fun y14 h16 H => ?_
 rcases y14 with y14 | pv11 <;> dsimp only at H
 refine Tc (aY _ _ h16).s ?_
 refine Z1 ?_
 exact Tm (()) (ij H)
 refine Tp (aY _ _ h16).pan ?_
 revert H; refine B1 fun r17 H e17 => ?_
 cases e17; cases Hr8
 revert H; refine B2 fun r18 H e18 => ?_
 cases e18; cases Hr7
 revert H; refine B3 fun r19 H e19 => ?_
 cases e19; cases Hr6
 cases H
 exact bZ
 clear H; intro i hi; subst o8; have H := Hr8; clear Hr8; try dsimp only at H
 try dsimp only
 refine Z7 ?_
 refine Tl (ι := Nat × Int × aQ Int Bool) (fun i => kM fuel a0 y11 i.1 i.2.1 i.2.2 = _) (fun i => i.1) (fun i => [(1, aF aJ (⟨a0.Chans, a0.Spots, a0.Rules⟩ : ScopeDef)), (2, cU 130 [aF aJ (⟨a0.Chans, a0.Spots, a0.Rules⟩ : ScopeDef)]), (7, fEq (.map (some b4))), (72, fSl bK ((⟨a0.Chans, a0.Spots, a0.Rules⟩ : ScopeDef).Rules)), (73, aA .i64 (((⟨a0.Chans, a0.Spots, a0.Rules⟩ : ScopeDef).Rules).length : Int)), (74, aA .i64 x8), (9, fEq (ptr b5)), (94, fSl (aB .i64) y11.Joins), (95, aA .i64 (y11.Joins.length : Int)), (96, aA .i64 i.2.1)]) (fun i => [aC b5 105 [aA .i64 y11.At, fSl (aB .i64) y11.Joins, aA .i64 y11.Node], hZ cP (fun y => aI y) b4 i.2.2]) (fuel, 0, x9) H ?_
 clear H; rintro ⟨k4, x13, x14⟩ H
 replace H : kM fuel a0 y11 k4 x13 x14 = _ := H
 try dsimp only
 obtain _ | k4 := k4
 rw [kM] at H; cases H
 rw [kM] at H
 refine Z3 ?_
 refine aH ?_
 revert H; refine is (fun c9 H => ?_) fun c9 H => ?_
 refine Z3 ?_
 refine aH ?_
 revert H; refine B3 fun y15 h17 H => ?_
 revert H; refine B5 fun o9 H Hr9 => ?_
 refine aW (ι := Unit) (fun i => o9 = Sum.inl ()) (fun i => [(1, aF aJ (⟨a0.Chans, a0.Spots, a0.Rules⟩ : ScopeDef)), (2, cU 130 [aF aJ (⟨a0.Chans, a0.Spots, a0.Rules⟩ : ScopeDef)]), (7, fEq (.map (some b4))), (72, fSl bK ((⟨a0.Chans, a0.Spots, a0.Rules⟩ : ScopeDef).Rules)), (73, aA .i64 (((⟨a0.Chans, a0.Spots, a0.Rules⟩ : ScopeDef).Rules).length : Int)), (74, aA .i64 x8), (9, fEq (ptr b5)), (94, fSl (aB .i64) y11.Joins), (95, aA .i64 (y11.Joins.length : Int)), (96, aA .i64 x13), (11, aA .i64 y15)]) (fun i => [aC b5 105 [aA .i64 y11.At, fSl (aB .i64) y11.Joins, aA .i64 y11.Node], hZ cP (fun y => aI y) b4 x14]) ?_ ?_
 revert H; refine is (fun c10 H => ?_) fun c10 H => ?_
 revert H; refine is (fun c11 H => ?_) fun c11 H => ?_
 revert H; refine bs fun y16 h18 H => ?_
 revert H; refine is (fun c12 H => ?_) fun c12 H => ?_
 revert H; refine bs fun y17 h19 H => ?_
 revert H; refine bs fun y18 h20 H => ?_
 apply bH (ods := [_, _, _, _, _, _, _, _, _, _, _, _, _, _, _, _, _, _, _, _, _, _, _, _, _, _, _, _, _]) 29 0 2 bG rfl rfl rfl
 refine ND ?_
 refine M8 ?_
 intros
 refine M8 ?_
 intros
 refine M8 ?_
 intros
 refine Mg c12 (aFX (t := (aB .i64)) rfl hh zS (aAG hh) (el rfl) h19) fun _ => ?_
 refine M1 ?_
 intros
 refine Nc (aHx _ _ _ _ h20) fun _ => ?_
 refine M2 ?_
 intros
 revert H; refine B1 fun y19 h21 H => ?_
 rcases y19 with y19 | pv12 <;> dsimp only at H
 refine Tc (aY _ _ h21).s ?_
 refine Z1 ?_
 exact Tm (()) (ij H)
 refine Tp (aY _ _ h21).pan ?_
 revert H; refine B1 fun r20 H e20 => ?_
 cases e20; cases Hr9
 revert H; refine B6 fun r21 H e21 => ?_
 cases e21; cases Hr7
 revert H; refine B3 fun r22 H e22 => ?_
 cases e22; cases Hr6
 cases H
 exact bZ
 exact fk
 kernel_rfl
 apply bH (ods := [_, _, _, _, _, _, _, _, _, _, _, _, _, _, _, _, _, _, _, _, _, _, _, _, _, _, _, _, _]) 29 0 2 bG rfl rfl rfl
 refine ND ?_
 refine M8 ?_
 intros
 refine M8 ?_
 intros
 refine M8 ?_
 intros
 refine M5 ?_
 intros
 revert H; refine B1 fun y20 h22 H => ?_
 rcases y20 with y20 | pv13 <;> dsimp only at H
 refine Tc (aY _ _ h22).s ?_
 refine Z1 ?_
 exact Tm (()) (ij H)
 refine Tp (aY _ _ h22).pan ?_
 revert H; refine B1 fun r23 H e23 => ?_
 cases e23; cases Hr9
 revert H; refine B6 fun r24 H e24 => ?_
 cases e24; cases Hr7
 revert H; refine B3 fun r25 H e25 => ?_
 cases e25; cases Hr6
 cases H
 exact bZ
 exact fk
 kernel_rfl
 apply bH (ods := [_, _, _, _, _, _, _, _, _, _, _, _, _, _, _, _, _, _, _, _, _, _, _, _, _, _, _, _, _]) 29 0 2 bG rfl rfl rfl
 refine ND ?_
 refine M8 ?_
 intros
 refine M8 ?_
 intros
 refine M8 ?_
 intros
 refine M5 ?_
 intros
 revert H; refine B1 fun y21 h23 H => ?_
 rcases y21 with y21 | pv14 <;> dsimp only at H
 refine Tc (aY _ _ h23).s ?_
 refine Z1 ?_
 exact Tm (()) (ij H)
 refine Tp (aY _ _ h23).pan ?_
 revert H; refine B1 fun r26 H e26 => ?_
 cases e26; cases Hr9
 revert H; refine B6 fun r27 H e27 => ?_
 cases e27; cases Hr7
 revert H; refine B3 fun r28 H e28 => ?_
 cases e28; cases Hr6
 cases H
 exact bZ
 exact fk
 kernel_rfl
 apply bH (ods := [_, _, _, _, _, _, _, _, _, _, _, _, _, _, _, _, _, _, _, _, _, _, _, _, _, _, _, _, _]) 29 0 2 bG rfl rfl rfl
 refine ND ?_
 refine M8 ?_
 intros
 refine M8 ?_
 intros
 refine M8 ?_
 intros
 refine M5 ?_
 intros
 revert H; refine B1 fun y22 h24 H => ?_
 rcases y22 with y22 | pv15 <;> dsimp only at H
 refine Tc (aY _ _ h24).s ?_
 refine Z1 ?_
 exact Tm (()) (ij H)
 refine Tp (aY _ _ h24).pan ?_
 revert H; refine B1 fun r29 H e29 => ?_
 cases e29; cases Hr9
 revert H; refine B6 fun r30 H e30 => ?_
 cases e30; cases Hr7
 revert H; refine B3 fun r31 H e31 => ?_
 cases e31; cases Hr6
 cases H
 exact bZ
 exact fk
 kernel_rfl
 clear H; intro i hi; subst o9; have H := Hr9; clear Hr9; try dsimp only at H
 try dsimp only
 refine Z3 ?_
 refine dH ?_
 refine jS (k := y15) (y := true) trivial (.inl rfl) rfl (has rfl) (has rfl) rfl (has rfl) rfl aEn ?_
 revert H; refine B4 fun z3 h25 H => ?_
 refine Z3 ?_
 refine aG [1, 0] (by decide) ?_
 exact Tm ((k4, z3, aQ.upd x14 y15 true)) ⟨H, ls⟩
 refine Z7 ?_
 refine aG [1] (by decide) ?_
 exact Tm (x14) (ij H)
 refine aAw trivial rfl (has rfl) (aK.cons (has rfl) aK.nil) rfl (cb rfl) (aAk y11.At (⟨a0.Chans, a0.Spots, a0.Rules⟩ : ScopeDef) (Sum.inr pv9) h14).pan rfl ?_
 revert H; refine B3 fun r32 H e32 => ?_
 cases e32; cases Hr7
 revert H; refine B3 fun r33 H e33 => ?_
 cases e33; cases Hr6
 cases H
 exact bZ
 clear H; intro x10 hi; subst o7; have H := Hr7; clear Hr7; try dsimp only at H
 try dsimp only
 revert H; refine B1 fun z4 h26 H => ?_
 refine Z3 ?_
 exact Tm ((k3, z4, x10)) ⟨H, ls⟩
 refine Z6 ?_
 exact Tm (x9) (ij H)
 clear H; intro x5 hi; subst o6; have H := Hr6; clear Hr6; try dsimp only at H
 try dsimp only
 refine Z2 ?_
 refine Yo 0 rfl (o_lenMO rfl hh aEn) ?_
 revert H; refine B4 fun y23 h27 H => ?_
 rcases y23 with y23 | pv16 <;> dsimp only at H
 refine Tc (aY _ _ h27).s ?_
 refine Z1 ?_
 cases H
 refine qF ?_
 refine aG [] (by decide) ?_
 exact fJ (.inr rfl) rfl rfl
 refine Tp (aY _ _ h27).pan ?_
 cases H
 exact bZ
def uU (a0 : ScopeDef) : Option (Int) :=
 (chk ((a0.Chans.length : Int) + (a0.Spots.length : Int))).bind fun z1 =>
 some z1
theorem aJa  (a0 : ScopeDef) (r : Int) (H : uU a0 = some r) : FnS Tryz.prog 126 [fSt aJ a0] [] (aA .i64 r) (fun _ => []) := by
 unfold uU at H
 refine bD Tryz.func126 rfl Tryz.ntmps126 rfl (fun β => ?_)
 refine Z1 ?_
 refine Tn (cF rfl (has rfl) bQ) fun b1 => ?_
 revert H; refine B9 fun z1 h1 H => ?_
 refine Z4 ?_
 cases H
 refine aG [] (by decide) ?_
 exact To
def oV (a0 : ScopeDef) (a1 : ScopeRule) : Nat → Int → Int → Option (Int)
| 0, _, _ => none
| k + 1, x4, x5 =>
 if x5 < (a1.Joins.length : Int) then
  (idx a1.Joins x5).bind fun y1 =>
  (idx a0.Chans y1).bind fun y2 =>
  (chk (x4 + y2.Many)).bind fun z1 =>
  (chk (x5 + 1)).bind fun z2 =>
  oV a0 a1 k z1 z2
 else
  some x4
def xY (fuel : Nat) (a0 : ScopeDef) (a1 : ScopeRule) : Option (Int) :=
 (oV a0 a1 fuel 0 0).bind fun x1 =>
 some x1
theorem aH6 (fuel : Nat)  (a0 : ScopeDef) (a1 : ScopeRule) (r : Int) (H : xY fuel a0 a1 = some r) : FnS Tryz.prog 127 [fSt aJ a0, fSt bK a1] [] (aA .i64 r) (fun _ => []) := by
 unfold xY at H
 refine bD Tryz.func127 rfl Tryz.ntmps127 rfl (fun β => ?_)
 refine Z1 ?_
 refine Tn (cF rfl (has rfl) bQ) fun b1 => ?_
 refine Tn (cF rfl (has rfl) bQ) fun b2 => ?_
 revert H; refine B5 fun o1 H Hr1 => ?_
 refine aW (ι := Int) (fun i => o1 = i) (fun i => [(5, aA .i64 i)]) (fun i => [aC b2 105 [aA .i64 a1.At, fSl (aB .i64) a1.Joins, aA .i64 a1.Node], aC b1 99 [fSl bF a0.Chans, fSl bW a0.Spots, fSl bK a0.Rules]]) ?_ ?_
 refine Z7 ?_
 refine Tl (ι := Nat × Int × Int) (fun i => oV a0 a1 i.1 i.2.1 i.2.2 = _) (fun i => i.1) (fun i => [(2, fEq (ptr b1)), (5, aA .i64 i.2.1), (9, fSl (aB .i64) a1.Joins), (10, aA .i64 (a1.Joins.length : Int)), (11, aA .i64 i.2.2)]) (fun i => [aC b2 105 [aA .i64 a1.At, fSl (aB .i64) a1.Joins, aA .i64 a1.Node], aC b1 99 [fSl bF a0.Chans, fSl bW a0.Spots, fSl bK a0.Rules]]) (fuel, 0, 0) H ?_
 clear H; rintro ⟨k1, x4, x5⟩ H
 replace H : oV a0 a1 k1 x4 x5 = _ := H
 try dsimp only
 obtain _ | k1 := k1
 rw [oV] at H; cases H
 rw [oV] at H
 refine Z3 ?_
 refine aH ?_
 revert H; refine is (fun c1 H => ?_) fun c1 H => ?_
 refine Z3 ?_
 refine aH ?_
 revert H; refine B2 fun y1 h1 H => ?_
 revert H; refine B9 fun y2 h2 H => ?_
 revert H; refine B3 fun z1 h3 H => ?_
 revert H; refine B6 fun z2 h4 H => ?_
 refine Z3 ?_
 exact Tm ((k1, z1, z2)) ⟨H, ls⟩
 refine Z6 ?_
 exact Tm (x4) (ij H)
 clear H; intro x1 hi; subst o1; have H := Hr1; clear Hr1; try dsimp only at H
 try dsimp only
 refine Z5 ?_
 cases H
 refine aG [] (by decide) ?_
 exact To
end Go.Proofs.YtmnbfgeljmhekaaGreat
