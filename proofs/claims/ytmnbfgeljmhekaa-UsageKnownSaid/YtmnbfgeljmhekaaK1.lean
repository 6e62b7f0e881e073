/- Parts of the proof: lemmas, and the steps through the program. -/
import Derived.Test.YtmnbfgeljmhekaaK0
namespace Go.SW
open Go.SX
section
variable {P : Program} {Γ : Ctx} {o : Oper}
def slc {α : Type} (xs : List α) (l h : Int) : Option (List α) := if 0 ≤ l ∧ l ≤ h ∧ h ≤ xs.length then some ((xs.take h.toNat).drop l.toNat) else none
theorem slc_some {α : Type} {xs ys : List α} {l h : Int} (e : slc xs l h = some ys) : 0 ≤ l ∧ l ≤ h ∧ h ≤ xs.length ∧ ys = (xs.take h.toNat).drop l.toNat := by
  unfold slc at e
  split at e
  · rename_i c; cases e; exact ⟨c.1, c.2.1, c.2.2, rfl⟩
  · cases e
theorem run_bound {kd : IntKind} {i : Int} {y : Nat} {c : BoundsCode} (h1 : 0 ≤ i) (h2 : i ≤ y) (w : World) : (Instr.sliceBound (.int kd i) y c).run P w = .ok i.toNat w := by
  simp [Instr.sliceBound, asIntOf, Sem.run_bind, Sem.run, pure, h1, h2]
theorem addr_add2 (p : Addr) (a b : Nat) : (p.add a).add b = p.add (a + b) := by
  unfold Addr.add
  by_cases ha : a = 0
  · simp [ha]
  · by_cases hb : b = 0
    · simp [ha, hb]
    · have : a + b ≠ 0 := by omega
      simp [ha, hb, Nat.add_assoc]
theorem part_sl {α : Type} {t : Ty α} {xs ys : List α} {l h : Int} {m : Mem} {a : Option Addr} {cap : Nat} (e : slc xs l h = some ys) (hx : (fSl t xs).p m (.slice a xs.length cap)) :
    (fSl t ys).p m (.slice (if cap = l.toNat then a else a.map (·.add (l.toNat * t.sz))) (h.toNat - l.toNat) (cap - l.toNat)) := by
  obtain ⟨h1, h2, h3, rfl⟩ := slc_some e
  obtain ⟨q, ⟨b, cap', hv, hc, hq⟩, hB, hel⟩ := hx
  cases hv
  have hlen : ((xs.take h.toNat).drop l.toNat).length = h.toNat - l.toNat := by simp; omega
  refine ⟨fun i => q (l.toNat + i), ⟨_, _, by rw [hlen], by rw [hlen]; omega, fun i hi => ?_⟩, by rw [hlen]; omega, fun i x hx => ?_⟩
  · rw [hlen] at hi
    obtain ⟨p, rfl, hp⟩ := hq (l.toNat + i) (by omega)
    rw [if_neg (by omega)]
    refine ⟨_, rfl, ?_⟩
    show (p.add (l.toNat * t.sz)).add (i * t.sz) = q (l.toNat + i)
    rw [← hp, Nat.add_mul, addr_add2]
  · rw [List.getElem?_drop, List.getElem?_take] at hx
    split at hx
    · exact hel _ x hx
    · cases hx
def HasB (Γ : Ctx) (x : Option Operand) (d v : Int) : Prop := (x = none ∧ v = d) ∨ ∃ y kd, x = some y ∧ Has Γ y (fInt kd v)
theorem hasB_none {d : Int} : HasB Γ none d d := .inl ⟨rfl, rfl⟩
theorem hasB_some {d v : Int} {y : Operand} {kd : IntKind} (h : Has Γ y (fInt kd v)) : HasB Γ (some y) d v := .inr ⟨y, kd, rfl, h⟩
theorem o_slice {α : Type} {t : Ty α} {xs ys : List α} {MT : TypeId} {x : Operand} {lo hi : Option Operand} {l h : Int} (ho : o.op = .slice MT x lo hi none) (hx : Has Γ x (fSl t xs)) (hl : HasB Γ lo 0 l) (hh : HasB Γ hi xs.length h) (hT : ElemN P MT t.sz)
    (e : slc xs l h = some ys) : OpT P Γ [] o (fSl t ys) :=
  opT_pure (by rw [ho]; rfl) fun β m a w he _ => by
    have h0 := he.get hx (by rw [ho]; simp [Op.operands])
    have h0' := h0
    obtain ⟨q, ⟨b, cap, hv, hc, hq⟩, hB, hel⟩ := h0'
    rw [hv] at h0
    obtain ⟨h1, h2, h3, hys⟩ := slc_some e
    refine ⟨_, ?_, part_sl e h0⟩
    unfold ElemN elemB at hT
    cases hu : P.underlying MT with
    | none => rw [hu] at hT; cases hT
    | some d =>
      rw [hu] at hT
      cases d <;> try (simp at hT; done)
      rename_i el
      simp only [Option.map_eq_some_iff] at hT
      obtain ⟨inf, hinf, hsz⟩ := hT
      have hur : (underlying MT).run P w = .ok (.slice el) w := run_underlying hu w
      have hs := run_sizeOf (P := P) hinf w
      simp only [execOp, ho, hv, Instr.sliceAt, Instr.slice, Instr.sliceBounds, Sem.run_bind, hur, Result.andThen_ok]
      rcases hl with ⟨rfl, rfl⟩ | ⟨y, kd, rfl, hy⟩ <;> rcases hh with ⟨rfl, rfl⟩ | ⟨y', kd', rfl, hy'⟩
      · simp [Sem.run_bind, hs, hsz, Sem.run, pure]
      · have g2 : a.eval y' = .int kd' h := he.get hy' (by rw [ho]; simp [Op.operands])
        have b2 := fun c => run_bound (P := P) (kd := kd') (y := cap) (c := c) (i := h) (by omega) (by omega) w
        simp [Sem.run_bind, g2, b2, hs, hsz, Sem.run, pure]
      · have g1 : a.eval y = .int kd l := he.get hy (by rw [ho]; simp [Op.operands])
        have b1 := fun c => run_bound (P := P) (kd := kd) (y := xs.length) (c := c) (i := l) h1 h2 w
        simp [Sem.run_bind, g1, b1, hs, hsz, Sem.run, pure]
      · have g1 : a.eval y = .int kd l := he.get hy (by rw [ho]; simp [Op.operands])
        have g2 : a.eval y' = .int kd' h := he.get hy' (by rw [ho]; simp [Op.operands])
        have b2 := fun c => run_bound (P := P) (kd := kd') (y := cap) (c := c) (i := h) (by omega) (by omega) w
        have b1 := fun c => run_bound (P := P) (kd := kd) (y := h.toNat) (c := c) (i := l) h1 (by omega) w
        simp [Sem.run_bind, g1, g2, b1, b2, hs, hsz, Sem.run, pure]
end
end Go.SW
namespace Go.SW
open Go.SX
def YdX (P : Program) (l : Nat) (vs : List Value) (m : Mem) (L : Heap) (post : Mem → Heap → Prop) : Prop :=
  ∀ w, St ⟨w, m, L.map Prod.fst⟩ m L w → ∃ r : Loop, w.heap[l]? = some (.loop r) ∧ vs.toArray.size = r.params.size ∧
    RoundIn (fw none) 0 P l r.fn (roundTmps r vs.toArray) r.assign r.body w fun e w' =>
      e = .returned (.bool true) ∧ ∃ m' L', St ⟨w, m, L.map Prod.fst⟩ m' L' w' ∧ post m' L'
def fYield (P : Program) {α σ : Type} (ρ : α → List Fact) (Y : α → σ → Option σ) (J : σ → Tk) : Fact :=
  ⟨fun m v => ∃ l, v = yieldV l ∧ ∀ m', Mem.le m m' → ∀ x t t' vs H, Y x t = some t' → All2 (ρ x) m' vs → (J t).p m' H → YdX P l vs m' H (fun m'' H' => (J t').p m'' H'),
   fun h ⟨l, h1, h2⟩ => ⟨l, h1, fun m' hle => h2 m' (Mem.le_trans h hle)⟩⟩
section
variable {P : Program} {β : Base} {n : Nat} {ds : List Deferred} {Γ : Ctx} {Δ R : List Tk} {r : Option Nat} {Q Q' : Exit → Act → World → Prop} {F : Act → World → Prop} {ops : Array Oper} {o : Oper} {rest : List Oper}
theorem leaf_yield {α σ : Type} {ρ : α → List Fact} {Y : α → σ → Option σ} {J : σ → Tk} : Leaf (fYield P ρ Y J) := fun _ _ ⟨_, h, _⟩ => by rw [h]; trivial
theorem T_callY {α σ : Type} {ρ : α → List Fact} {Y : α → σ → Option σ} {J : σ → Tk} {g : Operand} {args : List Operand} {ts : Array TypeId} {d : Nat} (x : α) {s s' : σ} (hw : WantsT ops Γ o) (ho : o.op = .call { callee := .value g, args := args.toArray, argTypes := ts }) (hd : o.dst = some d)
    (hn : Nat.ble (d + 1) n = true) (hg : Has Γ g (fYield P ρ Y J)) (hargs : HasL Γ args (ρ x)) (hY : Y x s = some s')
    (k : T β n ds ((d, fBool true) :: Γ) (J s' :: Δ) (wpListIn (fw r) 0 P ops Q rest)) : T β n ds Γ (J s :: Δ) (wpListIn (fw r) 0 P ops Q (o :: rest)) := fun m L a w hF hL hS => by
  obtain ⟨H, R, rfl, hJ, hR⟩ := hL
  obtain ⟨l, hge, hy⟩ := hF.has hg
  simp only [wpListIn, hw.wanted hF, if_true]
  refine ⟨fun _ _ => trivial, ?_⟩
  have hnd : isDefer o.op = false := by rw [ho]; rfl
  have h3 : o.semAt (fw r).round a.eval = execOp a.eval o := Oper.semAt_eq _ _ _ fun c hc => by rw [hc] at hnd; cases hnd
  obtain ⟨rec, hr, hsz, hround⟩ := hy m (Mem.le_refl _) x s s' (args.map a.eval) H hY (hargs.all hF) hJ w hS.start
  have hrun : (execOp a.eval o).run P w = .ok (.round l rec.fn (roundTmps rec (args.map a.eval).toArray) rec.assign rec.body) w := by
    have h3 := run_yield (P := P) hr hsz
    have h4 : args.toArray.map a.eval = (args.map a.eval).toArray := by simp
    simp [execOp, ho, resolve, hge, yieldV, Deferred.ofValue, invoke, Sem.run_bind, Sem.run, pure, roundTmps]
    simpa using h3
  rw [h3, hrun, Oper.uponIn_round]
  refine ⟨(fun h => by cases h), ?_⟩
  have hround' : RoundIn (fw r) 0 P l rec.fn (roundTmps rec (args.map a.eval).toArray) rec.assign rec.body w _ := hround
  refine hround'.mono fun e w' ⟨he, m', L', hS', hp⟩ => ?_
  subst he
  show wpListIn (fw r) 0 P ops Q rest (a.put o.dst (.bool true)) w'
  rw [hd]
  exact k m' _ _ _ ((hF.mono hS'.mle).put (Nat.le_of_ble_eq_true hn) rfl) ⟨L', R, rfl, hp, hR.mono hS'.mle⟩ (back hS hS')
def roundG : List Nat → List Fact → Ctx → Ctx
  | p :: ps, φ :: φs, Γ => roundG ps φs ((p, φ) :: Γ)
  | _, _, Γ => Γ
theorem round_getT {m : Mem} : ∀ {ps : List Nat} {φs : List Fact} {vs : List Value} {t : Array Value} {Γ : Ctx}, (∀ p ∈ ps, p < t.size) → ps.length = φs.length → All2 φs m vs → (∀ s φ, lk Γ s = some φ → ∃ v, t[s]? = some v ∧ φ.p m v) →
    ∀ s φ, lk (roundG ps φs Γ) s = some φ → ∃ v, ((ps.zip vs).foldl (fun tmps (x : Nat × Value) => tmps.setIfInBounds x.1 x.2) t)[s]? = some v ∧ φ.p m v
  | [], [], _, t, Γ, _, _, hv, hg => fun s φ h => by
    have : (_ : List Value) = [] := hv
    subst this; exact hg s φ h
  | p :: ps, ψ :: φs, _, t, Γ, hp, hl, ⟨v, vs, e, h1, h2⟩, hg => fun s φ h => by
    subst e
    simp only [List.zip_cons_cons, List.foldl_cons]
    refine round_getT (t := t.setIfInBounds p v) (fun q hq => by simp; exact hp q (.tail _ hq)) (by simpa using hl) h2 (fun u χ hu => ?_) s φ h
    rcases lk_cons hu with ⟨rfl, rfl⟩ | ⟨hne, hu⟩
    · exact ⟨v, by simp [hp p (.head _)], h1⟩
    · obtain ⟨z, h3, h4⟩ := hg u χ hu
      exact ⟨z, by rw [Array.getElem?_setIfInBounds_ne hne]; exact h3, h4⟩
def RoundRT (β : Base) (l : Nat) (rec : Loop) (Δ' : List Tk) (e : Ending) (w : World) : Prop :=
  e = .returned (.bool true) ∧ ∃ m' L', St β m' ((l, .loop rec) :: L') w ∧ Toks Δ' m' L'
def BodyT (P : Program) (l : Nat) (β : Base) (rec : Loop) (Δ' : List Tk) (body : Code) (a : Act) (w : World) : Prop :=
  ∃ w₂, (Instr.beginRound l).run P w = .ok () w₂ ∧ body.wpIn (fw (some l)) 0 P (roundPost P l (RoundRT β l rec Δ')) a w₂
def tObj (l : Nat) (o : Obj) : Tk := ⟨fun _ H => H = [(l, o)], fun _ h => h⟩
def tMark (rb : Nat) : Tk := tObj rb (.deferred (some []))
theorem T_begin {l : Nat} {rec : Loop} {Δ' : List Tk} {body : Code} (hs : rec.state = .ready)
    (k : T β n ds Γ (tObj l (busy rec) :: Δ) (body.wpIn (fw (some l)) 0 P (roundPost P l (RoundRT β l rec Δ')))) : T β n ds Γ (tObj l (.loop rec) :: Δ) (BodyT P l β rec Δ' body) := fun m L a w hF hL hS => by
  obtain ⟨H, R, rfl, h1, hR⟩ := hL
  have h1 : H = [(l, .loop rec)] := h1
  subst h1
  exact ⟨_, run_beginRound (hS.own _ (.head _)) hs, k m ((l, busy rec) :: R) _ _ hF ⟨_, R, rfl, rfl, hR⟩ (hS.putObj (k := 0) rfl)⟩
theorem T_roundEnd {l : Nat} {rec : Loop} {Δ' : List Tk} (hs : rec.state = .ready) (hp : rec.pending = none) (hd : Δ = Δ') :
    T β n ds Γ (tObj l (busy rec) :: Δ) (roundPost P l (RoundRT β l rec Δ') .normal) := fun m L a w hF hL hS => by
  subst hd
  obtain ⟨H, R, rfl, h1, hR⟩ := hL
  have h1 : H = [(l, busy rec)] := h1
  subst h1
  have h1 := hS.own (l, busy rec) (.head _)
  simp only [busy] at h1
  refine ⟨_, _, run_endRound none h1, ⟨rfl, m, R, ?_, hR⟩⟩
  have h2 : ({ ({ rec with state := .busy } : Loop) with state := if (none : Option Code).isNone then .ready else .done, pending := none } : Loop) = rec := by
    cases rec; simp only at hs hp; subst hs hp; rfl
  rw [h2]
  exact hS.putObj (k := 0) (o' := .loop rec) rfl
theorem T_rangeFunc {α σ : Type} {g : Operand} {ps : List Nat} {assign body : Code} {f : FuncId} {φs : List Fact} (ρ : α → List Fact) (Y : α → σ → Option σ) (Δf : σ → List Tk) {s s' : σ} (hg : Has Γ g (fClo f φs)) (hf : Callable P f) (hps : ps.all (fun p => Nat.ble (p + 1) n) = true)
    (hlen : ∀ x, ps.length = (ρ x).length) (hΔ : Δ = Δf s ++ R)
    (hiter : ∀ (J : σ → Tk), FnS P f (fYield P ρ Y J :: φs) [J s] (fTup []) (fun _ => [J s']))
    (hbody : ∀ (β' : Base) (l : Nat) (rec : Loop) x t t', rec.state = .ready → rec.pending = none → Y x t = some t' →
      T β' n [] (roundG ps (ρ x) Γ) (tObj l (.loop rec) :: Δf t) (assign.wpIn (fw (some l)) 0 P (Exit.then (BodyT P l β' rec (Δf t') body) (fun _ _ _ => False))))
    (hnext : ∀ rb : Nat, T β n (SX.mark rb :: ds) Γ (tMark rb :: (Δf s' ++ R)) (Q .normal)) :
    T β n ds Γ Δ ((Code.rangeFunc g ps.toArray assign body).wpIn (fw none) 0 P Q) := fun m L a w hF hL hS => by
  subst hΔ
  obtain ⟨A, B, rfl, hA, hB⟩ := hL.split
  obtain ⟨cs, hge, hcs⟩ := hF.has hg
  have hps' : ∀ p ∈ ps, p < n := fun p hp => Nat.le_of_ble_eq_true (List.all_eq_true.1 hps p hp)
  refine wpIn_rangeFunc fun fn _ => ?_
  let rb := w.heap.size
  let w₁ := w.alloc (.deferred (some []))
  let rec₀ : Loop := { state := .ready, pending := none, fn, tmps := a.tmps, params := ps.toArray, assign, body, defers := rb }
  let l := w₁.heap.size
  let w₂ := w₁.alloc (.loop rec₀)
  have hS₁ : St β m ((rb, .deferred (some [])) :: (A ++ B)) w₁ := hS.alloc _
  have hS₂ : St β m ((l, .loop rec₀) :: (rb, .deferred (some [])) :: (A ++ B)) w₂ := hS₁.alloc _
  have hl : l = w.heap.size + 1 := by show w₁.heap.size = _; simp [w₁]
  refine ⟨l, [SX.mark rb], w₂, { target := .fn (.func f) cs.toArray, args := #[yieldV l] }, w₂, f, (yieldV l :: cs).toArray, w₂, ?_, ?_, fun _ _ => trivial, ?_, (fun h => by cases h), ?_⟩
  · rw [hl]; exact run_enterLoop_outer fn a.tmps ps.toArray assign body
  · simp only [resolve, rangeCall, hge]
    simp [Act.eval, Deferred.ofValue, yieldV, Sem.run, pure]
  · have h3 := run_callFunc hf ((yieldV l :: cs).toArray) w₂
    simp only [invoke]
    have : (#[yieldV l] ++ cs.toArray) = (yieldV l :: cs).toArray := by simp
    rw [this]; exact h3
  · let J : σ → Tk := fun t => ⟨fun m' H => ∃ L', H = (l, .loop rec₀) :: L' ∧ Toks (Δf t) m' L', fun h ⟨L', e, k⟩ => ⟨L', e, k.mono h⟩⟩
    have hperm : ((l, Obj.loop rec₀) :: (rb, Obj.deferred (some [])) :: (A ++ B)).Perm (((l, Obj.loop rec₀) :: A) ++ ((rb, Obj.deferred (some [])) :: B)) :=
      .cons _ (List.perm_middle (a := (rb, Obj.deferred (some []))) (l₁ := A) (l₂ := B)).symm
    have hS₃ : St β m (((l, .loop rec₀) :: A) ++ ((rb, .deferred (some [])) :: B)) w₂ := hS₂.perm hperm
    have hy : (fYield P ρ Y J).p m (yieldV l) := ⟨l, rfl, fun m' hle x t t' vs H hx hvs ⟨L', e, hL'⟩ => by
      subst e
      intro w₄ hS₄
      have hvl : ps.length = vs.length := by rw [hlen x, hvs.length]
      refine ⟨rec₀, hS₄.own _ (.head _), by simp [rec₀, hvl], ?_⟩
      refine RoundIn.mono (R := RoundRT ⟨w₄, m', ((l, Obj.loop rec₀) :: L').map Prod.fst⟩ l rec₀ (Δf t')) ?_ fun e w' ⟨he, m'', L'', h1, h2⟩ =>
        ⟨he, m'', (l, .loop rec₀) :: L'', h1, L'', rfl, h2⟩
      refine roundIn_of_wpIn trivial ?_
      refine hbody ⟨w₄, m', ((l, Obj.loop rec₀) :: L').map Prod.fst⟩ l rec₀ x t t' rfl rfl hx m' _ _ w₄ ⟨?_, rfl, fun t φ ht => ?_⟩ ⟨[_], L', rfl, rfl, hL'⟩ hS₄
      · have : ∀ (z : List (Nat × Value)) (t : Array Value), (z.foldl (fun tmps (t, a) => tmps.setIfInBounds t a) t).size = t.size := fun z => by
          induction z with
          | nil => intro t; rfl
          | cons x z ih => intro t; simp [ih]
        have hz : ps.toArray.zip vs.toArray = (ps.zip vs).toArray := by simp
        simp only [roundTmps, rec₀, hz, List.foldl_toArray, this, hF.size]
      · have hz : ps.toArray.zip vs.toArray = (ps.zip vs).toArray := by simp
        simp only [roundTmps, rec₀, hz, List.foldl_toArray]
        exact round_getT (by rw [hF.size]; exact hps') (hlen x) hvs (hF.mono hle).get t φ ht⟩
    have hfn := hiter J m ((l, .loop rec₀) :: A) (yieldV l :: cs) ⟨_, _, rfl, hy, hcs⟩ ⟨_, [], by simp, ⟨A, rfl, hA⟩, rfl⟩
    refine calls_in ((hfn w₂ hS₃.start).mono fun e w' ⟨m', L₁, hS', v, he, _, hJ⟩ => ?_)
    obtain ⟨H, R0, hL1, ⟨L', hH, hT⟩, hR0⟩ := hJ
    have hR0 : R0 = [] := hR0
    subst he hH hR0
    have hL1 : L₁ = (l, Obj.loop rec₀) :: L' := by rw [hL1]; simp
    subst hL1
    have hback := back hS₃ hS'
    have hreco : w'.heap[l]? = some (.loop rec₀) := hback.own (l, .loop rec₀) (.head _)
    refine ⟨none, _, run_endLoop hreco (by simp [rec₀]), ?_⟩
    have h4 := (hback.putObj (k := 0) (o' := .loop { rec₀ with state := .exhausted }) rfl).drop (L' := L' ++ ((rb, Obj.deferred (some [])) :: B)) (by simp)
    have h5 := h4.perm (List.perm_middle (a := (rb, Obj.deferred (some []))) (l₁ := L') (l₂ := B))
    have hF' := hF.mono hS'.mle
    exact hnext rb m' _ { a with defers := [SX.mark rb] ++ a.defers } _ ⟨hF'.size, by simp [hF'.defs], hF'.get⟩ ⟨[_], L' ++ B, rfl, rfl, hT.append (hB.mono hS'.mle)⟩ h5
theorem FnX_ofM {f : FuncId} {fn : Func} {c : Code} {N : Nat} {args : List Fact} {post : Mem → Heap → Ending → Prop} (hf : P.funcs[f]? = some fn) (hb : fn.body = some c) (hN : fn.ntmps = N) (hle : Nat.ble args.length N = true)
    (k : ∀ w m fp, T ⟨w, m, fp⟩ N [] (enumT args 0) Δ (c.wpIn (fw none) 0 P (bodyPostM (fw none) 0 P fn fun e w' => ∃ m' L', St ⟨w, m, fp⟩ m' L' w' ∧ post m' L' e))) :
    ∀ m L vs, All2 args m vs → Toks Δ m L → FnX P f vs m L post := fun m L vs hv hL w hS => by
  refine (callsIn_wide (n := 0)).1 (callsIn_of_wp_marks hf hb trivial ?_)
  refine (k w m _ m L _ w ⟨?_, rfl, fun t φ h => ?_⟩ hL hS)
  · have := Nat.le_of_ble_eq_true hle
    have hl := hv.length
    simp [hN]; omega
  · obtain ⟨_, h2⟩ := lk_enum args 0 t φ h
    simp only [Nat.sub_zero] at h2
    obtain ⟨c, h3, h4⟩ := hv.get h2
    have hlt := (List.getElem?_eq_some_iff.1 h3).1
    refine ⟨c, ?_, h4⟩
    rw [Array.getElem?_append_left (by simpa using hlt)]
    simpa using h3
theorem FnS_ofM {f : FuncId} {fn : Func} {c : Code} {N : Nat} {args : List Fact} {Φ : Fact} {Δ' : Value → List Tk} (hf : P.funcs[f]? = some fn) (hb : fn.body = some c) (hN : fn.ntmps = N) (hle : Nat.ble args.length N = true)
    (k : ∀ β, T β N [] (enumT args 0) Δ (c.wpIn (fw none) 0 P (bodyPostM (fw none) 0 P fn (PostS β Φ Δ')))) : FnS P f args Δ Φ Δ' := FnX_ofM hf hb hN hle fun w m fp => k ⟨w, m, fp⟩
theorem marks_heap {m : Mem} : ∀ (rbs : List Nat) {Δ : List Tk} {L : Heap}, Toks (rbs.map tMark ++ Δ) m L → ∃ R, L = rbs.map (fun rb => (rb, Obj.deferred (some []))) ++ R ∧ Toks Δ m R
  | [], _, L, h => ⟨L, rfl, h⟩
  | rb :: rbs, _, _, ⟨H, R, e, h1, h2⟩ => by
    have h1 : H = [(rb, Obj.deferred (some []))] := h1
    obtain ⟨R', e2, h3⟩ := marks_heap rbs h2
    exact ⟨R', by rw [e, h1, e2]; rfl, h3⟩
theorem T_leave {fn : Func} {R : Ending → World → Prop} (rbs : List Nat) {Δ' : List Tk} (hds : ds = rbs.map SX.mark) (hΔ : Δ = rbs.map tMark ++ Δ')
    (k : T β n [] Γ Δ' (fun a w => ∃ v, (results fn a.tmps).run P w = .ok v w ∧ R (.returned v) w)) : T β n ds Γ Δ (fun a w => LeavesInM (fw none) 0 P fn a.tmps R a.defers .returning w) := fun m L a w hF hL hS => by
  subst hΔ
  obtain ⟨B, rfl, hB⟩ := marks_heap rbs hL
  rw [hF.defs, hds]
  let A : Heap := rbs.map (fun rb => (rb, Obj.deferred (some [])))
  have hnd : rbs.Nodup := by
    have := hS.nodup
    rw [List.map_append, List.map_map] at this
    have h2 := (List.nodup_append.1 this).1
    have h3 : (Prod.fst ∘ fun rb => (rb, Obj.deferred (some []))) = (id : Nat → Nat) := rfl
    rwa [h3, List.map_id] at h2
  refine leave_marks (β := β) (m := m) (A := A) (L' := B) rbs _ w hS (fun rb hrb => ?_) hnd (by simp [A]) (by simp [A]) fun w' hS' => ?_
  · obtain ⟨j, hj⟩ := List.mem_iff_getElem?.1 hrb
    have hlt := (List.getElem?_eq_some_iff.1 hj).1
    exact ⟨j, by rw [List.getElem?_append_left (by simpa using hlt)]; simp [hj], by simpa [A] using hlt⟩
  · exact k m B { a with defers := [] } w' ⟨hF.size, rfl, hF.get⟩ hB hS'
theorem T_outM0 {fn : Func} {Δ' : Value → List Tk} {e : Exit} (rbs : List Nat) (he : e = .ret ∨ e = .normal) (hr : fn.results = #[]) (hds : ds = rbs.map SX.mark) (hd : Δ = rbs.map tMark ++ Δ' (.tuple #[])) : T β n ds Γ Δ (bodyPostM (fw none) 0 P fn (PostS β (fTup []) Δ') e) := by
  have h := T_leave (P := P) (fn := fn) (R := PostS β (fTup []) Δ') (β := β) (n := n) (Γ := Γ) rbs hds hd fun m L a w hF hL hS => ⟨.tuple #[], by simp [results, hr, Sem.run, pure], m, L, hS, _, rfl, ⟨[], rfl, rfl⟩, hL⟩
  rcases he with rfl | rfl <;> exact h
theorem T_outM1 {fn : Func} {Φ : Fact} {Δ' : List Tk} {t : Nat} (rbs : List Nat) (hr : fn.results = #[.tmp t]) (hv : HasS Γ t Φ) (hds : ds = rbs.map SX.mark) (hd : Δ = rbs.map tMark ++ Δ') : T β n ds Γ Δ (bodyPostM (fw none) 0 P fn (PostS β Φ (fun _ => Δ')) .ret) :=
  T_leave (P := P) (fn := fn) (R := PostS β Φ (fun _ => Δ')) rbs hds hd fun m L a w hF hL hS => by
    obtain ⟨ψ, h1, h2⟩ := hv
    obtain ⟨v, h3, h4⟩ := hF.get t ψ h1
    exact ⟨v, by simp [results, hr, Array.getD_eq_getD_getElem?, h3, Sem.run, pure], m, L, hS, v, rfl, h2 m v h4, hL⟩
end
def fCell : Fact := ⟨fun _ v => IsCell v, fun _ h => h⟩
theorem leaf_cell : Leaf fCell := fun _ _ h => h
theorem ent_cell {φ : Fact} (h : Leaf φ) : Ent φ fCell := h
theorem EntL.app : ∀ {aa bs cs ds : List Fact}, EntL aa cs → EntL bs ds → EntL (aa ++ bs) (cs ++ ds)
  | [], _, _, _, h, k => by cases h; exact k
  | a :: aa, _, _, _, ⟨φ, φs, e, h1, h2⟩, k => by subst e; exact ⟨φ, φs ++ _, by simp, h1, EntL.app h2 k⟩
theorem ent_ptr {α γ : Type} {t : Ty α} {t' : Ty γ} {x : α} {y : γ} (h : EntL (t.leafs x) (t'.leafs y)) : Ent (fPtr t x) (fPtr t' y) := fun m v ⟨p, h1, cs, h2, h3⟩ => ⟨p, h1, cs, h.all h2, h3⟩
theorem ent_rawOf {v : Value} (h : IsCell v) : Ent (fEq v) (fRaw v) := fun m u hu => by
  have hu : u = v := hu
  exact ⟨hu, hu ▸ h⟩
section
variable {P : Program} {β : Base} {n : Nat} {ds : List Deferred} {Γ : Ctx} {Δ R : List Tk} {r : Option Nat} {F : Act → World → Prop} {ops : Array Oper} {o : Oper}
theorem o_loadE {α : Type} {t : Ty α} {y : α} {T : TypeId} {x : Operand} {φ ψ : Fact} (ho : o.op = .load T x) (hx : Has Γ x (fPtr t y)) (hT : Scal P T) (hl : t.leafs y = [φ]) (he : Ent φ ψ) : OpT P Γ [] o ψ := by
  have h := o_load ho hx hT hl
  exact ⟨h.nd, fun β m L a w h1 h2 h3 => let ⟨v, h4, h5⟩ := h.run β m L a w h1 h2 h3; ⟨v, h4, he m v h5⟩⟩
theorem set_self {α : Type} {cs : List α} {i : Nat} {v : α} (h : cs[i]? = some v) : cs.set i v = cs := by
  apply List.ext_getElem?; intro j; rw [List.getElem?_set]
  split
  · subst_vars; split
    · exact h.symm
    · have := (List.getElem?_eq_some_iff.1 h).1; omega
  · rfl
def fPtrL (φs : List Fact) : Fact := ⟨fun m v => ∃ p, v = .pointer (some p) ∧ ∃ cs, All2 φs m cs ∧ ∀ (j : Nat) c, cs[j]? = some c → m.cell (p.add j) = some c,
  fun h ⟨p, h1, cs, h2, h3⟩ => ⟨p, h1, cs, h2.mono h, fun j c hj => Mem.cell_mono h (h3 j c hj)⟩⟩
theorem T_slotPtrPure {φ : Fact} {v : Value} {φs φs' : List Fact} (s : Nat) {i : Nat} (hs : lk Γ s = some (fPtrL φs)) (hi : φs[i]? = some (fRaw v)) (hz : φs.set i φ = φs')
    (k : T β n ds ((s, fPtrL φs') :: Γ) (tPure φ v :: Δ) F) : T β n ds Γ (tPure φ v :: Δ) F := fun m L a w x y z => by
  obtain ⟨H, R, rfl, ⟨rfl, h1⟩, h2⟩ := y
  refine k m _ a w ⟨x.size, x.defs, fun u ψ hu => ?_⟩ ⟨[], R, rfl, ⟨rfl, h1⟩, h2⟩ z
  rcases lk_cons hu with ⟨rfl, rfl⟩ | ⟨_, hu⟩
  · obtain ⟨p, h3, q, h4, cs, h5, h6⟩ := x.get _ _ hs
    refine ⟨p, h3, q, h4, cs, ?_, h6⟩
    obtain ⟨c, h7, h8, _⟩ := h5.get hi
    subst h8
    have := h5.set (k := i) h1
    rw [set_self h7, hz] at this
    exact this
  · exact x.get u ψ hu
end
end Go.SW
namespace Go.SW
open Go.SX
def FnD (P : Program) (f : FuncId) (args : List Fact) (Δ : List Tk) (u : FrameMode) (Δ' : List Tk) : Prop :=
  ∀ m L vs, All2 args m vs → Toks Δ m L → ∀ w, St ⟨w, m, L.map Prod.fst⟩ m L w → CallsDIn (fw none) 0 P f vs.toArray u w fun e u' w' => (∃ v, e = .returned v) ∧ settle u' = .returning ∧ ∃ m' L', St ⟨w, m, L.map Prod.fst⟩ m' L' w' ∧ Toks Δ' m' L'
def PostD (β : Base) (Δ' : List Tk) (e : Ending) (u' : FrameMode) (w' : World) : Prop := (∃ v, e = .returned v) ∧ settle u' = .returning ∧ ∃ m' L', St β m' L' w' ∧ Toks Δ' m' L'
section
variable {P : Program} {β : Base} {n : Nat} {ds : List Deferred} {Γ : Ctx} {Δ R : List Tk} {r : Option Nat} {Q Q' : Exit → Act → World → Prop} {F : Act → World → Prop} {ops : Array Oper} {o : Oper} {rest : List Oper}
theorem FnD_of {f : FuncId} {fn : Func} {c : Code} {N : Nat} {args : List Fact} {u : FrameMode} {Δ' : List Tk} (hf : P.funcs[f]? = some fn) (hb : fn.body = some c) (hN : fn.ntmps = N) (hle : Nat.ble args.length N = true)
    (k : ∀ β c₀ cs, c₀.mode = u → T β N [] (enumT args 0) Δ (fun a w => c.wpSIn (fw none) 0 P (bodyPostS P fn c₀ cs (PostD β Δ')) a (c₀ :: cs) w)) : FnD P f args Δ u Δ' := fun m L vs hv hL w hS => by
  refine callsDIn_of_wpSIn hf hb trivial fun c₀ cs hu => ?_
  refine k ⟨w, m, _⟩ c₀ cs hu m L _ w ⟨?_, rfl, fun t φ h => ?_⟩ hL hS
  · have := Nat.le_of_ble_eq_true hle
    have hl := hv.length
    simp [hN]; omega
  · obtain ⟨_, h2⟩ := lk_enum args 0 t φ h
    simp only [Nat.sub_zero] at h2
    obtain ⟨c, h3, h4⟩ := hv.get h2
    have hlt := (List.getElem?_eq_some_iff.1 h3).1
    refine ⟨c, ?_, h4⟩
    rw [Array.getElem?_append_left (by simpa using hlt)]
    simpa using h3
theorem T_recover {x : Code} {id d e : Nat} {o0 o1 : Oper} {S : Exit → Act → List Frame → World → Prop} {cs cs' : List Frame} {v : Value} (hr : (match recoverD cs with | some p => p | none => (.nilIface, cs)) = (v, cs'))
    (h0 : o0.op = .call { callee := .builtin .recover, args := #[], argTypes := #[] }) (g0 : o0.guard = none) (d0 : o0.dst = some d) (h1 : o1.op = .assign (.tmp d)) (g1 : o1.guard = none) (d1 : o1.dst = some e) (hn : Nat.ble (d + 1) n = true ∧ Nat.ble (e + 1) n = true)
    (k : T β n ds ((e, fEq v) :: (d, fEq v) :: Γ) Δ (fun a w => x.wpSIn (fw none) 0 P S a cs' w)) : T β n ds Γ Δ (fun a w => (Code.seq (.region id #[o0, o1] false) x).wpSIn (fw none) 0 P S a cs w) := fun m L a w hF hL hS => by
  refine wpSIn_seq (wpSIn_region ?_)
  have hF1 : FT n ds ((d, fEq v) :: Γ) m (a.put (some d) v) := hF.put (Nat.le_of_ble_eq_true hn.1) rfl
  have hF2 : FT n ds ((e, fEq v) :: (d, fEq v) :: Γ) m ((a.put (some d) v).put (some e) v) := hF1.put (Nat.le_of_ble_eq_true hn.2) rfl
  have he0 : ∀ w, (execOp a.eval o0).run P w = .ok .recover w := fun w => by simp [execOp, h0, resolve, invoke, builtin, Sem.run_bind, Sem.run, pure]
  have hev : (a.put (some d) v).eval (.tmp d) = v := hF1.eval (x := .tmp d) (ψ := fEq v) (by simp [evT, lk])
  have he1 : ∀ w, (execOp (a.put (some d) v).eval o1).run P w = .ok (.value v) w := fun w => by simp [execOp, h1, hev, Sem.run, pure]
  have hl : List.range (#[o0, o1] : Array Oper).size = [0, 1] := rfl
  have i0 : (#[o0, o1] : Array Oper)[0]? = some o0 := rfl
  have i1 : (#[o0, o1] : Array Oper)[1]? = some o1 := rfl
  have w0 : Region.wanted o0 (yielded #[o0, o1] a.tmps) = true := by simp [Region.wanted, g0]
  have w1 : Region.wanted o1 (yielded #[o0, o1] (a.put (some d) v).tmps) = true := by simp [Region.wanted, g1]
  have hfin : wpOpsSIn (fw none) 0 P #[o0, o1] (Exit.thenS (x.wpSIn (fw none) 0 P S) S) [1] (a.put o0.dst v) cs' w := by
    rw [d0]
    simp only [wpOpsSIn, i1, w1, if_true, he1]
    rw [d1]
    exact ⟨fun _ _ => trivial, k m L _ w hF2 hL hS⟩
  rw [hl, wpOpsSIn]
  simp only [i0, w0, if_true, he0]
  refine ⟨fun _ _ => trivial, ?_⟩
  cases hrec : recoverD cs with
  | none => rw [hrec] at hr; cases hr; exact hfin
  | some p => rw [hrec] at hr; obtain ⟨v', cs''⟩ := p; cases hr; exact hfin
theorem T_inS {x : Code} {S : Exit → Act → List Frame → World → Prop} {cs : List Frame} (k : T β n ds Γ Δ (x.wpIn (fw none) 0 P (fun e a w => S e a cs w))) : T β n ds Γ Δ (fun a w => x.wpSIn (fw none) 0 P S a cs w) :=
  k.mono fun _ _ h => wpSIn_of_wpIn rfl h
theorem T_endD {fn : Func} {c₀ : Frame} {cs cs' : List Frame} {u' : FrameMode} {Δ' : List Tk} {e : Exit} (he : e = .ret ∨ e = .normal) (hr : fn.results = #[]) (hc : cs' = { c₀ with mode := u' } :: cs) (hu : settle u' = .returning) (hd : Δ = Δ') :
    T β n [] Γ Δ (fun a w => bodyPostS P fn c₀ cs (PostD β Δ') e a cs' w) := fun m L a w hF hL hS => by
  subst hd
  have : a.defers = [] ∧ ∃ u', cs' = { c₀ with mode := u' } :: cs ∧ ∃ v, (results fn a.tmps).run P w = .ok v w ∧ PostD β Δ (.returned v) u' w :=
    ⟨hF.defs, u', hc, .tuple #[], by simp [results, hr, Sem.run, pure], ⟨_, rfl⟩, hu, m, L, hS, hL⟩
  rcases he with rfl | rfl <;> exact this
theorem T_defer {g : FuncId} {args : List Operand} {ts : Array TypeId} {vs : List Value} (hw : WantsT ops Γ o) (ho : o.op = .defer { callee := .value (.func g), args := args.toArray, argTypes := ts }) (hd : o.dst = none) (ha : Exacts Γ args vs)
    (k : T β n ({ target := .fn (.func g) #[], args := vs.toArray } :: ds) Γ Δ (wpListIn (fw none) 0 P ops Q rest)) : T β n ds Γ Δ (wpListIn (fw none) 0 P ops Q (o :: rest)) := fun m L a w hF hL hS => by
  have hx : args.map a.eval = vs := ha.eval (hF.evs o) (by rw [ho]; intro x hx; simp [Op.operands, Call.operands, hx])
  simp only [wpListIn, hw.wanted hF, if_true]
  refine ⟨fun _ _ => trivial, ?_⟩
  have h3 : o.semAt (fw none).round a.eval = execOp a.eval o := Oper.semAt_none _ _
  have hrun : (execOp a.eval o).run P w = .ok (.defer { target := .fn (.func g) #[], args := vs.toArray }) w := by
    have h4 : args.toArray.map a.eval = (args.map a.eval).toArray := by simp
    simp [execOp, ho, resolve, Act.eval, Deferred.ofValue, Sem.run_bind, Sem.run, pure]
    rw [← hx]
  rw [h3, hrun, Oper.uponIn_defer, hd]
  exact k m L _ w ⟨hF.size, by simp [Act.put, hF.defs], hF.get⟩ hL hS
theorem T_outD {fn : Func} {g b c t : Nat} {T' : TypeId} {φ ψ ψ' : Fact} {u : FrameMode} (hu : u ≠ .run) (hr : fn.results = #[.tmp t, .cell c T']) (hv : HasS Γ t φ) (hc : lk Γ c = some (fEq (ptr b))) (hT : Scal P T') (hg : Callable P g)
    (hD : FnD P g [fEq (ptr b)] [tBlk b T' [ψ]] u [tBlk b T' [ψ']]) (hds : ds = [{ target := .fn (.func g) #[], args := #[ptr b] }]) (hΔ : Δ = [tBlk b T' [ψ]]) :
    T β n ds Γ Δ (fun a w => LeavesInM (fw none) 0 P fn a.tmps (PostS β (fTup [φ, ψ']) (fun _ => [])) a.defers u w) := fun m L a w hF hL hS => by
  subst hΔ
  rw [hF.defs, hds]
  refine ⟨hu, .inr ⟨(fun h => by cases h), .func g, #[], g, #[ptr b], rfl, ?_, fun _ _ => trivial, ?_⟩⟩
  · have := run_callFunc hg (#[ptr b]) w
    simpa [invoke] using this
  · have hS0 : St β m (L ++ []) w := by rw [List.append_nil]; exact hS
    have hcall := hD m L [ptr b] ⟨_, [], rfl, rfl, rfl⟩ hL w hS0.start
    refine ⟨trivial, fun c₀ cs hm hroom => ?_⟩
    obtain ⟨_, hcall⟩ := hcall
    obtain ⟨e, u', w', fr, ⟨⟨v, he⟩, hset, m', L', hS', hL'⟩, h2⟩ := hcall c₀ cs hm hroom
    subst he
    refine ⟨_, u', w', fr, ?_, h2⟩
    simp only [hset]
    have hb := back hS0 hS'
    rw [List.append_nil] at hb
    have hF' := hF.mono hS'.mle
    obtain ⟨χ, h3, h4⟩ := hv
    obtain ⟨v0, h5, h6⟩ := hF'.get t χ h3
    obtain ⟨v1, h7, h8⟩ := hF'.get c _ hc
    have h8 : v1 = ptr b := h8
    subst h8
    obtain ⟨cs', h9, h10⟩ := blk_cell hL' hb
    obtain ⟨x, cr, e1, e2, e3⟩ := h9
    have e3 : cr = [] := e3
    subst e1 e3
    have hcell := h10 0 x rfl
    have hload : (loadVar T' ⟨b, 0, none⟩).run P w' = .ok x w' := by simp [loadVar, Sem.run_bind, run_isAgg_scal hT, Sem.run, pure, hcell]
    refine ⟨.tuple #[v0, x], ?_, m', [], ?_, _, rfl, ⟨[v0, x], rfl, v0, [x], rfl, h4 m' v0 h6, x, [], rfl, e2, rfl⟩, rfl⟩
    · simp [results, hr, Array.getD_eq_getD_getElem?, h5, h7, Sem.run_bind, Sem.run, pure, ptr, asAddr, hload]
    · exact hb.drop (List.nil_sublist _)
theorem T_outDret {fn : Func} {Φ : Fact} {Δ' : Value → List Tk} (k : T β n ds Γ Δ (fun a w => LeavesInM (fw none) 0 P fn a.tmps (PostS β Φ Δ') a.defers .returning w)) : T β n ds Γ Δ (bodyPostM (fw none) 0 P fn (PostS β Φ Δ') .ret) := k
theorem T_outDpan {fn : Func} {Φ : Fact} {Δ' : Value → List Tk} {c : List PanicEntry} (k : T β n ds Γ Δ (fun a w => LeavesInM (fw none) 0 P fn a.tmps (PostS β Φ Δ') a.defers (.panicking c) w)) : T β n ds Γ Δ (bodyPostM (fw none) 0 P fn (PostS β Φ Δ') (.panic c)) := k
theorem o_typeAssertT {S T' : TypeId} {x : Operand} {v : Value} (ho : o.op = .typeAssert x S T' true) (hx : Has Γ x (fEq (.iface T' v))) (hT : niB P T' = true) {z : Value} (hz : zeroB P T' = some z) : OpT P Γ [] o (fTup [fEq v, fBool true]) :=
  o_typeAssert ho hx hT hz (by simp [asTy])
def unI (T : TypeId) : Value → Option Int
  | .iface t (.agg vs) => if t = T then (match vs.toList with | [.int .i64 e] => some e | _ => none) else none
  | _ => none
theorem unI_some {T : TypeId} {v : Value} {e : Int} (h : unI T v = some e) : v = .iface T (.agg #[.int .i64 e]) := by
  unfold unI at h
  split at h
  · rename_i t vs
    split at h
    · subst_vars
      split at h
      · rename_i e' hv
        cases h
        have : vs = #[.int .i64 e] := by rw [← Array.toArray_toList (xs := vs), hv]
        rw [this]
      · cases h
    · cases h
  · cases h
def MethAt (P : Program) (T : TypeId) (u : Value) (name : String) (f : FuncId) : Prop := ∀ w, (method (P.types.size + Made.depth) T u name).run P w = .ok (f, u) w
def Inv (P : Program) (v : Value) (name : String) (φs : List Fact) (Φ : Fact) : Prop := ∃ t u f, v = .iface t u ∧ MethAt P t u name f ∧ Callable P f ∧ FnS P f (fEq u :: φs) [] Φ (fun _ => [])
theorem FnS.args {f : FuncId} {φs ψs : List Fact} {Φ : Fact} {Δ' : Value → List Tk} (h : FnS P f φs Δ Φ Δ') (k : EntL ψs φs) : FnS P f ψs Δ Φ Δ' := fun m L vs hv hL => h m L vs (k.all hv) hL
theorem wp_callI {x : Operand} {name : String} {args : List Operand} {ts : Array TypeId} {t : TypeId} {u : Value} {f : FuncId} {vs : List Value} {post : Mem → Heap → Ending → Prop} {m : Mem} {L R : Heap} {a : Act} {w : World} {K : Act → World → Prop}
    (ho : o.op = .call { callee := .invoke x name, args := args.toArray, argTypes := ts }) (hx : a.eval x = .iface t u) (hm : MethAt P t u name f) (hall : u :: args.map a.eval = vs) (hf : Callable P f) (hc : FnX P f vs m L post) (hS : St β m (L ++ R) w)
    (kret : ∀ m' L' v w', Mem.le m m' → post m' L' (.returned v) → St β m' (L' ++ R) w' → K (a.put o.dst v) w')
    (kpan : ∀ m' L' c w', Mem.le m m' → post m' L' (.panicked c) → St β m' (L' ++ R) w' → Q (.panic c) a w') (kout : ∀ m' L', post m' L' .outgrown → False) : o.wpIn (fw r) 0 P a w K Q := by
  have hnd : isDefer o.op = false := by rw [ho]; rfl
  have h3 : o.semAt (fw r).round a.eval = execOp a.eval o := Oper.semAt_eq _ _ _ fun c hc => by rw [hc] at hnd; cases hnd
  refine ⟨fun _ _ => trivial, ?_⟩
  have hrun : (execOp a.eval o).run P w = .ok (.enter f vs.toArray) w := by
    have h4 : args.toArray.map a.eval = (args.map a.eval).toArray := by simp
    have h5 : (#[u] ++ (args.map a.eval).toArray) = vs.toArray := by rw [← hall]; simp
    have h6 : (#[a.eval x] ++ args.toArray.map a.eval).extract 1 (#[a.eval x] ++ args.toArray.map a.eval).size = (args.map a.eval).toArray := by
      apply Array.ext'; simp [List.take_of_length_le]
    have h7 : (#[a.eval x] ++ args.toArray.map a.eval)[0]? = some (a.eval x) := by simp
    have h8 : (callMethod (.iface t u) name (args.map a.eval).toArray).run P w = .ok (.enter f vs.toArray) w := by
      simp only [callMethod, Sem.run_bind, run_program, Result.andThen_ok, hm w, h5, run_callFunc hf]
    simp only [execOp, ho, resolve, Sem.run_bind]
    show ((invoke (.fn (.method name) #[]) (#[a.eval x] ++ args.toArray.map a.eval)).run P w) = _
    rw [hx] at h6 h7
    simp only [invoke]
    rw [hx, h7]
    simp only
    rw [h6]
    exact h8
  rw [h3, hrun, Oper.uponIn_enter]
  refine ⟨(fun h => by cases h), calls_in ((hc w hS.start).mono fun e w' ⟨m', L', hS', hp⟩ => ?_)⟩
  have hb := back hS hS'
  cases e with
  | returned v => exact kret m' L' v w' hS'.mle hp hb
  | panicked c => exact kpan m' L' c w' hS'.mle hp hb
  | outgrown => exact (kout m' L' hp).elim
variable {l : List NO} {e : Env'} {i : Nat} {od : Env' → OD} {G : Env' → Cf → (Nat → Tk) → Prop}
theorem N_callI {x : Operand} {name : String} {args : List Operand} {ts : Array TypeId} {v : Value} {φs : List Fact} {Φ : Fact} {d : Nat} {Δ' : Oc → List Tk} (hod : od e = .op [] true (fun _ => Φ) Δ') (hτ : ∀ b, Δ' b = []) (hw : WantsT ops Γ o) (ho : o.op = .call { callee := .invoke x name, args := args.toArray, argTypes := ts }) (hd : o.dst = some d)
    (hx : Has Γ x (fEq v)) (hargs : HasL Γ args φs) (hi : Inv P v name φs Φ)
    (k : ∀ b, NC P r ops G l (e.set i b) (lk ((d, Φ) :: Γ)) (dOf Δ)) : NC P r ops G ((i, o, od) :: l) e (lk Γ) (dOf Δ) := by
  refine ⟨?_, fun b => ?_⟩
  · simp only [hod]
    refine ⟨hw, ?_, fun b => by rw [hτ]; rfl⟩
    intro β n ds m L R a w K Q hF hL hS hk
    have hL0 : L = [] := hL
    subst hL0
    have he := evs_of hF
    obtain ⟨t, u, f, hv, hm, hf, hc⟩ := hi
    subst hv
    have hxx := he.get hx (by rw [ho]; simp [Op.operands, Call.operands])
    refine wp_callI (L := []) ho hxx hm rfl hf (hc m [] _ ⟨_, _, rfl, rfl, hargs.all' he (by rw [ho]; intro x hx; simp [Op.operands, Call.operands, hx])⟩ rfl) hS (fun m' L' v w' hle ⟨u, hv, h3, h4⟩ hS' => ?_) (fun m' L' c w' _ ⟨u, hv, _⟩ _ => by cases hv) (fun m' L' ⟨u, hv, _⟩ => by cases hv)
    cases hv
    have h4 : L' = [] := h4
    subst h4
    exact hk default m' [] v w' hle h3 (by simp only [OD.wr, if_true]; rw [hτ]; rfl) hS'
  · simp only [hod, effC, effD, if_true, hd, hτ]
    rw [updD_nil]; exact k b
end
end Go.SW
namespace Go
section
variable {F : Fence} {n : Nat} {P : Program} {Q : Exit → Act → World → Prop} {a : Act} {w : World} {b : Frame} {k : List Item} {cs : List Frame}
theorem SW.stepR_scope {c : Code} : step P (lone (b.atR a (.code (.scope c) :: k)) cs w) = .next (lone (b.atR a (.code c :: .inScope c :: k)) cs w) :=
  step_lone_go (by simp [stepG, stepG.exec, Frame.atR])
theorem SW.stepR_inScope {c : Code} : step P (lone (b.atR a (.inScope c :: k)) cs w) = .next (lone (b.atR a k) cs w) :=
  step_lone_go (by simp [stepG, stepG.exec, Frame.atR])
theorem SW.wpIn_scope {c : Code} (h : c.wpIn F n P (Exit.noGoto Q) a w) : (Code.scope c).wpIn F n P Q a w := by
  intro b k cs hro hb hr
  have h0 : (lone (b.atR a (.code (.scope c) :: k)) cs w).fenced P F := fenced_calm hb hr rfl
  obtain ⟨e, a₁, w₁, hq, harr⟩ := h b (.inScope c :: k) cs hro hb hr
  cases e with
  | normal => exact ⟨.normal, a₁, w₁, hq, .head h0 SW.stepR_scope (StepsIn.trans harr (.one (fenced_calm hb hr rfl) SW.stepR_inScope))⟩
  | exit id => exact ⟨.exit id, a₁, w₁, hq, fun k' hk => .head h0 SW.stepR_scope (harr.1 k' (by simp [exitTo, hk])), fun hr' hk => let ⟨k₁, h1, h2⟩ := harr.2 hr' (by simp [exitTo, hk]); ⟨k₁, h1, .head h0 SW.stepR_scope h2⟩⟩
  | goto l => exact hq.elim
  | ret => exact ⟨_, a₁, w₁, hq, .of_steps (.one h0 SW.stepR_scope) harr⟩
  | panic ch => exact ⟨_, a₁, w₁, hq, .of_steps (.one h0 SW.stepR_scope) harr⟩
  | outgrown => exact ⟨_, a₁, w₁, hq, .of_steps (.one h0 SW.stepR_scope) harr⟩
end
end Go
namespace Go.SW
open Go.SX
section
variable {P : Program} {β : Base} {n : Nat} {ds : List Deferred} {Γ : Ctx} {Δ R : List Tk} {r : Option Nat} {Q Q' : Exit → Act → World → Prop} {F : Act → World → Prop} {ops : Array Oper} {o : Oper} {rest : List Oper}
theorem T_scope {c : Code} (h : T β n ds Γ Δ (c.wpIn (fw r) 0 P (Exit.noGoto Q))) : T β n ds Γ Δ ((Code.scope c).wpIn (fw r) 0 P Q) := h.mono fun _ _ => wpIn_scope
theorem T_label {l : Nat} (h : T β n ds Γ Δ (Q .normal)) : T β n ds Γ Δ ((Code.label l).wpIn (fw r) 0 P Q) := h.mono fun _ _ => wpIn_label
theorem T_ng_ret (h : T β n ds Γ Δ (Q .ret)) : T β n ds Γ Δ (Exit.noGoto Q .ret) := h
variable {κ α : Type} {kd : Key κ} {vf : α → Fact} {g g1 : GMap κ α}
theorem GMap.ext' {a b : GMap κ α} (h : a.get = b.get) (k : a.size = b.size) : a = b := by
  cases a; cases b; simp at h k; simp [h, k]
structure IterIs (kd : Key κ) (vf : α → Fact) (g g1 : GMap κ α) (m : Mem) (es : Array MapEntry) (clock since : Nat) (seen : Array Nat) (c0 : Nat) : Prop where
  is : mapIs kd vf g m es clock
  old : ∀ e ∈ es.toList, e.born < since
  sc : since ≤ c0
  cl : since ≤ clock
  part : ∀ e ∈ es.toList, ∀ k, e.key = kd.val k → g1.get k = if e.born ∈ seen.toList then g.get k else none
  none : ∀ k, g.get k = none → g1.get k = none
  size : g1.size = es.toList.countP (fun e => decide (e.born ∈ seen.toList))
theorem IterIs.mono {m m' : Mem} {es : Array MapEntry} {clock since : Nat} {seen : Array Nat} {c0 : Nat} (hle : Mem.le m m') (h : IterIs kd vf g g1 m es clock since seen c0) : IterIs kd vf g g1 m' es clock since seen c0 :=
  ⟨h.is.mono hle, h.old, h.sc, h.cl, h.part, h.none, h.size⟩
def tIter (kd : Key κ) (vf : α → Fact) (b : Nat) (g g1 : GMap κ α) : Tk := ⟨fun m H => (g = GMap.none ∧ g1 = GMap.none ∧ H = [(b, .mapIter none 0 #[] 0)]) ∨
    ∃ (mb : Nat) (es : Array MapEntry) (clock since : Nat) (seen : Array Nat) (c0 : Nat), H = [(b, .mapIter (some mb) since seen c0)] ∧ m mb = some (.map es clock) ∧ IterIs kd vf g g1 m es clock since seen c0,
  fun h k => k.imp id fun ⟨mb, es, clock, since, seen, c0, h1, h2, h3⟩ => ⟨mb, es, clock, since, seen, c0, h1, h _ _ h2, h3.mono h⟩⟩
def tIterC (kd : Key κ) (vf : α → Fact) (b : Nat) (g g1 : GMap κ α) (k : κ) (y : α) : Tk := ⟨fun m H =>
    ∃ (mb : Nat) (es : Array MapEntry) (clock since : Nat) (seen : Array Nat) (c0 : Nat) (e : MapEntry), H = [(b, .mapIter (some mb) since (seen.push e.born) clock)] ∧ m mb = some (.map es clock) ∧ IterIs kd vf g g1 m es clock since (seen.push e.born) c0 ∧ c0 = clock ∧ e ∈ es.toList ∧ e.key = kd.val k ∧ (vf y).p m e.val,
  fun h ⟨mb, es, clock, since, seen, c0, e, h1, h2, h3, h4, h5, h6, h7⟩ => ⟨mb, es, clock, since, seen, c0, e, h1, h _ _ h2, h3.mono h, h4, h5, h6, Fact.mono _ h h7⟩⟩
theorem T_iterC {b : Nat} {k : κ} {y : α} (h : T β n ds Γ (tIter kd vf b g g1 :: Δ) F) : T β n ds Γ (tIterC kd vf b g g1 k y :: Δ) F := fun m L a w x ⟨H, R, e, ⟨mb, es, clock, since, seen, c0, e0, h1, h2, h3, h4, _⟩, hR⟩ z =>
  h m L a w x ⟨H, R, e, .inr ⟨mb, es, clock, since, _, c0, by rw [h4]; exact h1, h2, h3⟩, hR⟩ z
theorem n_range {T : TypeId} {x : Operand} {z : Value} (ho : o.op = .range T x) (hx : Has Γ x (fMap kd vf g)) (hT : MapTy P T kd z) : OpN P Γ o ptr (fun b => tIter kd vf b g GMap.none) :=
  ⟨by rw [ho]; rfl, fun β m a w he hS => by
    obtain ⟨K, V, h1, h2, h3⟩ := hT
    rcases he.get hx (by rw [ho]; simp [Op.operands]) with ⟨hv, hg⟩ | ⟨b, es, clock, hv, hm, hi⟩
    · refine ⟨.mapIter none 0 #[] 0, ?_, .inl ⟨hg, rfl, rfl⟩⟩
      simp [execOp, ho, hv, Instr.range, Sem.run_bind, run_underlying h1, newObj, Sem.run, pure, ptr]
    · have hg : (getObj b).run P w = .ok (.map es clock) w := by simp [getObj, Sem.run, hS.mem _ _ hm]
      refine ⟨.mapIter (some b) clock #[] clock, ?_, .inr ⟨b, es, clock, clock, #[], clock, rfl, hm, hi, ?_, Nat.le_refl _, Nat.le_refl _, fun e _ k _ => by simp [GMap.none], fun k _ => rfl, by simp [GMap.none]⟩⟩
      · simp [execOp, ho, hv, Instr.range, Sem.run_bind, run_underlying h1, hg, newObj, Sem.run, pure, ptr]
      · obtain ⟨G, hK, _⟩ := hi; exact hK.born⟩
theorem inj_of_nodup {γ δ : Type} {l : List γ} {f : γ → δ} (h : (l.map f).Nodup) {a b : γ} (ha : a ∈ l) (hb : b ∈ l) (e : f a = f b) : a = b := by
  obtain ⟨i, hi⟩ := List.mem_iff_getElem?.1 ha
  obtain ⟨j, hj⟩ := List.mem_iff_getElem?.1 hb
  have h1 : (l.map f)[i]? = some (f a) := by rw [List.getElem?_map, hi]; rfl
  have h2 : (l.map f)[j]? = some (f a) := by rw [List.getElem?_map, hj]; simp [e]
  have l1 := (List.getElem?_eq_some_iff.1 h1).1
  have := (List.getElem?_inj l1 h).1 (h1.trans h2.symm)
  subst this
  rw [hi] at hj; exact Option.some.inj hj
theorem countP_push {l : List MapEntry} {seen : Array Nat} {e : MapEntry} (hn : (l.map (·.born)).Nodup) (he : e ∈ l) (hns : e.born ∉ seen.toList) :
    l.countP (fun x => decide (x.born ∈ (seen.push e.born).toList)) = l.countP (fun x => decide (x.born ∈ seen.toList)) + 1 := by
  induction l with
  | nil => cases he
  | cons a l ih =>
    simp only [List.map_cons, List.nodup_cons] at hn
    rw [List.countP_cons, List.countP_cons]
    cases he with
    | head =>
      have hrest : l.countP (fun x => decide (x.born ∈ (seen.push e.born).toList)) = l.countP (fun x => decide (x.born ∈ seen.toList)) := by
        apply List.countP_congr
        intro x hx
        have : x.born ≠ e.born := fun h => hn.1 (h ▸ List.mem_map_of_mem hx)
        simp [this]
      rw [hrest]
      have h1 : decide (e.born ∈ (seen.push e.born).toList) = true := by simp
      have h2 : decide (e.born ∈ seen.toList) = false := by simpa using hns
      rw [h1, h2]; simp
    | tail _ he =>
      rw [ih hn.2 he]
      have hne : a.born ≠ e.born := fun h => hn.1 (h ▸ List.mem_map_of_mem he)
      have : decide (a.born ∈ (seen.push e.born).toList) = decide (a.born ∈ seen.toList) := by simp [hne]
      rw [this]; omega
theorem upd_meas [DecidableEq κ] {k : κ} {y : α} (h1 : g1.get k = none) (h2 : g1.size < g.size) : g.size - (GMap.upd g1 k y).size < g.size - g1.size := by
  have : (GMap.upd g1 k y).size = g1.size + 1 := by simp [GMap.upd, h1]
  omega
theorem T_next [DecidableEq κ] {x : Operand} {d b : Nat} (hw : WantsT ops Γ o) (ho : o.op = .next x false) (hd : o.dst = some d) (hn : Nat.ble (d + 1) n = true) (hx : Has Γ x (fEq (ptr b)))
    (k0 : g1 = g → T β n ds ((d, fTup [fBool false]) :: Γ) (tIter kd vf b g g1 :: Δ) (wpListIn (fw r) 0 P ops Q rest))
    (k1 : ∀ k y, g.get k = some y → g1.get k = none → g1.size < g.size → T β n ds ((d, fTup [fBool true, fEq (kd.val k), vf y]) :: Γ) (tIterC kd vf b g (GMap.upd g1 k y) k y :: Δ) (wpListIn (fw r) 0 P ops Q rest)) :
    T β n ds Γ (tIter kd vf b g g1 :: Δ) (wpListIn (fw r) 0 P ops Q (o :: rest)) := fun m L a w hF hL hS => by
  obtain ⟨H, R, rfl, hI, hR⟩ := hL
  have hnd : isDefer o.op = false := by rw [ho]; rfl
  have h3 : o.semAt (fw r).round a.eval = execOp a.eval o := Oper.semAt_eq _ _ _ fun c hc => by rw [hc] at hnd; cases hnd
  simp only [wpListIn, hw.wanted hF, if_true]
  refine ⟨fun _ _ => trivial, ?_⟩
  have hxe : a.eval x = ptr b := hF.has hx
  rcases hI with ⟨rfl, rfl, rfl⟩ | ⟨mb, es, clock, since, seen, c0, rfl, hm, hi⟩
  · have hr : w.heap[b]? = some (.mapIter none 0 #[] 0) := hS.own _ (.head _)
    have e1 : (execOp a.eval o).run P w = .ok (.value (.tuple #[.bool false])) w := by
      simp [execOp, ho, hxe, ptr, Instr.next, getObj, hr, Sem.run_bind, Sem.run, pure]
    rw [h3, e1, Oper.uponIn_value, hd]
    exact k0 rfl m _ _ w (hF.put (Nat.le_of_ble_eq_true hn) ⟨_, rfl, _, _, rfl, rfl, rfl⟩) ⟨_, R, rfl, .inl ⟨rfl, rfl, rfl⟩, hR⟩ hS
  · have hr : w.heap[b]? = some (.mapIter (some mb) since seen c0) := hS.own _ (.head _)
    obtain ⟨G, hK, hG0, hsz, hGv⟩ := hi.is
    rcases run_next_at (P := P) w o.type b mb since c0 seen es clock hr (hS.mem _ _ hm) hi.old hi.sc with ⟨h0, hrun⟩ | ⟨e, he, w1, hw1, hrun⟩
    · have e1 : (execOp a.eval o).run P w = .ok (.value (.tuple #[.bool false])) w := by simp [execOp, ho, hxe, Sem.run_bind, ptr, hrun, Sem.run, pure]
      rw [h3, e1, Oper.uponIn_value, hd]
      have hall : ∀ e ∈ es.toList, e.born ∈ seen.toList := fun e he => by
        apply Classical.byContradiction; intro hne
        have : e ∈ (leftOf es seen).toList := by simp [leftOf] at he ⊢; exact ⟨he, by simpa using hne⟩
        have h1 : (leftOf es seen).toList.length = 0 := by simpa using h0
        rw [List.eq_nil_of_length_eq_zero h1] at this; cases this
      have hgg : g1 = g := by
        refine GMap.ext' (funext fun k => ?_) ?_
        · cases hk : g.get k with
          | none => exact hi.none k hk
          | some y =>
            obtain ⟨v, hv, _⟩ := hGv k y hk
            obtain ⟨e, he, hek⟩ := hK.all k v hv
            rw [hi.part e he k hek, if_pos (hall e he), hk]
        · rw [hi.size, ← hsz]
          have : es.toList.countP (fun e => decide (e.born ∈ seen.toList)) = es.toList.length := by
            rw [List.countP_eq_length]; intro e he; simpa using hall e he
          rw [this]; simp
      exact k0 hgg m _ _ w (hF.put (Nat.le_of_ble_eq_true hn) ⟨_, rfl, _, _, rfl, rfl, rfl⟩) ⟨_, R, rfl, .inr ⟨mb, es, clock, since, seen, c0, rfl, hm, hi⟩, hR⟩ hS
    · have e1 : (execOp a.eval o).run P w = .ok (.value (.tuple #[.bool true, e.key, e.val])) (ChangeMaps.setBlock w1 b (.mapIter (some mb) since (seen.push e.born) clock)) := by simp [execOp, ho, hxe, Sem.run_bind, ptr, hrun, Sem.run, pure]
      rw [h3, e1, Oper.uponIn_value, hd]
      have hee : e ∈ es.toList ∧ e.born ∉ seen.toList := by simp [leftOf] at he ⊢; exact ⟨he.1, by simpa using he.2⟩
      obtain ⟨k, hek, hGk⟩ := hK.keys e hee.1
      obtain ⟨y, hy⟩ : ∃ y, g.get k = some y := by
        cases hk : g.get k with
        | none => rw [hG0 k hk] at hGk; cases hGk
        | some y => exact ⟨y, rfl⟩
      obtain ⟨v, hv, hvf⟩ := hGv k y hy
      rw [hGk] at hv; cases hv
      have hg1 : g1.get k = none := by rw [hi.part e hee.1 k hek, if_neg hee.2]
      have hlt : g1.size < g.size := by
        rw [hi.size, ← hsz]
        have h1 := countP_push hK.stamps hee.1 hee.2
        have h2 := List.countP_le_length (p := fun x : MapEntry => decide (x.born ∈ (seen.push e.born).toList)) (l := es.toList)
        have h3 : es.toList.length = es.size := by simp
        omega
      have hS1 : St β m ((b, .mapIter (some mb) since seen c0) :: R) w1 := by rcases hw1 with rfl | rfl; exact hS; exact hS.drawn
      refine k1 k y hy hg1 hlt m _ _ _ (hF.put (Nat.le_of_ble_eq_true hn) ⟨_, rfl, _, _, rfl, rfl, _, _, rfl, hek, _, _, rfl, hvf, rfl⟩) ⟨[(b, .mapIter (some mb) since (seen.push e.born) clock)], R, rfl, ⟨mb, es, clock, since, seen, clock, e, rfl, hm, ⟨hi.is, hi.old, hi.cl, hi.cl, ?_, ?_, ?_⟩, rfl, hee.1, hek, hvf⟩, hR⟩ (st_setB hS1 (k := 0) rfl)
      · intro e' he' k' hk'
        by_cases hkk : k' = k
        · subst hkk
          have : e' = e := inj_of_nodup hK.uniq he' hee.1 (hk'.trans hek.symm)
          subst this
          simp [GMap.upd, hy]
        · have hne : e'.born ≠ e.born := fun h => hkk (by
            have := inj_of_nodup hK.stamps he' hee.1 h
            subst this
            exact kd.inj _ _ (hk'.symm.trans hek))
          have h5 : (GMap.upd g1 k y).get k' = g1.get k' := by simp [GMap.upd, hkk]
          rw [h5, hi.part e' he' k' hk']
          have : (e'.born ∈ (seen.push e.born).toList) = (e'.born ∈ seen.toList) := by simp [hne]
          simp only [this]
      · intro k' hk'
        have hkk : k' ≠ k := fun h => by rw [h, hy] at hk'; cases hk'
        have h5 : (GMap.upd g1 k y).get k' = g1.get k' := by simp [GMap.upd, hkk]
        rw [h5]; exact hi.none k' hk'
      · rw [countP_push hK.stamps hee.1 hee.2, ← hi.size]; simp [GMap.upd, hg1]
theorem o_entry {x : Operand} {b : Nat} {k : κ} {y : α} (ho : o.op = .entry x) (hx : Has Γ x (fEq (ptr b))) : OpT P Γ [tIterC kd vf b g g1 k y] o (fTup [fEq (kd.val k), vf y]) :=
  ⟨by rw [ho]; rfl, fun β m L a w he hS hL => by
    obtain ⟨H, R, rfl, ⟨mb, es, clock, since, seen, c0, e, rfl, hm, hi, hc, hee, hek, hvf⟩, hR⟩ := hL
    have hr : w.heap[b]? = some (.mapIter (some mb) since (seen.push e.born) clock) := hS.own _ (.head _)
    obtain ⟨G, hK, _⟩ := hi.is
    have hrun := run_entry_at (P := P) w b mb since seen es clock e hr (hS.mem _ _ hm) hee hK.stamps
    have hxe : a.eval x = ptr b := he.get hx (by rw [ho]; simp [Op.operands])
    exact ⟨.tuple #[e.key, e.val], by simp [execOp, ho, hxe, Sem.run_bind, ptr, hrun, Sem.run, pure], [e.key, e.val], rfl, _, _, rfl, hek, _, _, rfl, hvf, rfl⟩⟩
end
end Go.SW
namespace Go.SW
open Go.SX
inductive OF where
  | pure (φ : Fact)
  | own (f : Value → Tk) (h : ∀ v m H, (f v).p m H → IsCell v)
def OF.tk : OF → Value → Tk
  | .pure φ, v => ⟨fun m H => H = [] ∧ φ.p m v ∧ IsCell v, fun h ⟨h1, h2, h3⟩ => ⟨h1, φ.mono h h2, h3⟩⟩
  | .own f _, v => f v
theorem OF.cell {f : OF} {v : Value} {m : Mem} {H : Heap} (h : (f.tk v).p m H) : IsCell v := by
  cases f with
  | pure φ => exact h.2.2
  | own f hf => exact hf v m H h
def AllD : List OF → Mem → List Value → Heap → Prop
  | [], _, cs, H => cs = [] ∧ H = []
  | f :: fs, m, cs, H => ∃ c r H1 H2, cs = c :: r ∧ H = H1 ++ H2 ∧ (f.tk c).p m H1 ∧ AllD fs m r H2
theorem AllD.mono {m m' : Mem} (h : Mem.le m m') : ∀ {fs : List OF} {cs : List Value} {H : Heap}, AllD fs m cs H → AllD fs m' cs H
  | [], _, _, k => k
  | _ :: _, _, _, ⟨c, r, H1, H2, e1, e2, h1, h2⟩ => ⟨c, r, H1, H2, e1, e2, Tk.mono _ h h1, h2.mono h⟩
theorem AllD.length {m : Mem} : ∀ {fs : List OF} {cs : List Value} {H : Heap}, AllD fs m cs H → cs.length = fs.length
  | [], _, _, ⟨h, _⟩ => by rw [h]; rfl
  | _ :: _, _, _, ⟨c, r, H1, H2, e1, _, _, h2⟩ => by rw [e1]; simp [h2.length]
theorem AllD.cells {m : Mem} : ∀ {fs : List OF} {cs : List Value} {H : Heap}, AllD fs m cs H → ∀ c ∈ cs, IsCell c
  | [], _, _, ⟨h, _⟩ => by rw [h]; simp
  | _ :: _, _, _, ⟨c, r, H1, H2, e1, _, h1, h2⟩ => by
    rw [e1]; intro x hx
    cases hx with
    | head => exact OF.cell h1
    | tail _ hx => exact h2.cells x hx
theorem AllD.append {m : Mem} : ∀ {fs gs : List OF} {cs ds : List Value} {H K : Heap}, AllD fs m cs H → AllD gs m ds K → AllD (fs ++ gs) m (cs ++ ds) (H ++ K)
  | [], _, _, _, _, _, ⟨h, h'⟩, k => by rw [h, h']; exact k
  | _ :: _, _, _, _, _, _, ⟨c, r, H1, H2, e1, e2, h1, h2⟩, k => ⟨c, r ++ _, H1, H2 ++ _, by rw [e1]; rfl, by rw [e2, List.append_assoc], h1, h2.append k⟩
theorem AllD.at {m : Mem} : ∀ {fs : List OF} {cs : List Value} {H : Heap} {p : Nat} {f : OF}, AllD fs m cs H → fs[p]? = some f → ∃ c A K B, cs[p]? = some c ∧ H = A ++ (K ++ B) ∧ (f.tk c).p m K ∧
      ∀ m' f' c' K', Mem.le m m' → (f'.tk c').p m' K' → AllD (fs.set p f') m' (cs.set p c') (A ++ (K' ++ B))
  | [], _, _, p, f, _, hp => by simp at hp
  | g :: fs, _, _, 0, f, ⟨c, r, H1, H2, e1, e2, h1, h2⟩, hp => by
    have : g = f := by simpa using hp
    subst this
    exact ⟨c, [], H1, H2, by rw [e1]; rfl, by rw [e2]; rfl, h1, fun m' f' c' K' hle hk => ⟨c', r, K', H2, by rw [e1]; rfl, rfl, hk, h2.mono hle⟩⟩
  | g :: fs, _, _, p + 1, f, ⟨c, r, H1, H2, e1, e2, h1, h2⟩, hp => by
    obtain ⟨c0, A, K, B, h3, h4, h5, h6⟩ := AllD.at h2 (by simpa using hp)
    exact ⟨c0, H1 ++ A, K, B, by rw [e1]; simpa using h3, by rw [e2, h4, List.append_assoc], h5, fun m' f' c' K' hle hk => ⟨c, r.set p c', H1, A ++ (K' ++ B), by rw [e1]; rfl, by rw [List.append_assoc], Tk.mono _ hle h1, h6 m' f' c' K' hle hk⟩⟩
def tRowG (v : Value) (e sz n : Nat) (fs : List OF) : Tk := ⟨fun m H => ∃ cs H0 H1, RowL v sz e n cs H0 ∧ n ≤ 1000000000 ∧ H = H0 ++ H1 ∧ AllD fs m cs H1,
  fun h ⟨cs, H0, H1, h1, h2, h3, h4⟩ => ⟨cs, H0, H1, h1, h2, h3, h4.mono h⟩⟩
structure OTy (α : Type) where
  sz : Nat
  leafs : α → List OF
  len : ∀ x, (leafs x).length = sz
abbrev tRowD {α : Type} (v : Value) (e : Nat) (o : OTy α) (xs : List α) : Tk := tRowG v e o.sz xs.length (xs.flatMap o.leafs)
abbrev tHole {α : Type} (v : Value) (e : Nat) (o : OTy α) (xs : List α) (p : Nat) (u : Value) : Tk := tRowG v e o.sz xs.length ((xs.flatMap o.leafs).set p (.pure (fEq u)))
theorem rowG_cell {v : Value} {e sz n : Nat} {fs : List OF} (m : Mem) (H : Heap) (h : (tRowG v e sz n fs).p m H) : IsCell v := let ⟨_, _, _, h1, _⟩ := h; h1.isCell
theorem row_isCell {α : Type} {t : Ty α} {v : Value} {e : Nat} {xs : List α} (m : Mem) (H : Heap) (h : (tRow v e t xs).p m H) : IsCell v := let ⟨_, h1, _⟩ := h; h1.isCell
def oRowT {α : Type} (e : Nat) (t : Ty α) : OTy (List α) := ⟨1, fun xs => [.own (fun v => tRow v e t xs) (fun _ => row_isCell)], fun _ => rfl⟩
theorem flatD_len {α : Type} {o : OTy α} : ∀ {xs : List α}, (xs.flatMap o.leafs).length = xs.length * o.sz
  | [] => by simp
  | x :: xs => by rw [List.flatMap_cons, List.length_append, o.len, flatD_len, List.length_cons, Nat.add_mul]; omega
theorem flatD_get {α : Type} {o : OTy α} : ∀ {xs : List α} {i k : Nat} {y : α} {f : OF}, xs[i]? = some y → (o.leafs y)[k]? = some f → (xs.flatMap o.leafs)[i * o.sz + k]? = some f
  | [], i, k, y, f, h, _ => by simp at h
  | x :: xs, 0, k, y, f, h, hk => by
    have : x = y := by simpa using h
    subst this
    have hlt := (List.getElem?_eq_some_iff.1 hk).1
    rw [List.flatMap_cons, Nat.zero_mul, Nat.zero_add, List.getElem?_append_left hlt]; exact hk
  | x :: xs, i + 1, k, y, f, h, hk => by
    have e : (i + 1) * o.sz + k = (o.leafs x).length + (i * o.sz + k) := by rw [o.len, Nat.add_mul]; omega
    rw [List.flatMap_cons, e, List.getElem?_append_right (by omega), Nat.add_sub_cancel_left]
    exact flatD_get (by simpa using h) hk
theorem flatD_set {α : Type} {o : OTy α} {f : OF} {y' : α} : ∀ {xs : List α} {i k : Nat} {y : α}, xs[i]? = some y → k < o.sz → (o.leafs y).set k f = o.leafs y' → (xs.flatMap o.leafs).set (i * o.sz + k) f = (xs.set i y').flatMap o.leafs
  | [], i, k, y, h, _, _ => by simp at h
  | x :: xs, 0, k, y, h, hk, hs => by
    have : x = y := by simpa using h
    subst this
    rw [List.flatMap_cons, Nat.zero_mul, Nat.zero_add, List.set_append_left _ _ (by rw [o.len]; exact hk), hs]; rfl
  | x :: xs, i + 1, k, y, h, hk, hs => by
    have e : (i + 1) * o.sz + k = (o.leafs x).length + (i * o.sz + k) := by rw [o.len, Nat.add_mul]; omega
    rw [List.flatMap_cons, e, List.set_append_right _ _ (by omega), Nat.add_sub_cancel_left, flatD_set (by simpa using h) hk hs]; rfl
section
variable {P : Program} {β : Base} {n : Nat} {ds : List Deferred} {Γ : Ctx} {Δ R : List Tk} {r : Option Nat} {Q Q' : Exit → Act → World → Prop} {F : Act → World → Prop} {ops : Array Oper} {o : Oper} {rest : List Oper}
theorem front_rowG {m : Mem} {v : Value} {e sz k : Nat} {fs : List OF} {L : Heap} (h : Toks (tRowG v e sz k fs :: Δ) m L) : ∃ cs H0 H1 R, L = H0 ++ (H1 ++ R) ∧ RowL v sz e k cs H0 ∧ k ≤ 1000000000 ∧ AllD fs m cs H1 ∧ Toks Δ m R := by
  obtain ⟨H, R, rfl, ⟨cs, H0, H1, h1, h2, rfl, h4⟩, hR⟩ := h
  exact ⟨cs, H0, H1, R, by rw [List.append_assoc], h1, h2, h4, hR⟩
theorem T_openG {v : Value} {e sz k p : Nat} {fs : List OF} {f : Value → Tk} {hf : ∀ v m H, (f v).p m H → IsCell v} (hp : fs[p]? = some (.own f hf)) (h : ∀ u, T β n ds Γ (f u :: tRowG v e sz k (fs.set p (.pure (fEq u))) :: Δ) F) :
    T β n ds Γ (tRowG v e sz k fs :: Δ) F := fun m L a w x y z => by
  obtain ⟨cs, H0, H1, R, rfl, h1, h2, h3, h4⟩ := front_rowG y
  obtain ⟨c, A, K, B, h5, rfl, h6, h7⟩ := h3.at hp
  have h8 := h7 m (.pure (fEq c)) c [] (Mem.le_refl _) ⟨rfl, rfl, hf c m K h6⟩
  rw [set_self h5] at h8
  have hperm : (H0 ++ ((A ++ (K ++ B)) ++ R)).Perm (K ++ ((H0 ++ (A ++ ([] ++ B))) ++ R)) := by
    simp only [List.nil_append, ← List.append_assoc]
    refine List.Perm.append_right _ (List.Perm.append_right _ ?_)
    simp only [List.append_assoc]
    rw [← List.append_assoc H0 A K]
    exact List.perm_append_comm.trans (by simp)
  exact h c m _ a w x ⟨K, _, rfl, h6, _, R, rfl, ⟨cs, H0, _, h1, h2, rfl, h8⟩, h4⟩ (z.perm hperm)
theorem T_closeG {v u : Value} {e sz k p : Nat} {fs : List OF} {f : Value → Tk} {hf : ∀ v m H, (f v).p m H → IsCell v} (hp : fs[p]? = some (.pure (fEq u))) (h : T β n ds Γ (tRowG v e sz k (fs.set p (.own f hf)) :: Δ) F) :
    T β n ds Γ (f u :: tRowG v e sz k fs :: Δ) F := fun m L a w x y z => by
  obtain ⟨K, L', rfl, hK, y⟩ := y
  obtain ⟨cs, H0, H1, R, rfl, h1, h2, h3, h4⟩ := front_rowG y
  obtain ⟨c, A, K0, B, h5, rfl, ⟨rfl, hcu, _⟩, h7⟩ := h3.at hp
  have hcu : c = u := hcu
  subst hcu
  have h8 := h7 m (.own f hf) c K (Mem.le_refl _) hK
  rw [set_self h5] at h8
  have hperm : (K ++ (H0 ++ ((A ++ ([] ++ B)) ++ R))).Perm ((H0 ++ (A ++ (K ++ B))) ++ R) := by
    simp only [List.nil_append, ← List.append_assoc]
    refine List.Perm.append_right _ (List.Perm.append_right _ ?_)
    simp only [List.append_assoc]
    rw [← List.append_assoc H0 A K]
    exact List.perm_append_comm.trans (by simp)
  exact h m _ a w x ⟨_, R, rfl, ⟨cs, H0, _, h1, h2, rfl, h8⟩, h4⟩ (z.perm hperm)
theorem T_openD {α : Type} {o : OTy α} {v : Value} {e i k : Nat} {xs : List α} {y : α} {f : Value → Tk} {hf : ∀ v m H, (f v).p m H → IsCell v} (hy : xs[i]? = some y) (hk : (o.leafs y)[k]? = some (.own f hf))
    (h : ∀ u, T β n ds Γ (f u :: tHole v e o xs (i * o.sz + k) u :: Δ) F) : T β n ds Γ (tRowD v e o xs :: Δ) F := T_openG (flatD_get hy hk) h
theorem T_closeD {α : Type} {o : OTy α} {v u : Value} {e i k : Nat} {xs : List α} {y y' : α} {f : Value → Tk} {hf : ∀ v m H, (f v).p m H → IsCell v} (hy : xs[i]? = some y) (hk : Nat.ble (k + 1) o.sz = true) (hs : (o.leafs y).set k (.own f hf) = o.leafs y')
    (h : T β n ds Γ (tRowD v e o (xs.set i y') :: Δ) F) : T β n ds Γ (f u :: tHole v e o xs (i * o.sz + k) u :: Δ) F := by
  have hk := Nat.le_of_ble_eq_true hk
  have hlt := (List.getElem?_eq_some_iff.1 hy).1
  have hlen : i * o.sz + k < (xs.flatMap o.leafs).length := by
    rw [flatD_len]
    have : (i + 1) * o.sz ≤ xs.length * o.sz := Nat.mul_le_mul_right _ hlt
    rw [Nat.add_mul] at this; omega
  refine T_closeG (p := i * o.sz + k) (hf := hf) (by rw [List.getElem?_set, if_pos rfl, if_pos hlen]) ?_
  rw [List.set_set, flatD_set hy hk hs, ← List.length_set (i := i) (a := y')]
  exact h
theorem all_pure {m : Mem} : ∀ {φs : List Fact} {cs : List Value}, All2 φs m cs → (∀ φ ∈ φs, Leaf φ) → AllD (φs.map .pure) m cs []
  | [], _, h, _ => ⟨h, rfl⟩
  | φ :: φs, _, ⟨c, r, e, h1, h2⟩, hl => ⟨c, r, [], [], e, rfl, ⟨rfl, h1, hl φ (.head _) m c h1⟩, all_pure h2 fun ψ hψ => hl ψ (.tail _ hψ)⟩
theorem T_toG {α : Type} {t : Ty α} {v : Value} {e : Nat} {xs : List α} (h : T β n ds Γ (tRowG v e t.sz xs.length ((xs.flatMap t.leafs).map .pure) :: Δ) F) : T β n ds Γ (tRow v e t xs :: Δ) F := fun m L a w x ⟨H, R, e, ⟨cs, h1, h2, h3⟩, hR⟩ z =>
  h m L a w x ⟨H, R, e, ⟨cs, H, [], h1, h2, by simp, all_pure h3 flat_leaf⟩, hR⟩ z
abbrev LF := { φ : Fact // Leaf φ }
def pad : Nat → List LF → List Fact
  | 0, _ => []
  | k + 1, [] => fCell :: pad k []
  | k + 1, a :: l => a.1 :: pad k l
theorem pad_len : ∀ (k : Nat) (l : List LF), (pad k l).length = k
  | 0, _ => rfl
  | k + 1, [] => by simp [pad, pad_len k []]
  | k + 1, a :: l => by simp [pad, pad_len k l]
theorem pad_leaf : ∀ (k : Nat) (l : List LF), ∀ φ ∈ pad k l, Leaf φ
  | 0, _, φ, h => by cases h
  | k + 1, [], φ, h => by
    cases h with
    | head => exact leaf_cell
    | tail _ h => exact pad_leaf k [] φ h
  | k + 1, a :: l, φ, h => by
    cases h with
    | head => exact a.2
    | tail _ h => exact pad_leaf k l φ h
def tF (k : Nat) : Ty (List LF) := ⟨k, pad k, pad_len k, pad_leaf k⟩
theorem T_asD {α : Type} {o : OTy α} {v : Value} {e sz k : Nat} {fs : List OF} {xs : List α} (hs : o.sz = sz) (hn : xs.length = k) (hf : fs = xs.flatMap o.leafs) (h : T β n ds Γ (tRowD v e o xs :: Δ) F) : T β n ds Γ (tRowG v e sz k fs :: Δ) F := by
  subst hs hn hf; exact h
theorem T_nilRowD {α : Type} (o : OTy α) (e : Nat) (h : T β n ds Γ (tRowD (.slice none 0 0) e o [] :: Δ) F) : T β n ds Γ Δ F := fun m L a w hF hL hS =>
  h m L a w hF ⟨[], L, rfl, ⟨[], [], [], by simpa using RowL.nil (es := o.sz) (T := e), by simp, rfl, rfl, rfl⟩, hL⟩ hS
theorem n_makeE {α : Type} {t : Ty α} {z : α} {zs : List α} {T e by' : Nat} {x : Operand} {kd : IntKind} {k : Int} {zv : Value} (ho : o.op = .makeSlice T x x) (hx : Has Γ x (fInt kd k)) (hT : ElT P T e t.sz by') (hb : Nat.ble by' 1000 = true) (hz : SX.Zero P e zv) (hzz : EntL (zv.cells.toList.map fEq) (t.leafs z)) (h : mk z k = some zs) :
    OpN P Γ o (fun b => .slice (some ⟨b, 0, none⟩) zs.length zs.length) (fun b => tRow (.slice (some ⟨b, 0, none⟩) zs.length zs.length) e t zs) :=
  ⟨by rw [ho]; rfl, fun β m a w he _ => by
    obtain ⟨ht, i, z', hi, h1, h2, hz', hzs⟩ := hT.spell
    have hb := Nat.le_of_ble_eq_true hb
    have : z' = zv := by
      unfold SX.Zero zeroB at hz
      rw [hi] at hz
      simp only [Option.bind_some] at hz
      rw [hz'] at hz; exact Option.some.inj hz
    subst this
    unfold mk at h
    split at h
    · rename_i hk
      cases h
      obtain ⟨j, rfl⟩ : ∃ j : Nat, k = (j : Int) := ⟨k.toNat, by omega⟩
      have hj : j ≤ 1000000000 := by omega
      have hx : a.eval x = _ := he.get hx (by rw [ho]; simp [Op.operands])
      have hr := run_make (P := P) w T e i z' ht hi hz' kd kd j j (by omega) (by omega) (by
        rw [h2]
        have : by' * j ≤ 1000 * 1000000000 := Nat.mul_le_mul hb hj
        have h5 : ((by' * j : Nat) : Int) ≤ 1000000000000 := by omega
        rw [Int.natCast_mul] at h5; omega) (by omega)
      simp only [Int.toNat_natCast] at hr ⊢
      rw [h1] at hr
      refine ⟨.cells (madeCells z'.cells (j * t.sz)) e, ?_, ?_⟩
      · simp [execOp, ho, hx, Sem.run_bind, hr, Sem.run, pure]
      · have hmade := all_made (m := m) (hzz.all (all_eq z'.cells.toList)) j
        rw [← flat_rep] at hmade
        have hzl : z'.cells.toList.length = t.sz := by simpa using hzs
        rw [hzl] at hmade
        simp only [Array.toArray_toList] at hmade
        have hl := hmade.length
        rw [flat_len] at hl
        refine ⟨_, ⟨hl, .inr ⟨_, _, j, by simp, rfl, by simp [size_madeCells], by simp, by rw [List.take_length]⟩⟩, by simpa using hj, hmade⟩
    · cases h⟩
theorem all_nilD {m : Mem} {fs : List OF} {c : Value} (h : ∀ f ∈ fs, (f.tk c).p m []) : AllD fs m (List.replicate fs.length c) [] := by
  induction fs with
  | nil => exact ⟨rfl, rfl⟩
  | cons f fs ih => exact ⟨c, _, [], [], rfl, rfl, h f (.head _), ih fun g hg => h g (.tail _ hg)⟩
theorem all_same {m : Mem} {c : Value} : ∀ {k : Nat} {cs : List Value}, All2 (List.replicate k (fEq c)) m cs → cs = List.replicate k c
  | 0, _, h => h
  | k + 1, _, ⟨d, r, e, h1, h2⟩ => by
    have h1 : d = c := h1
    rw [e, h1, all_same h2]; rfl
theorem rep_flat {γ : Type} {c : γ} : ∀ k : Nat, (List.replicate k [c]).flatten = List.replicate k c
  | 0 => rfl
  | k + 1 => by rw [List.replicate_succ, List.flatten_cons, rep_flat k, List.replicate_succ]; rfl
theorem T_nilsD {α : Type} {o : OTy (List α)} {v : Value} {e k : Nat} {rs : List (List LF)} (hr : rs = List.replicate k [⟨fEq (.slice none 0 0), leaf_eq trivial⟩]) (hs : o.sz = 1) (ho : ∀ f ∈ o.leafs [], ∀ m, (f.tk (.slice none 0 0)).p m [])
    (h : T β n ds Γ (tRowD v e o (List.replicate k []) :: Δ) F) : T β n ds Γ (tRow v e (tF 1) rs :: Δ) F := fun m L a w x ⟨H, R, e', ⟨cs, h1, h2, h3⟩, hR⟩ z => by
  subst hr
  refine h m L a w x ⟨H, R, e', ⟨cs, H, [], ?_, by simpa using h2, by simp, ?_⟩, hR⟩ z
  · have h1 : RowL v 1 e (List.replicate k ([⟨fEq (.slice none 0 0), leaf_eq trivial⟩] : List LF)).length cs H := h1
    rw [List.length_replicate] at h1
    rw [hs, List.length_replicate]; exact h1
  · have e1 : (List.replicate k ([⟨fEq (.slice none 0 0), leaf_eq trivial⟩] : List LF)).flatMap (tF 1).leafs = List.replicate k (fEq (.slice none 0 0)) := by
      rw [flat_rep]
      have : (tF 1).leafs [⟨fEq (.slice none 0 0), leaf_eq trivial⟩] = [fEq (.slice none 0 0)] := rfl
      rw [this]
      exact rep_flat k
    rw [e1] at h3
    have h4 := all_same h3
    subst h4
    have e2 : ((List.replicate k ([] : List α)).flatMap o.leafs).length = k := by rw [flatD_len, hs]; simp
    have h5 := all_nilD (m := m) (fs := (List.replicate k ([] : List α)).flatMap o.leafs) (c := .slice none 0 0) fun f hf => by
      obtain ⟨y, hy, hfy⟩ := List.mem_flatMap.1 hf
      rw [(List.mem_replicate.1 hy).2] at hfy
      exact ho f hfy m
    rw [e2] at h5
    exact h5
theorem rowG_cells {m : Mem} {L : Heap} {w : World} {v : Value} {e sz k : Nat} {fs : List OF} (hL : Toks [tRowG v e sz k fs] m L) (hS : St β m L w) :
    ∃ cs H1, AllD fs m cs H1 ∧ k ≤ 1000000000 ∧ ((v = .slice none 0 0 ∧ k = 0) ∨ ∃ b cap, v = .slice (some ⟨b, 0, none⟩) k cap ∧ ∀ (j : Nat) c, cs[j]? = some c → w.cell? ⟨b, j, none⟩ = some c) := by
  obtain ⟨cs, H0, H1, R, rfl, ⟨h0, h1⟩, hb, h2, h3⟩ := front_rowG hL
  refine ⟨cs, H1, h2, hb, ?_⟩
  rcases h1 with ⟨rfl, h4, rfl⟩ | ⟨b, c, cap, rfl, rfl, h5, h6, h7⟩
  · exact .inl ⟨rfl, h4⟩
  · refine .inr ⟨b, cap, rfl, fun j u hu => hS.own_cell (k := 0) (b := b) (c := c) (T := e) (fz := (0, 0)) rfl rfl rfl ?_⟩
    have := take_get h7 hu
    simpa using this
theorem o_lenG {T e e' sz k : Nat} {x : Operand} {v : Value} {fs : List OF} (ho : o.op = .call { callee := .builtin .len, args := #[x], argTypes := #[T] }) (hx : Has Γ x (fEq v)) (hT : Under P T (.slice e)) : OpT P Γ [tRowG v e' sz k fs] o (fInt .i64 k) :=
  ⟨by rw [ho]; rfl, fun β m L a w hev hS hL => by
    have h1 : a.eval x = v := hev.get hx (by rw [ho]; simp [Op.operands, Call.operands])
    obtain ⟨cs, _, _, _, h3⟩ := rowG_cells hL hS
    rcases h3 with ⟨rfl, rfl⟩ | ⟨b, cap, rfl, _⟩
    · exact ⟨_, by simp [execOp, ho, resolve, invoke, builtin, Builtin.len_, h1, Sem.run_bind, run_underlying hT, Sem.run, pure, goInt], rfl⟩
    · exact ⟨_, by simp [execOp, ho, resolve, invoke, builtin, Builtin.len_, h1, Sem.run_bind, run_underlying hT, Sem.run, pure, goInt], rfl⟩⟩
theorem o_indexG {α : Type} {T e sz : Nat} {x ix : Operand} {v : Value} {xs : List α} {fs : List OF} {kd : IntKind} {i : Int} {y : α} (ho : o.op = .indexAddr T x ix) (hx : Has Γ x (fEq v)) (hi : Has Γ ix (fInt kd i)) (hT : ElemN P T sz) (hy : idx xs i = some y) :
    OpT P Γ [tRowG v e sz xs.length fs] o (fRowAt v sz i.toNat 0) :=
  ⟨by rw [ho]; rfl, fun β m L a w hev hS hL => by
    have h1 : a.eval x = v := hev.get hx (by rw [ho]; simp [Op.operands])
    have h2 : a.eval ix = _ := hev.get hi (by rw [ho]; simp [Op.operands])
    obtain ⟨j, rfl, hj, hlt⟩ := idx_some hy
    obtain ⟨cs, _, _, _, h3⟩ := rowG_cells hL hS
    rcases h3 with ⟨_, h0⟩ | ⟨b, cap, rfl, _⟩
    · omega
    · exact ⟨.pointer (some ⟨b, j * sz, none⟩), by simp [execOp, ho, h1, h2, run_indexAt hT hlt, Sem.run_bind, Sem.run, pure], b, _, cap, rfl, by simp⟩⟩
theorem o_loadG {T e sz es i j k : Nat} {x : Operand} {v : Value} {fs : List OF} {φ : Fact} (ho : o.op = .load T x) (hx : Has Γ x (fRowAt v es i j)) (hT : Scal P T) (hp : fs[i * es + j]? = some (.pure φ)) : OpT P Γ [tRowG v e sz k fs] o φ :=
  ⟨by rw [ho]; rfl, fun β m L a w hev hS hL => by
    obtain ⟨b, len, cap, rfl, h1⟩ := hev.get hx (by rw [ho]; simp [Op.operands])
    obtain ⟨cs, H1, h2, _, h3⟩ := rowG_cells hL hS
    obtain ⟨c, A, K, B, h4, _, h5, _⟩ := h2.at hp
    rcases h3 with ⟨h, _⟩ | ⟨b', cap', h6, h7⟩
    · cases h
    · cases h6
      exact ⟨c, by simp [execOp, ho, h1, Sem.run_bind, Sem.run, pure, run_loadAt1 hT (h7 _ c h4)], h5.2.1⟩⟩
theorem o_loadH {α : Type} {q : OTy α} {T e es i k : Nat} {x : Operand} {v u : Value} {xs : List α} {y : α} {f : OF} (ho : o.op = .load T x) (hes : es = q.sz) (hx : Has Γ x (fRowAt v es i k)) (hT : Scal P T) (hy : xs[i]? = some y) (hk : (q.leafs y)[k]? = some f) : OpT P Γ [tHole v e q xs (i * q.sz + k) u] o (fEq u) := by
  subst hes
  refine o_loadG ho hx hT ?_
  have := (List.getElem?_eq_some_iff.1 (flatD_get hy hk)).1
  rw [List.getElem?_set, if_pos rfl, if_pos this]
def tUnit (k : Nat) : Ty Unit := ⟨k, fun _ => List.replicate k fCell, fun _ => by simp, fun _ φ h => by rw [(List.mem_replicate.1 h).2]; exact leaf_cell⟩
theorem set_splice {α : Type} {c : List α} {i : Nat} {v : α} (h : i < c.length) : c.set i v = c.take i ++ [v] ++ c.drop (i + 1) := by
  rw [List.set_eq_take_append_cons_drop, if_pos h]; simp
theorem T_storeG {ty e sz es i j k : Nat} {x y : Operand} {v : Value} {fs : List OF} {f0 : OF} {φ : Fact} (hw : WantsT ops Γ o) (ho : o.op = .store ty x y) (hd : o.dst = none) (hx : Has Γ x (fRowAt v es i j)) (hy : Has Γ y φ) (hl : Leaf φ)
    (hT : SizeN P ty 1) (hp : fs[i * es + j]? = some f0) (kk : T β n ds Γ (tRowG v e sz k (fs.set (i * es + j) (.pure φ)) :: Δ) (wpListIn (fw r) 0 P ops Q rest)) : T β n ds Γ (tRowG v e sz k fs :: Δ) (wpListIn (fw r) 0 P ops Q (o :: rest)) := fun m L a w hF hL hS => by
  obtain ⟨cs, H0, H1, R, rfl, h1, hB, h2, h4⟩ := front_rowG hL
  obtain ⟨b, len, cap, hv, hxe⟩ := hF.has hx
  have hye := hF.has hy
  obtain ⟨c, A, K, B, h5, rfl, h6, h7⟩ := h2.at hp
  have hlt := (List.getElem?_eq_some_iff.1 h5).1
  have hz : (tUnit sz).sz = sz := rfl
  have hlen : (List.replicate k ()).length = k := by simp
  have h1' : RowL v (tUnit sz).sz e (List.replicate k ()).length cs H0 := by rw [hlen]; exact h1
  obtain ⟨w', H', hr, hS', hR'⟩ := store_row (P := P) (t := tUnit sz) (xs := List.replicate k ()) (vs := [a.eval y]) (off := i * es + j) hS h1' hv (by simp; omega) (fun u hu => by simp at hu; subst hu; exact hl m _ hye)
  have hnd : isDefer o.op = false := by rw [ho]; rfl
  have h3 : o.semAt (fw r).round a.eval = execOp a.eval o := Oper.semAt_eq _ _ _ fun c hc => by rw [hc] at hnd; cases hnd
  simp only [wpListIn, hw.wanted hF, if_true]
  refine ⟨fun _ _ => trivial, ?_⟩
  unfold SizeN sizeB at hT
  simp only [Option.map_eq_some_iff] at hT
  obtain ⟨inf, hi, h8⟩ := hT
  have eex : (execOp a.eval o).run P w = .ok .skip w' := by
    simp [execOp, ho, hxe, Instr.storeAt, Instr.sureAddr, storeVar, run_sizeOf hi, h8, (hl m _ hye).cells, hr, Sem.run_bind, Sem.run, pure]
  rw [h3, eex, Oper.uponIn_skip, hd]
  have hR' : RowL v sz e k (cs.take (i * es + j) ++ [a.eval y] ++ cs.drop (i * es + j + 1)) H' := by rw [hlen] at hR'; exact hR'
  have h9 := h7 m (.pure φ) (a.eval y) [] (Mem.le_refl _) ⟨rfl, hye, hl m _ hye⟩
  rw [set_splice hlt] at h9
  have hS2 : St β m (H' ++ ((A ++ ([] ++ B)) ++ R)) w' := hS'.drop (by
    refine List.Sublist.append (List.Sublist.refl _) (List.Sublist.append ?_ (List.Sublist.refl _))
    exact List.Sublist.append (List.Sublist.refl _) (by simp))
  refine kk m _ _ _ hF ⟨H' ++ (A ++ ([] ++ B)), R, by simp, ⟨_, H', _, by simpa using hR', hB, rfl, by simpa using h9⟩, h4⟩ hS2
theorem T_storePD {α : Type} {q : OTy α} {ty e es i k : Nat} {x y : Operand} {v u : Value} {xs : List α} {z z' : α} {f0 : OF} {f : Value → Tk} {hf : ∀ v m H, (f v).p m H → IsCell v} (hw : WantsT ops Γ o) (ho : o.op = .store ty x y) (hd : o.dst = none) (hes : es = q.sz) (hx : Has Γ x (fRowAt v es i k)) (hy : Has Γ y (fEq u)) (hu : IsCell u)
    (hT : SizeN P ty 1) (hz : xs[i]? = some z) (hp : (q.leafs z)[k]? = some f0) (hs : (q.leafs z).set k (.own f hf) = q.leafs z') (kk : T β n ds Γ (tRowD v e q (xs.set i z') :: Δ) (wpListIn (fw r) 0 P ops Q rest)) : T β n ds Γ (f u :: tRowD v e q xs :: Δ) (wpListIn (fw r) 0 P ops Q (o :: rest)) := by
  subst hes
  have hk : k < q.sz := by rw [← q.len z]; exact (List.getElem?_eq_some_iff.1 hp).1
  refine T_perm (List.Perm.swap _ _ _) (T_storeG hw ho hd hx hy (leaf_eq hu) hT (flatD_get hz hp) ?_)
  refine T_perm (List.Perm.swap _ _ _) (T_closeD (f := f) (hf := hf) hz (Nat.ble_eq_true_of_le hk) hs kk)
theorem T_appendG {ty e e' by' d sz k k' : Nat} {s x : Operand} {v u : Value} {fs gs : List OF} (hw : WantsT ops Γ o) (ho : o.op = .call { callee := .builtin .append, args := #[s, x], argTypes := #[ty, ty] }) (hd : o.dst = some d) (hn : Nat.ble (d + 1) n = true)
    (hs : Has Γ s (fEq v)) (hx : Has Γ x (fEq u)) (hT : ElT P ty e sz by') (hby : Nat.ble by' 1000 = true) (hz : k + k' ≤ 1000000000) (kk : ∀ v', T β n ds ((d, fEq v') :: Γ) (tRowG v' e sz (k + k') (fs ++ gs) :: Δ) (wpListIn (fw r) 0 P ops Q rest)) :
    T β n ds Γ (tRowG u e' sz k' gs :: tRowG v e sz k fs :: Δ) (wpListIn (fw r) 0 P ops Q (o :: rest)) := fun m L a w hF hL hS => by
  obtain ⟨ns, Hu, K, R0, rfl, g1, gB, g2, hL⟩ := front_rowG hL
  obtain ⟨cs, H, J, R, rfl, h1, hB, h2, h4⟩ := front_rowG hL
  have hnd : isDefer o.op = false := by rw [ho]; rfl
  have h3 : o.semAt (fw r).round a.eval = execOp a.eval o := Oper.semAt_eq _ _ _ fun c hc => by rw [hc] at hnd; cases hnd
  have hmul : (k + k') * by' ≤ 1000000000 * 1000 := Nat.mul_le_mul hz (Nat.le_of_ble_eq_true hby)
  have hgl : ns.length = k' * sz := g1.1
  have hsrc : ∃ src cap, u = .slice src k' cap ∧ (0 < k' → ∃ a, src = some a ∧ ∀ (j : Nat) c, ns[j]? = some c → w.cell? (a.add j) = some c) := by
    rcases g1.2 with ⟨rfl, g3, _⟩ | ⟨b, c, cap, rfl, rfl, g3, g4, g5⟩
    · exact ⟨none, 0, by rw [g3], fun h => absurd h (by omega)⟩
    · exact ⟨_, cap, rfl, fun _ => ⟨_, rfl, fun j c' hc => by rw [add_zero']; exact row_cell (b := b) (c := c) (T := e') hS (by simp) (take_get g5 hc)⟩⟩
  obtain ⟨src, cap, hu, hsrc⟩ := hsrc
  have hS1 : St β m ((Hu ++ K) ++ (H ++ (J ++ R))) w := by simpa [List.append_assoc] using hS
  obtain ⟨v', R', w', h6, h7, h8⟩ := row_append (P := P) (ty := o.type) (capx := cap) (xs := ns) (src := src) hS1 h1 hT hgl (g2.cells) hsrc (by omega) (by omega)
  simp only [wpListIn, hw.wanted hF, if_true]
  refine ⟨fun _ _ => trivial, ?_⟩
  have hse : a.eval s = v := hF.has hs
  have hxe : a.eval x = u := hF.has hx
  have e1 : (execOp a.eval o).run P w = .ok (.value v') w' := by
    simp [execOp, ho, resolve, invoke, builtin, hse, hxe, hu, Sem.run_bind, h6, Sem.run, pure]
  rw [h3, e1, Oper.uponIn_value, hd]
  have hS2 : St β m ((R' ++ (J ++ K)) ++ R) w' := by
    have h9 := h8.drop (L' := K ++ (R' ++ (J ++ R))) (by rw [List.append_assoc]; exact List.sublist_append_right _ _)
    refine h9.perm ?_
    have p1 : (K ++ (R' ++ (J ++ R))).Perm ((R' ++ (J ++ R)) ++ K) := List.perm_append_comm
    refine p1.trans ?_
    simp only [List.append_assoc]
    exact List.Perm.append_left _ (List.Perm.append_left _ List.perm_append_comm)
  exact kk v' m _ _ _ (hF.put (Nat.le_of_ble_eq_true hn) rfl) ⟨_, R, rfl, ⟨cs ++ ns, R', J ++ K, h7, hz, rfl, h2.append g2⟩, h4⟩ hS2
theorem T_appendD {α : Type} {q : OTy α} {ty e e' by' d : Nat} {s x : Operand} {v u : Value} {xs ys zs : List α} (hw : WantsT ops Γ o) (ho : o.op = .call { callee := .builtin .append, args := #[s, x], argTypes := #[ty, ty] }) (hd : o.dst = some d) (hn : Nat.ble (d + 1) n = true)
    (hs : Has Γ s (fEq v)) (hx : Has Γ x (fEq u)) (hT : ElT P ty e q.sz by') (hby : Nat.ble by' 1000 = true) (hz : room (xs ++ ys) = some zs) (kk : ∀ v', T β n ds ((d, fEq v') :: Γ) (tRowD v' e q zs :: Δ) (wpListIn (fw r) 0 P ops Q rest)) :
    T β n ds Γ (tRowD u e' q ys :: tRowD v e q xs :: Δ) (wpListIn (fw r) 0 P ops Q (o :: rest)) := by
  obtain ⟨rfl, hB⟩ := room_some hz
  rw [List.length_append] at hB
  refine T_appendG hw ho hd hn hs hx hT hby hB fun v' => ?_
  have := kk v'
  unfold tRowD at this
  rw [List.length_append, List.flatMap_append] at this
  exact this
def FrzL : List OF → List Fact → Prop
  | [], φs => φs = []
  | f :: fs, φs => ∃ φ r, φs = φ :: r ∧ (∀ v, Frz (f.tk v) φ v) ∧ FrzL fs r
theorem FrzL.nil : FrzL [] [] := by simp [FrzL]
theorem FrzL.cons {f : OF} {φ : Fact} {fs : List OF} {φs : List Fact} (h : ∀ v, Frz (f.tk v) φ v) (k : FrzL fs φs) : FrzL (f :: fs) (φ :: φs) := ⟨φ, φs, by simp, h, k⟩
theorem frz_pure {φ : Fact} (v : Value) : Frz ((OF.pure φ).tk v) φ v := fun m H ⟨_, h, _⟩ m' hle _ => φ.mono hle h
theorem FrzL.append : ∀ {fs gs : List OF} {φs ψs : List Fact}, FrzL fs φs → FrzL gs ψs → FrzL (fs ++ gs) (φs ++ ψs)
  | [], _, _, _, h, k => by cases h; exact k
  | _ :: _, _, _, _, ⟨φ, r, e, h1, h2⟩, k => ⟨φ, r ++ _, by rw [e]; rfl, h1, h2.append k⟩
theorem FrzL.all {m m' : Mem} (hle : Mem.le m m') : ∀ {fs : List OF} {φs : List Fact} {cs : List Value} {H : Heap}, FrzL fs φs → AllD fs m cs H → (∀ x ∈ H, m' x.1 = some x.2) → All2 φs m' cs
  | [], _, _, _, h, ⟨k, _⟩, _ => by cases h; rw [k]; rfl
  | _ :: _, _, _, _, ⟨φ, r, e, h1, h2⟩, ⟨c, s, H1, H2, e1, e2, h3, h4⟩, hm => by
    subst e e1 e2
    exact ⟨c, s, rfl, h1 c m H1 h3 m' hle (fun x hx => hm x (List.mem_append_left _ hx)), FrzL.all hle h2 h4 fun x hx => hm x (List.mem_append_right _ hx)⟩
theorem FrzL.flat {α : Type} {f : α → List OF} {g : α → List Fact} (h : ∀ x, FrzL (f x) (g x)) : ∀ xs : List α, FrzL (xs.flatMap f) (xs.flatMap g)
  | [] => FrzL.nil
  | x :: xs => by rw [List.flatMap_cons, List.flatMap_cons]; exact (h x).append (FrzL.flat h xs)
theorem frz_rowD {α : Type} {q : OTy α} {t : Ty α} {v : Value} {e : Nat} {xs : List α} (hs : q.sz = t.sz) (h : ∀ x, FrzL (q.leafs x) (t.leafs x)) : Frz (tRowD v e q xs) (fSl t xs) v := fun m H ⟨cs, H0, H1, h1, h2, hH, h4⟩ m' hle hm => by
  subst hH
  have hall : FrzL (xs.flatMap q.leafs) (xs.flatMap t.leafs) := FrzL.flat h xs
  have h5 := hall.all hle h4 fun x hx => hm x (List.mem_append_right _ hx)
  rw [hs] at h1
  exact frz_row (t := t) (v := v) (e := e) (xs := xs) m' H0 ⟨cs, h1, h2, h5⟩ m' (Mem.le_refl _) fun x hx => hm x (List.mem_append_left _ hx)
def IndF (φ : Fact) : Prop := ∀ m m' v, φ.p m v → φ.p m' v
def IndK (τ : Tk) : Prop := ∀ m m' H, τ.p m H → τ.p m' H
def IndL (fs : List OF) : Prop := ∀ f ∈ fs, ∀ v, IndK (f.tk v)
theorem indF_eq {v : Value} : IndF (fEq v) := fun _ _ _ h => h
theorem ind_pure {φ : Fact} (h : IndF φ) (v : Value) : IndK ((OF.pure φ).tk v) := fun m m' H ⟨h1, h2, h3⟩ => ⟨h1, h m m' v h2, h3⟩
theorem IndL.nil : IndL [] := fun _ h => by cases h
theorem IndL.cons {f : OF} {fs : List OF} (h : ∀ v, IndK (f.tk v)) (k : IndL fs) : IndL (f :: fs) := fun g hg => by
  cases hg with
  | head => exact h
  | tail _ hg => exact k g hg
theorem AllD.ind {m m' : Mem} : ∀ {fs : List OF} {cs : List Value} {H : Heap}, IndL fs → AllD fs m cs H → AllD fs m' cs H
  | [], _, _, _, k => k
  | _ :: _, _, _, h, ⟨c, r, H1, H2, e1, e2, h1, h2⟩ => ⟨c, r, H1, H2, e1, e2, h _ (.head _) c m m' H1 h1, h2.ind fun g hg => h g (.tail _ hg)⟩
theorem ind_rowG {v : Value} {e sz k : Nat} {fs : List OF} (h : IndL fs) : IndK (tRowG v e sz k fs) := fun m m' H ⟨cs, H0, H1, h1, h2, h3, h4⟩ => ⟨cs, H0, H1, h1, h2, h3, h4.ind h⟩
theorem ind_rowD {α : Type} {q : OTy α} {v : Value} {e : Nat} {xs : List α} (h : ∀ x, IndL (q.leafs x)) : IndK (tRowD v e q xs) := ind_rowG fun f hf => by
  obtain ⟨y, _, hfy⟩ := List.mem_flatMap.1 hf
  exact h y f hfy
theorem All2.ind {m m' : Mem} : ∀ {φs : List Fact} {cs : List Value}, (∀ φ ∈ φs, IndF φ) → All2 φs m cs → All2 φs m' cs
  | [], _, _, k => k
  | φ :: _, _, h, ⟨c, r, e, h1, h2⟩ => ⟨c, r, e, h φ (.head _) m m' c h1, All2.ind (fun ψ hψ => h ψ (.tail _ hψ)) h2⟩
theorem ind_row {α : Type} {t : Ty α} {v : Value} {e : Nat} {xs : List α} (h : ∀ x, ∀ φ ∈ t.leafs x, IndF φ) : IndK (tRow v e t xs) := fun m m' H ⟨cs, h1, h2, h3⟩ => ⟨cs, h1, h2, h3.ind fun φ hφ => by
  obtain ⟨y, _, hy⟩ := List.mem_flatMap.1 hφ
  exact h y φ hy⟩
theorem ind_tInt {k : IntKind} : ∀ x, ∀ φ ∈ (tInt k).leafs x, IndF φ := fun x φ h => by
  have : φ = fInt k x := by simpa [tInt] using h
  subst this; exact indF_eq
end
end Go.SW
namespace Go.SW
open Go.SX
def insH (H : Heap) (m : Mem) : Mem := fun b => match H.lookup b with
  | some o => some o
  | none => m b
open Classical in
noncomputable def rmH (H : Heap) (m : Mem) : Mem := fun b => if b ∈ H.map Prod.fst then none else m b
theorem lookup_none : ∀ {H : Heap} {b : Nat}, b ∉ H.map Prod.fst → H.lookup b = none
  | [], _, _ => rfl
  | (c, o) :: H, b, h => by
    simp only [List.map_cons, List.mem_cons, not_or] at h
    rw [List.lookup_cons]
    have : (b == c) = false := by simpa using h.1
    rw [this]; exact lookup_none h.2
theorem lookup_mem : ∀ {H : Heap} {b : Nat} {o : Obj}, H.lookup b = some o → (b, o) ∈ H
  | [], _, _, h => by cases h
  | (c, o') :: H, b, o, h => by
    rw [List.lookup_cons] at h
    cases hb : (b == c) with
    | true => rw [hb] at h; cases h; have := eq_of_beq hb; subst this; exact .head _
    | false => rw [hb] at h; exact .tail _ (lookup_mem h)
theorem lookup_of : ∀ {H : Heap} {b : Nat} {o : Obj}, (H.map Prod.fst).Nodup → (b, o) ∈ H → H.lookup b = some o
  | (c, o') :: H, b, o, hn, h => by
    rw [List.lookup_cons]
    simp only [List.map_cons, List.nodup_cons] at hn
    cases h with
    | head => simp
    | tail _ h =>
      have : b ≠ c := fun e => hn.1 (e ▸ List.mem_map_of_mem (f := Prod.fst) h)
      have : (b == c) = false := by simpa using this
      rw [this]; exact lookup_of hn.2 h
theorem insH_mem {H : Heap} {m : Mem} (hn : (H.map Prod.fst).Nodup) : ∀ x ∈ H, insH H m x.1 = some x.2 := fun x hx => by
  unfold insH; rw [lookup_of hn hx]
theorem insH_le {H : Heap} {m : Mem} (ha : ∀ x ∈ H, m x.1 = none) : Mem.le m (insH H m) := fun b o h => by
  unfold insH
  cases hl : H.lookup b with
  | none => exact h
  | some o' => have := ha _ (lookup_mem hl); simp only at this; rw [this] at h; cases h
theorem insH_ne {H : Heap} {m : Mem} {b : Nat} (h : b ∉ H.map Prod.fst) : insH H m b = m b := by unfold insH; rw [lookup_none h]
theorem rmH_ne {H : Heap} {m : Mem} {b : Nat} (h : b ∉ H.map Prod.fst) : rmH H m b = m b := by unfold rmH; rw [if_neg h]
theorem rmH_in {H : Heap} {m : Mem} {b : Nat} (h : b ∈ H.map Prod.fst) : rmH H m b = none := by unfold rmH; rw [if_pos h]
theorem thaw {P : Program} {f : FuncId} {vs : List Value} {m : Mem} {H A : Heap} {post : Mem → Heap → Ending → Prop} (hX : FnX P f vs (insH H m) A post) :
    FnX P f vs m (H ++ A) (fun m' L' e => ∃ L'', L' = H ++ L'' ∧ ∃ m'', m' = rmH H m'' ∧ post m'' L'' e) := fun w hS => by
  have hnd := hS.nodup
  rw [List.map_append] at hnd
  obtain ⟨hnH, hnA, hdis⟩ := List.nodup_append.1 hnd
  have hH : ∀ x ∈ H, m x.1 = none := fun x hx => hS.apart x (List.mem_append_left _ hx)
  have hAH : ∀ x ∈ A, x.1 ∉ H.map Prod.fst := fun x hx hin => hdis _ hin _ (List.mem_map_of_mem hx) rfl
  have hS' : St ⟨w, insH H m, A.map Prod.fst⟩ (insH H m) A w := {
    mem := fun b o h => by
      unfold insH at h
      cases hl : H.lookup b with
      | none => rw [hl] at h; exact hS.mem b o h
      | some o' => rw [hl] at h; cases h; exact hS.own _ (List.mem_append_left _ (lookup_mem hl))
    own := fun x hx => hS.own x (List.mem_append_right _ hx)
    apart := fun x hx => by rw [insH_ne (hAH x hx)]; exact hS.apart x (List.mem_append_right _ hx)
    nodup := hnA
    mle := Mem.le_refl _
    mnew := fun b h => absurd rfl h
    keys := fun x hx _ => List.mem_map_of_mem hx
    size := Nat.le_refl _
    frame := fun _ _ _ => rfl
    os := rfl
    output := rfl
    tape := rfl }
  refine (hX w hS').mono fun e w' ⟨m'', L'', h1, h2⟩ => ⟨rmH H m'', H ++ L'', ?_, L'', rfl, m'', rfl, h2⟩
  have hHm : ∀ x ∈ H, m'' x.1 = some x.2 := fun x hx => h1.mle _ _ (insH_mem hnH x hx)
  exact {
    mem := fun b o h => by
      unfold rmH at h
      split at h
      · cases h
      · exact h1.mem b o h
    own := fun x hx => by
      rcases List.mem_append.1 hx with hx | hx
      · exact h1.mem _ _ (hHm x hx)
      · exact h1.own x hx
    apart := fun x hx => by
      rcases List.mem_append.1 hx with hx | hx
      · exact rmH_in (List.mem_map_of_mem hx)
      · unfold rmH; split
        · rfl
        · exact h1.apart x hx
    nodup := by
      rw [List.map_append]
      refine List.nodup_append.2 ⟨hnH, h1.nodup, fun a ha b hb e => ?_⟩
      obtain ⟨x, hx, rfl⟩ := List.mem_map.1 ha
      obtain ⟨y, hy, rfl⟩ := List.mem_map.1 hb
      have := h1.apart y hy
      rw [← e, hHm x hx] at this; cases this
    mle := fun b o h => by
      have hb : b ∉ H.map Prod.fst := fun hin => by
        obtain ⟨x, hx, rfl⟩ := List.mem_map.1 hin
        have h : m x.1 = some o := h
        rw [hH x hx] at h; cases h
      rw [rmH_ne hb]
      exact h1.mle b o (by show insH H m b = some o; rw [insH_ne hb]; exact h)
    mnew := fun b h => by
      by_cases hb : b ∈ H.map Prod.fst
      · exact .inr (by rw [List.map_append]; exact List.mem_append_left _ hb)
      · rw [rmH_ne hb] at h
        rcases h1.mnew b (by show m'' b ≠ insH H m b; rw [insH_ne hb]; exact h) with h3 | h3
        · exact .inl h3
        · exact .inr (by rw [List.map_append]; exact List.mem_append_right _ h3)
    keys := fun x hx hlt => by
      rw [List.map_append]
      rcases List.mem_append.1 hx with hx | hx
      · exact List.mem_append_left _ (List.mem_map_of_mem hx)
      · exact List.mem_append_right _ (h1.keys x hx hlt)
    size := h1.size
    frame := fun b hb hn => h1.frame b hb fun hin => hn (by rw [List.map_append]; exact List.mem_append_right _ hin)
    os := h1.os
    output := h1.output
    tape := h1.tape }
def LendOK (Λ : List (Value × Fact)) (m : Mem) : Prop := ∀ p ∈ Λ, p.2.p m p.1
def FrzT (Δ : List Tk) (Λ : List (Value × Fact)) : Prop := ∀ m L, Toks Δ m L → ∀ m', Mem.le m m' → (∀ x ∈ L, m' x.1 = some x.2) → LendOK Λ m'
theorem FrzT.nil : FrzT [] [] := fun _ _ _ _ _ _ _ h => by cases h
theorem FrzT.cons {τ : Tk} {φ : Fact} {v : Value} {Δ : List Tk} {Λ : List (Value × Fact)} (h : Frz τ φ v) (k : FrzT Δ Λ) : FrzT (τ :: Δ) ((v, φ) :: Λ) := fun m L ⟨H, R, e, h1, h2⟩ m' hle hm p hp => by
  subst e
  cases hp with
  | head => exact h m H h1 m' hle fun x hx => hm x (List.mem_append_left _ hx)
  | tail _ hp => exact k m R h2 m' hle (fun x hx => hm x (List.mem_append_right _ hx)) p hp
def EntW (Λ : List (Value × Fact)) (ψ φ : Fact) : Prop := ∀ m u, LendOK Λ m → ψ.p m u → φ.p m u
theorem entW_of {Λ : List (Value × Fact)} {ψ φ : Fact} (h : Ent ψ φ) : EntW Λ ψ φ := fun m u _ => h m u
theorem entW_lend {Λ : List (Value × Fact)} {v : Value} {φ : Fact} (i : Nat) (h : Λ[i]? = some (v, φ)) : EntW Λ (fEq v) φ := fun m u hl hu => by
  have hu : u = v := hu
  subst hu
  exact hl _ (List.mem_of_getElem? h)
def EntWL (Λ : List (Value × Fact)) : List Fact → List Fact → Prop
  | [], φs => φs = []
  | ψ :: ψs, φs => ∃ φ r, φs = φ :: r ∧ EntW Λ ψ φ ∧ EntWL Λ ψs r
theorem EntWL.nil {Λ : List (Value × Fact)} : EntWL Λ [] [] := by simp [EntWL]
theorem EntWL.cons {Λ : List (Value × Fact)} {ψ φ : Fact} {ψs φs : List Fact} (h : EntW Λ ψ φ) (k : EntWL Λ ψs φs) : EntWL Λ (ψ :: ψs) (φ :: φs) := ⟨φ, φs, by simp, h, k⟩
theorem EntWL.all {Λ : List (Value × Fact)} {m : Mem} (hl : LendOK Λ m) : ∀ {ψs φs : List Fact} {cs : List Value}, EntWL Λ ψs φs → All2 ψs m cs → All2 φs m cs
  | [], _, _, h, k => by rw [h]; exact k
  | _ :: _, _, _, ⟨φ, r, e, h1, h2⟩, ⟨c, s, e2, h3, h4⟩ => by rw [e]; exact ⟨c, s, e2, h1 m c hl h3, EntWL.all hl h2 h4⟩
theorem entW_agg {Λ : List (Value × Fact)} {ψs φs : List Fact} (h : EntWL Λ ψs φs) : EntW Λ (fAgg ψs) (fAgg φs) := fun m u hl ⟨cs, h1, h2⟩ => ⟨cs, h1, h.all hl h2⟩
def HasW (Γ : Ctx) (Λ : List (Value × Fact)) : List Operand → List Fact → Prop
  | [], φs => φs = []
  | x :: xs, φs => ∃ φ r ψ, φs = φ :: r ∧ evT Γ x = some ψ ∧ EntW Λ ψ φ ∧ HasW Γ Λ xs r
theorem HasW.nil {Γ : Ctx} {Λ : List (Value × Fact)} : HasW Γ Λ [] [] := by simp [HasW]
theorem HasW.cons {Γ : Ctx} {Λ : List (Value × Fact)} {x : Operand} {φ ψ : Fact} {xs : List Operand} {φs : List Fact} (h : evT Γ x = some ψ) (h2 : EntW Λ ψ φ) (k : HasW Γ Λ xs φs) : HasW Γ Λ (x :: xs) (φ :: φs) := ⟨φ, φs, ψ, by simp, h, h2, k⟩
theorem HasW.all {n : Nat} {ds : List Deferred} {Γ : Ctx} {Λ : List (Value × Fact)} {m m' : Mem} {a : Act} (hF : FT n ds Γ m a) (hle : Mem.le m m') (hl : LendOK Λ m') : ∀ {xs : List Operand} {φs : List Fact}, HasW Γ Λ xs φs → All2 φs m' (xs.map a.eval)
  | [], _, h => by rw [h]; rfl
  | x :: xs, _, ⟨φ, r, ψ, e, h1, h2, h3⟩ => by rw [e]; exact ⟨_, _, rfl, h2 m' _ hl (ψ.mono hle (hF.eval h1)), HasW.all hF hle hl h3⟩
theorem Toks.ind {m m' : Mem} : ∀ {Δ : List Tk} {L : Heap}, (∀ τ ∈ Δ, IndK τ) → Toks Δ m L → Toks Δ m' L
  | [], _, _, h => h
  | τ :: Δ, _, h, ⟨H, R, e, h1, h2⟩ => ⟨H, R, e, h τ (.head _) m m' H h1, Toks.ind (fun σ hσ => h σ (.tail _ hσ)) h2⟩
section
variable {P : Program} {β : Base} {n : Nat} {ds : List Deferred} {Γ : Ctx} {Δ R : List Tk} {r : Option Nat} {Q Q' : Exit → Act → World → Prop} {F : Act → World → Prop} {ops : Array Oper} {o : Oper} {rest : List Oper}
theorem wp_lend {g : Operand} {args : List Operand} {ts : Array TypeId} {f : FuncId} {φs : List Fact} {Λ : List (Value × Fact)} {Δl Δi Δr : List Tk} {Φ : Fact} {Δo : Value → List Tk} {m : Mem} {L : Heap} {a : Act} {w : World} {K : Act → World → Prop}
    (ho : o.op = .call { callee := .value g, args := args.toArray, argTypes := ts }) (hg : Has Γ g (fEq (.func (.func f) #[] #[]))) (hargs : HasW Γ Λ args φs) (hf : Callable P f) (hc : FnS P f φs Δi Φ Δo) (hΦ : IndF Φ) (hΔo : ∀ v, ∀ τ ∈ Δo v, IndK τ) (hfr : FrzT Δl Λ)
    (hF : FT n ds Γ m a) (hL : Toks (Δl ++ (Δi ++ Δr)) m L) (hS : St β m L w)
    (k : ∀ m' L' v w', Mem.le m m' → Φ.p m' v → Toks (Δl ++ (Δo v ++ Δr)) m' L' → St β m' L' w' → K (a.put o.dst v) w') : o.wpIn (fw r) 0 P a w K Q := by
  obtain ⟨H, L1, rfl, hH, hL1⟩ := hL.split
  obtain ⟨A, B, rfl, hA, hB⟩ := hL1.split
  have hnd := hS.nodup
  rw [List.map_append] at hnd
  have hnH := (List.nodup_append.1 hnd).1
  have hap : ∀ x ∈ H, m x.1 = none := fun x hx => hS.apart x (List.mem_append_left _ hx)
  have hle := insH_le hap
  have hl : LendOK Λ (insH H m) := hfr m H hH _ hle (insH_mem hnH)
  have hX := hc (insH H m) A (args.map a.eval) (hargs.all hF hle hl) (hA.mono hle)
  refine wp_call (L := H ++ A) (R := B) (first := #[]) (captured := #[]) (vs := args.map a.eval) ho (hF.has hg) (by simp) hf (thaw hX) (by rw [List.append_assoc]; exact hS)
    (fun m' L' v w' hle' ⟨L'', e1, m'', e2, u, he, h3, h4⟩ hS' => ?_) (fun m' L' c w' _ ⟨L'', _, m'', _, u, he, _⟩ _ => by cases he) (fun m' L' ⟨L'', _, m'', _, u, he, _⟩ => by cases he)
  cases he
  subst e1
  refine k m' _ v w' hle' (hΦ m'' m' v h3) ((hH.mono hle').append ((h4.ind (hΔo v)).append (hB.mono hle'))) (by rw [← List.append_assoc]; exact hS')
theorem T_callLend {g : Operand} {args : List Operand} {ts : Array TypeId} {f : FuncId} {φs : List Fact} (Λ : List (Value × Fact)) {Δl Δi Δr Δo : List Tk} {Φ : Fact} {d : Option Nat} (hw : WantsT ops Γ o) (ho : o.op = .call { callee := .value g, args := args.toArray, argTypes := ts }) (hd : o.dst = d) (hn : dstOk d n = true)
    (hg : Has Γ g (fEq (.func (.func f) #[] #[]))) (hargs : HasW Γ Λ args φs) (hf : Callable P f) (hc : FnS P f φs Δi Φ (fun _ => Δo)) (hΦ : IndF Φ) (hΔo : ∀ τ ∈ Δo, IndK τ) (hfr : FrzT Δl Λ) (hΔ : Δ = Δl ++ (Δi ++ Δr))
    (k : T β n ds (putG d Φ Γ) (Δl ++ (Δo ++ Δr)) (wpListIn (fw r) 0 P ops Q rest)) : T β n ds Γ Δ (wpListIn (fw r) 0 P ops Q (o :: rest)) := fun m L a w hF hL hS => by
  subst hΔ
  simp only [wpListIn, hw.wanted hF, if_true]
  refine wp_lend ho hg hargs hf hc hΦ (fun _ => hΔo) hfr hF hL hS fun m' L' v w' hle h1 h2 h3 => ?_
  refine k m' L' _ w' ?_ h2 h3
  subst hd
  cases hdd : o.dst with
  | none => exact hF.mono hle
  | some t => rw [hdd] at hn; exact (hF.mono hle).put (Nat.le_of_ble_eq_true hn) h1
theorem T_callLendO {g : Operand} {args : List Operand} {ts : Array TypeId} {f : FuncId} {φs : List Fact} (Λ : List (Value × Fact)) {Δl Δi Δr : List Tk} {Δo : Value → List Tk} {Φ : Fact} {d : Nat} (hw : WantsT ops Γ o) (ho : o.op = .call { callee := .value g, args := args.toArray, argTypes := ts }) (hd : o.dst = some d) (hn : Nat.ble (d + 1) n = true)
    (hg : Has Γ g (fEq (.func (.func f) #[] #[]))) (hargs : HasW Γ Λ args φs) (hf : Callable P f) (hc : FnS P f φs Δi Φ Δo) (hΦ : IndF Φ) (hΔo : ∀ v, ∀ τ ∈ Δo v, IndK τ) (hfr : FrzT Δl Λ) (hΔ : Δ = Δl ++ (Δi ++ Δr))
    (k : ∀ v, T β n ds ((d, fEq v) :: Γ) (Δl ++ (Δo v ++ Δr)) (wpListIn (fw r) 0 P ops Q rest)) : T β n ds Γ Δ (wpListIn (fw r) 0 P ops Q (o :: rest)) := fun m L a w hF hL hS => by
  subst hΔ
  simp only [wpListIn, hw.wanted hF, if_true]
  refine wp_lend ho hg hargs hf hc hΦ hΔo hfr hF hL hS fun m' L' v w' hle h1 h2 h3 => ?_
  rw [hd]
  exact k v m' L' _ w' ((hF.mono hle).put (Nat.le_of_ble_eq_true hn) rfl) h2 h3
theorem indF_any : IndF fAny := fun _ _ _ _ => trivial
theorem indF_tup {φs : List Fact} (h : ∀ φ ∈ φs, IndF φ) : IndF (fTup φs) := fun _ _ _ ⟨cs, h1, h2⟩ => ⟨cs, h1, h2.ind h⟩
def fWrap (c : Array Value → Value) (φs : List Fact) : Fact := ⟨fun m v => ∃ cs : List Value, v = c cs.toArray ∧ All2 φs m cs, fun h ⟨cs, h1, h2⟩ => ⟨cs, h1, h2.mono h⟩⟩
def tWrap (c : Array Value → Value) (fs : List OF) (v : Value) : Tk := ⟨fun m H => ∃ cs : List Value, v = c cs.toArray ∧ AllD fs m cs H, fun h ⟨cs, h1, h2⟩ => ⟨cs, h1, h2.mono h⟩⟩
theorem ind_wrap {c : Array Value → Value} {fs : List OF} {v : Value} (h : IndL fs) : IndK (tWrap c fs v) := fun _ _ _ ⟨cs, h1, h2⟩ => ⟨cs, h1, h2.ind h⟩
def OpenK : List OF → (List Fact → List Tk → Prop) → Prop
  | [], K => K [] []
  | .pure φ :: fs, K => OpenK fs fun φs Δ => K (φ :: φs) Δ
  | .own f _ :: fs, K => ∀ u, OpenK fs fun φs Δ => K (fEq u :: φs) (f u :: Δ)
theorem openK_all {m : Mem} : ∀ {fs : List OF} {K : List Fact → List Tk → Prop} {cs : List Value} {H : Heap}, OpenK fs K → AllD fs m cs H → ∃ φs Δ, K φs Δ ∧ All2 φs m cs ∧ Toks Δ m H
  | [], _, _, _, h, ⟨e1, e2⟩ => ⟨[], [], h, e1, e2⟩
  | .pure φ :: fs, K, _, _, h, ⟨c, r, H1, H2, e1, e2, ⟨e3, h1, _⟩, h2⟩ => by
    subst e3
    obtain ⟨φs, Δ, h3, h4, h5⟩ := openK_all (fs := fs) (K := fun φs Δ => K (φ :: φs) Δ) h h2
    exact ⟨φ :: φs, Δ, h3, ⟨c, r, e1, h1, h4⟩, by rw [e2]; exact h5⟩
  | .own f _ :: fs, K, _, _, h, ⟨c, r, H1, H2, e1, e2, h1, h2⟩ => by
    obtain ⟨φs, Δ, h3, h4, h5⟩ := openK_all (fs := fs) (K := fun φs Δ => K (fEq c :: φs) (f c :: Δ)) (h c) h2
    exact ⟨fEq c :: φs, f c :: Δ, h3, ⟨c, r, e1, rfl, h4⟩, ⟨H1, H2, e2, h1, h5⟩⟩
theorem T_openW {c : Array Value → Value} {fs : List OF} {v : Value} {d : Nat} (h : OpenK fs fun φs Δ' => T β n ds ((d, fWrap c φs) :: Γ) (Δ' ++ Δ) F) : T β n ds ((d, fEq v) :: Γ) (tWrap c fs v :: Δ) F := fun m L a w hF hL hS => by
  obtain ⟨H, R, rfl, ⟨cs, hv, hcs⟩, hR⟩ := hL
  obtain ⟨φs, Δ', h1, h2, h3⟩ := openK_all h hcs
  refine h1 m _ a w ⟨hF.size, hF.defs, fun t ψ ht => ?_⟩ (h3.append hR) hS
  rcases lk_cons ht with ⟨rfl, rfl⟩ | ⟨hne, ht⟩
  · obtain ⟨u, h4, h5⟩ := hF.get d (fEq v) (by simp [lk])
    have h5 : u = v := h5
    exact ⟨u, h4, cs, h5.trans hv, h2⟩
  · exact hF.get t ψ (by
      simp only [lk]
      have : Nat.beq d t = false := by
        cases hb : Nat.beq d t with
        | false => rfl
        | true => exact absurd (Nat.eq_of_beq_eq_true hb) hne
      rw [this]; exact ht)
def AsmL : List OF → List Fact → List Tk → Prop
  | [], φs, Δ => φs = [] ∧ Δ = []
  | .pure ψ :: fs, φs, Δ => ∃ φ r, φs = φ :: r ∧ Ent φ ψ ∧ Leaf ψ ∧ AsmL fs r Δ
  | .own f _ :: fs, φs, Δ => ∃ u r Δ', φs = fEq u :: r ∧ Δ = f u :: Δ' ∧ AsmL fs r Δ'
theorem AsmL.nil : AsmL [] [] [] := ⟨rfl, rfl⟩
theorem AsmL.pure {φ ψ : Fact} {fs : List OF} {φs : List Fact} {Δ : List Tk} (h : Ent φ ψ) (hl : Leaf ψ) (k : AsmL fs φs Δ) : AsmL (.pure ψ :: fs) (φ :: φs) Δ := ⟨φ, φs, rfl, h, hl, k⟩
theorem AsmL.own {f : Value → Tk} {hf : ∀ v m H, (f v).p m H → IsCell v} {u : Value} {fs : List OF} {φs : List Fact} {Δ : List Tk} (k : AsmL fs φs Δ) : AsmL (.own f hf :: fs) (fEq u :: φs) (f u :: Δ) := ⟨u, φs, Δ, rfl, rfl, k⟩
theorem AsmL.all {m : Mem} : ∀ {fs : List OF} {φs : List Fact} {Δ : List Tk} {cs : List Value} {L : Heap}, AsmL fs φs Δ → All2 φs m cs → Toks Δ m L → AllD fs m cs L
  | [], _, _, _, _, ⟨e1, e2⟩, h1, h2 => by subst e1 e2; exact ⟨h1, h2⟩
  | .pure ψ :: fs, _, _, _, _, ⟨φ, r, e1, he, hl, hk⟩, h1, h2 => by
    subst e1
    obtain ⟨c, s, e3, h3, h4⟩ := h1
    exact ⟨c, s, [], _, e3, rfl, ⟨rfl, he m c h3, hl m c (he m c h3)⟩, hk.all h4 h2⟩
  | .own f _ :: fs, _, _, _, _, ⟨u, r, Δ', e1, e2, hk⟩, h1, h2 => by
    subst e1 e2
    obtain ⟨c, s, e3, h3, h4⟩ := h1
    obtain ⟨H, R, e4, h5, h6⟩ := h2
    have h3 : c = u := h3
    subst h3
    exact ⟨c, s, H, R, e3, e4, h5, hk.all h4 h6⟩
theorem T_outW2 {fn : Func} {φ ψ : Fact} {fs : List OF} {t u : Nat} (hr : fn.results = #[.tmp t, .tmp u]) (hv : HasS Γ t φ) (hz : HasS Γ u ψ) (ha : AsmL fs [φ, ψ] Δ) : T β n [] Γ Δ (bodyPost P fn (PostS β fAny (fun v => [tWrap .tuple fs v])) .ret) := fun m L a w hF hL hS => by
  obtain ⟨_, h1, h2⟩ := hv
  obtain ⟨v, h3, h4⟩ := hF.get t _ h1
  obtain ⟨_, g1, g2⟩ := hz
  obtain ⟨z, g3, g4⟩ := hF.get u _ g1
  exact ⟨hF.defs, .tuple #[v, z], by simp [results, hr, Array.getD_eq_getD_getElem?, h3, g3, Sem.run_bind, Sem.run, pure], m, L, hS, _, rfl, trivial,
    L, [], by simp, ⟨[v, z], rfl, ha.all ⟨v, [z], rfl, h2 m v h4, z, [], rfl, g2 m z g4, rfl⟩ hL⟩, rfl⟩
theorem T_outWC {fn : Func} {fs : List OF} {Δ1 : List Tk} {t b sz : Nat} {ty ty' : TypeId} {φs : List Fact} (hr : fn.results = #[.cell t ty]) (hT : AggN P ty sz) (hv : HasS Γ t (fEq (ptr b))) (ha : AsmL fs φs Δ1) (hd : Δ = tBlk b ty' φs :: Δ1) (hsz : φs.length = sz) : T β n [] Γ Δ (bodyPost P fn (PostS β fAny (fun v => [tWrap .agg fs v])) .ret) := fun m L a w hF hL hS => by
  subst hsz
  subst hd
  obtain ⟨χ, h1, h2⟩ := hv
  obtain ⟨v, h3, h4⟩ := hF.get t χ h1
  have h5 : v = ptr b := h2 m v h4
  subst h5
  obtain ⟨cs, R, rfl, h6, h7⟩ := front_blk hL
  have hl := h6.length
  have h8 := SX.run_loadCellsFrom (P := P) (w := w) (p := ⟨b, 0, none⟩) cs 0 #[] (fun j u hj => by
    rw [Nat.zero_add, add_zero']
    exact hS.own_cell (k := 0) (b := b) (c := cs.toArray) (T := ty') (fz := (0, 0)) rfl rfl rfl (by simpa using hj))
  have hload : (loadVar ty ⟨b, 0, none⟩).run P w = .ok (.agg cs.toArray) w := by
    rw [hl] at h8
    simp [loadVar, Sem.run_bind, run_isAgg_agg hT, run_sizeOf_agg hT, loadCells, Sem.run, pure, h8]
  refine ⟨hF.defs, .agg cs.toArray, ?_, m, R, hS.drop (List.sublist_cons_self _ _), _, rfl, trivial, R, [], by simp, ⟨cs, rfl, ha.all h6 h7⟩, rfl⟩
  simp [results, hr, Array.getD_eq_getD_getElem?, h3, Sem.run_bind, Sem.run, pure, ptr, asAddr]
  rw [hload]
  rfl
variable {l : List NO} {e : Env'} {i : Nat} {od : Env' → OD} {G : Env' → Cf → (Nat → Tk) → Prop}
end
end Go.SW
namespace Go.SW
open Go.SX
section
variable {P : Program} {β : Base} {n : Nat} {ds : List Deferred} {Γ : Ctx} {Δ R : List Tk} {F : Act → World → Prop}
theorem T_rowCellG {v : Value} {e sz k : Nat} {fs : List OF} (i : Nat) (hi : Δ[i]? = some (tRowG v e sz k fs)) (h : IsCell v → T β n ds Γ Δ F) : T β n ds Γ Δ F := fun m L a w hF hL hS => by
  obtain ⟨Hs, hl, rfl, hg⟩ := hL.heaps
  have hlt := (List.getElem?_eq_some_iff.1 hi).1
  obtain ⟨H, hH⟩ : ∃ H, Hs[i]? = some H := ⟨Hs[i], by simp [hl, hlt]⟩
  exact h (rowG_cell m H (hg i _ H hi hH)) m _ a w hF (Toks.of_heaps hl hg) hS
theorem mk_rep {α γ : Type} {z : α} {z' : γ} {k : Int} {zs : List α} (h : mk z k = some zs) : zs = List.replicate k.toNat z ∧ mk z' k = some (List.replicate k.toNat z') := by
  unfold mk at h ⊢
  split at h
  · cases h; rename_i hk; exact ⟨rfl, by rw [if_pos hk]⟩
  · cases h
theorem T_nilsD2 {α : Type} {o : OTy (List α)} {v : Value} {e k : Nat} {ys : List (List α)} (hy : ys = List.replicate k []) (hs : o.sz = 1) (ho : ∀ f ∈ o.leafs [], ∀ m, (f.tk (.slice none 0 0)).p m [])
    (h : T β n ds Γ (tRowD v e o ys :: Δ) F) : T β n ds Γ (tRow v e (tF 1) (List.replicate k [⟨fEq (.slice none 0 0), leaf_eq trivial⟩]) :: Δ) F := by
  subst hy; exact T_nilsD rfl hs ho h
theorem nil_tk {α : Type} {t : Ty α} {e : Nat} : ∀ f ∈ (oRowT e t).leafs [], ∀ m, (f.tk (.slice none 0 0)).p m [] := fun f hf m => by
  have : f = .own (fun v => tRow v e t []) (fun _ => row_isCell) := by simpa [oRowT] using hf
  subst this
  exact ⟨[], by simpa using RowL.nil (es := t.sz) (T := e), by simp, rfl⟩
theorem T_closeE {v u : Value} {e sz k p : Nat} {fs : List OF} {φ : Fact} {f : Value → Tk} {hf : ∀ v m H, (f v).p m H → IsCell v} (hp : fs[p]? = some (.pure φ)) (he : Ent φ (fEq u)) (h : T β n ds Γ (tRowG v e sz k (fs.set p (.own f hf)) :: Δ) F) :
    T β n ds Γ (f u :: tRowG v e sz k fs :: Δ) F := fun m L a w x y z => by
  obtain ⟨K, L', rfl, hK, y⟩ := y
  obtain ⟨cs, H0, H1, R, rfl, h1, h2, h3, h4⟩ := front_rowG y
  obtain ⟨c, A, K0, B, h5, rfl, ⟨rfl, hcu, _⟩, h7⟩ := h3.at hp
  have hcu : c = u := he m c hcu
  subst hcu
  have h8 := h7 m (.own f hf) c K (Mem.le_refl _) hK
  rw [set_self h5] at h8
  have hperm : (K ++ (H0 ++ ((A ++ ([] ++ B)) ++ R))).Perm ((H0 ++ (A ++ (K ++ B))) ++ R) := by
    simp only [List.nil_append, ← List.append_assoc]
    refine List.Perm.append_right _ (List.Perm.append_right _ ?_)
    simp only [List.append_assoc]
    rw [← List.append_assoc H0 A K]
    exact List.perm_append_comm.trans (by simp)
  exact h m _ a w x ⟨_, R, rfl, ⟨cs, H0, _, h1, h2, rfl, h8⟩, h4⟩ (z.perm hperm)
end
section
variable {P : Program} {β : Base} {n : Nat} {ds : List Deferred} {Γ : Ctx} {Δ : List Tk} {r : Option Nat} {Q : Exit → Act → World → Prop} {ops : Array Oper} {o : Oper} {l : List NO} {e : Env'} {i : Nat} {od : Env' → OD} {G : Env' → Cf → (Nat → Tk) → Prop}
theorem N_callR {g : Operand} {args : List Operand} {ts : Array TypeId} {f : FuncId} {first captured : Array Value} {φs ψs : List Fact} {Φ : Fact} {p d : Nat} {τ : Value → Tk} {φ' : Oc → Fact} {Δ' : Oc → List Tk} (hod : od e = .op [p] true φ' Δ') (hφ : ∀ b, φ' b = fRaw b.v) (hτ : ∀ b, Δ' b = [τ b.v]) (hw : WantsT ops Γ o) (hp : Δ[p]? = some tEmp)
    (ho : o.op = .call { callee := .value g, args := args.toArray, argTypes := ts }) (hd : o.dst = some d)
    (hg : Has Γ g (fEq (.func (.func f) first captured))) (hargs : HasL Γ args φs) (hall : first.toList.map fEq ++ φs ++ captured.toList.map fEq = ψs) (hf : Callable P f) (hc : FnS P f ψs [] Φ (fun v => [τ v])) (hcell : ∀ v m H, (τ v).p m H → IsCell v)
    (k : ∀ b u, NC P r ops G l (e.set i ⟨b, u⟩) (lk ((d, fRaw u) :: Γ)) (dOf (Δ.set p (τ u)))) : NC P r ops G ((i, o, od) :: l) e (lk Γ) (dOf Δ) := by
  refine ⟨?_, fun b => ?_⟩
  · simp only [hod]
    refine ⟨hw, ?_, fun b => by rw [hτ]; rfl⟩
    intro β n ds m L R a w K Q hF hL hS hk
    have hL0 : L = [] := by
      obtain ⟨H, R', rfl, h1, h2⟩ := hL
      simp only [dOf, hp, Option.getD_some] at h1
      have h1 : H = [] := h1
      have h2 : R' = [] := h2
      rw [h1, h2]; rfl
    subst hL0
    have he := evs_of hF
    have hge : a.eval g = _ := he.get hg (by rw [ho]; simp [Op.operands, Call.operands])
    have hall' : All2 ψs m (first.toList ++ args.map a.eval ++ captured.toList) := hall ▸ (((all_eq _).append (hargs.all' he (by rw [ho]; intro x hx; simp [Op.operands, Call.operands, hx]))).append (all_eq _))
    refine wp_call (L := []) ho hge rfl hf (hc m [] _ hall' rfl) hS (fun m' L' v w' hle ⟨u, hv, h3, h4⟩ hS' => ?_) (fun m' L' c w' _ ⟨u, hv, _⟩ _ => by cases hv) (fun m' L' ⟨u, hv, _⟩ => by cases hv)
    cases hv
    have hcv : IsCell v := by
      obtain ⟨H, R', _, h5, _⟩ := h4
      exact hcell v m' H h5
    exact hk ⟨0, v⟩ m' L' v w' hle (by rw [hφ]; exact ⟨rfl, hcv⟩) (by simp only [OD.wr, if_true]; rw [hτ]; exact h4) hS'
  · have hlt := (List.getElem?_eq_some_iff.1 hp).1
    simp only [hod, effC, effD, if_true, hd, hφ, hτ]
    rw [updD_one hlt]
    exact k b.n b.v
end
theorem frz_wrap {c : Array Value → Value} {fs : List OF} {φs : List Fact} {v : Value} (h : FrzL fs φs) : Frz (tWrap c fs v) (fWrap c φs) v := fun m H ⟨cs, h1, h2⟩ m' hle hm => ⟨cs, h1, h.all hle h2 hm⟩
theorem FnS.frz {P : Program} {f : FuncId} {args : List Fact} {Δ : List Tk} {τ : Value → Tk} {φ : Fact} (h : FnS P f args Δ fAny (fun v => [τ v])) (hf : ∀ v, Frz (τ v) φ v) : FnS P f args Δ φ (fun _ => []) := fun m L vs hv hL w hS => by
  refine (h m L vs hv hL w hS).mono fun e w' ⟨m', L', hS', v, he, _, hT⟩ => ?_
  obtain ⟨H, R, e1, h1, h2⟩ := hT
  have h2 : R = [] := h2
  subst h2 e1
  obtain ⟨m'', h3, h4, h5⟩ := persists hS'
  exact ⟨m'', [], h4, v, he, hf v m' H h1 m'' h3 h5, rfl⟩
end Go.SW
namespace Go.SW
open Go.SX
def fOpt {α : Type} (t : Ty α) (x : Option α) : Fact := ⟨fun m v => (x = none ∧ v = .pointer none) ∨ ∃ y, x = some y ∧ (fPtr t y).p m v, fun h k => k.imp id fun ⟨y, e, z⟩ => ⟨y, e, (fPtr t y).mono h z⟩⟩
theorem ent_optS {α : Type} {t : Ty α} {y : α} : Ent (fPtr t y) (fOpt t (some y)) := fun _ _ h => .inr ⟨y, rfl, h⟩
theorem ent_optN {α : Type} {t : Ty α} : Ent (fEq (.pointer none)) (fOpt t none) := fun _ _ h => .inl ⟨rfl, h⟩
theorem ent_optOf {α : Type} {t : Ty α} {x : Option α} {y : α} (h : x = some y) : Ent (fOpt t x) (fPtr t y) := fun m v k => by
  rcases k with ⟨e, _⟩ | ⟨z, e, hz⟩
  · rw [h] at e; cases e
  · rw [h] at e; cases e; exact hz
section
variable {P : Program} {Γ : Ctx} {o : Oper}
theorem o_addW {T U : TypeId} {x y : Operand} {k : IntKind} {i j : Int} (ho : o.op = .binOp .add T x y U) (hx : Has Γ x (fInt k i)) (hy : Has Γ y (fInt k j)) : OpT P Γ [] o (fInt k (k.wrap (i + j))) :=
  o_bin ho hx hy guard_int fun w => by simp [binOp, Op.intArith, Sem.run, pure]
theorem o_mulW {T U : TypeId} {x y : Operand} {k : IntKind} {i j : Int} (ho : o.op = .binOp .mul T x y U) (hx : Has Γ x (fInt k i)) (hy : Has Γ y (fInt k j)) : OpT P Γ [] o (fInt k (k.wrap (i * j))) :=
  o_bin ho hx hy guard_int fun w => by simp [binOp, Op.intArith, Sem.run, pure]
def andI (k : IntKind) (x y : Int) : Int := k.wrap (BitVec.ofInt k.bits x &&& BitVec.ofInt k.bits y).toNat
theorem o_and {T U : TypeId} {x y : Operand} {k : IntKind} {i j : Int} (ho : o.op = .binOp .and T x y U) (hx : Has Γ x (fInt k i)) (hy : Has Γ y (fInt k j)) : OpT P Γ [] o (fInt k (andI k i j)) :=
  o_bin ho hx hy guard_int fun w => by simp [binOp, Op.intBits, Sem.run, pure, andI]
def shrI (k : IntKind) (x y : Int) : Option Int := if y < 0 then none else some (x.fdiv (2 ^ (min y.toNat k.bits)))
theorem guard_sh {op : BinOp} {T : TypeId} {x y : Operand} {k k' : IntKind} {i j : Int} (w : World) : (eqGuard op T x y (.int k i) (.int k' j)).run P w = .ok () w := by cases op <;> simp [eqGuard, Sem.run, pure]
theorem o_shr {T U : TypeId} {x y : Operand} {k k' : IntKind} {i j z : Int} (ho : o.op = .binOp .shr T x y U) (hx : Has Γ x (fInt k i)) (hy : Has Γ y (fInt k' j)) (h : shrI k i j = some z) : OpT P Γ [] o (fInt k z) :=
  o_bin ho hx hy guard_sh fun w => by
    unfold shrI at h
    split at h
    · cases h
    · rename_i hj; cases h; simp [binOp, Op.shift, Sem.run, pure, hj]
theorem flat_take {α : Type} {t : Ty α} : ∀ (xs : List α) (k : Nat), (xs.take k).flatMap t.leafs = (xs.flatMap t.leafs).take (k * t.sz)
  | [], k => by simp
  | x :: xs, 0 => by simp
  | x :: xs, k + 1 => by
    rw [List.take_succ_cons, List.flatMap_cons, List.flatMap_cons, flat_take xs k, show (k + 1) * t.sz = t.sz + k * t.sz from by rw [Nat.add_mul]; omega, take_add (t.len x)]
theorem flat_drop {α : Type} {t : Ty α} : ∀ (xs : List α) (k : Nat), (xs.drop k).flatMap t.leafs = (xs.flatMap t.leafs).drop (k * t.sz)
  | [], k => by simp
  | x :: xs, 0 => by simp
  | x :: xs, k + 1 => by
    rw [List.drop_succ_cons, List.flatMap_cons, flat_drop xs k, show (k + 1) * t.sz = t.sz + k * t.sz from by rw [Nat.add_mul]; omega, drop_add (t.len x)]
def cpy {α : Type} (xs ys : List α) (lo n : Nat) : List α := xs.take lo ++ ys.take n ++ xs.drop (lo + n)
theorem cpy_len {α : Type} {xs ys : List α} {lo n : Nat} (h1 : lo + n ≤ xs.length) (h2 : n ≤ ys.length) : (cpy xs ys lo n).length = xs.length := by
  simp [cpy]; omega
def fRowSub (v : Value) (es lo hi : Nat) : Fact := ⟨fun _ u => ∃ base base' len cap, v = .slice base len cap ∧ u = .slice base' (hi - lo) (cap - lo) ∧ (base = none → base' = none) ∧ ∀ b, base = some ⟨b, 0, none⟩ → lo < hi → base' = some ⟨b, lo * es, none⟩, fun _ h => h⟩
theorem o_sliceR {α : Type} {t : Ty α} {xs ys : List α} {MT e : TypeId} {x : Operand} {v : Value} {lo hi : Option Operand} {l h : Int} (ho : o.op = .slice MT x lo hi none) (hx : Has Γ x (fEq v)) (hl : HasB Γ lo 0 l) (hh : HasB Γ hi xs.length h) (hT : ElemN P MT t.sz)
    (hs : slc xs l h = some ys) : OpT P Γ [tRow v e t xs] o (fRowSub v t.sz l.toNat h.toNat) :=
  ⟨by rw [ho]; rfl, fun β m L a w he hS hL => by
    have h0 : a.eval x = v := he.get hx (by rw [ho]; simp [Op.operands])
    obtain ⟨H, R, rfl, ⟨cs, hR, hB, h2⟩, h3⟩ := hL
    obtain ⟨b, cap, hv, hc, hb⟩ : ∃ (b : Option Addr) (cap : Nat), v = .slice b xs.length cap ∧ xs.length ≤ cap ∧ ∀ p, b = some p → p.off = 0 ∧ p = ⟨p.block, 0, none⟩ := by
      rcases hR with ⟨_, ⟨rfl, h4, rfl⟩ | ⟨b, c, cap, rfl, rfl, h5, h6, h7⟩⟩
      · exact ⟨none, 0, by rw [h4], by omega, fun p h => by cases h⟩
      · exact ⟨_, cap, rfl, h6, fun p h => by cases h; exact ⟨rfl, rfl⟩⟩
    obtain ⟨h1, h2, h3, hys⟩ := slc_some hs
    have hfin : (fRowSub v t.sz l.toNat h.toNat).p m (.slice (if cap = l.toNat then b else b.map (·.add (l.toNat * t.sz))) (h.toNat - l.toNat) (cap - l.toNat)) := by
      refine ⟨b, _, xs.length, cap, hv, rfl, fun e => by subst e; split <;> rfl, fun b' e hlt => ?_⟩
      subst e
      rw [if_neg (by omega)]
      simp [add_off]
    refine ⟨_, ?_, hfin⟩
    unfold ElemN elemB at hT
    cases hu : P.underlying MT with
    | none => rw [hu] at hT; cases hT
    | some d =>
      rw [hu] at hT
      cases d <;> try (simp at hT; done)
      rename_i el
      simp only [Option.map_eq_some_iff] at hT
      obtain ⟨inf, hinf, hsz⟩ := hT
      have hur : (underlying MT).run P w = .ok (.slice el) w := run_underlying hu w
      have hss := run_sizeOf (P := P) hinf w
      rw [hv] at h0
      simp only [execOp, ho, h0, Instr.sliceAt, Instr.slice, Instr.sliceBounds, Sem.run_bind, hur, Result.andThen_ok]
      rcases hl with ⟨rfl, rfl⟩ | ⟨y, kd, rfl, hy⟩ <;> rcases hh with ⟨rfl, rfl⟩ | ⟨y', kd', rfl, hy'⟩
      · simp [Sem.run_bind, hss, hsz, Sem.run, pure]
      · have g2 : a.eval y' = .int kd' h := he.get hy' (by rw [ho]; simp [Op.operands])
        have b2 := fun c => run_bound (P := P) (kd := kd') (y := cap) (c := c) (i := h) (by omega) (by omega) w
        simp [Sem.run_bind, g2, b2, hss, hsz, Sem.run, pure]
      · have g1 : a.eval y = .int kd l := he.get hy (by rw [ho]; simp [Op.operands])
        have b1 := fun c => run_bound (P := P) (kd := kd) (y := xs.length) (c := c) (i := l) h1 h2 w
        simp [Sem.run_bind, g1, b1, hss, hsz, Sem.run, pure]
      · have g1 : a.eval y = .int kd l := he.get hy (by rw [ho]; simp [Op.operands])
        have g2 : a.eval y' = .int kd' h := he.get hy' (by rw [ho]; simp [Op.operands])
        have b2 := fun c => run_bound (P := P) (kd := kd') (y := cap) (c := c) (i := h) (by omega) (by omega) w
        have b1 := fun c => run_bound (P := P) (kd := kd) (y := h.toNat) (c := c) (i := l) h1 (by omega) w
        simp [Sem.run_bind, g1, g2, b1, b2, hss, hsz, Sem.run, pure]⟩
theorem run_copy {β : Base} {α : Type} {t : Ty α} {m : Mem} {R : Heap} {w : World} {v : Value} {ty e : TypeId} {by' : Nat} {xs ys : List α} {cs ns : List Value} {H : Heap} {lo dl dc sl sc : Nat} {dst src : Option Addr} (hS : St β m (H ++ R) w) (hT : ElT P ty e t.sz by')
    (hR : RowL v t.sz e xs.length cs H) (hcs : All2 (xs.flatMap t.leafs) m cs) (hns : All2 (ys.flatMap t.leafs) m ns) (hlo : lo + dl ≤ xs.length) (hyl : ys.length = sl)
    (hd : 0 < dl → ∃ b len cap, v = .slice (some ⟨b, 0, none⟩) len cap ∧ dst = some ⟨b, lo * t.sz, none⟩)
    (hsrc : 0 < sl → ∃ a, src = some a ∧ ∀ (j : Nat) c, ns[j]? = some c → w.cell? (a.add j) = some c) (u : TypeId) :
    ∃ w' H' cs', (Builtin.copy_ #[ty, ty] u #[.slice dst dl dc, .slice src sl sc]).run P w = .ok (.int .i64 (min sl dl : Nat)) w' ∧ St β m (H' ++ R) w' ∧ RowL v t.sz e (cpy xs ys lo (min sl dl)).length cs' H' ∧ All2 ((cpy xs ys lo (min sl dl)).flatMap t.leafs) m cs' := by
  obtain ⟨ht, i, z, hi, h1, h2, hz, hzs⟩ := hT.spell
  have hcl : cs.length = xs.length * t.sz := by rw [hcs.length, flat_len]
  have hnl : ns.length = ys.length * t.sz := by rw [hns.length, flat_len]
  have hsz := run_sizeOf (P := P) hi w
  by_cases h0 : min sl dl = 0
  · have hc0 : cpy xs ys lo (min sl dl) = xs := by simp [cpy, h0]
    refine ⟨w, H, cs, ?_, hS, by rw [hc0]; exact hR, by rw [hc0]; exact hcs⟩
    have hf : (Builtin.firstCells i.size 0 (.slice src sl sc)).run P w = .ok #[] w := by
      cases src with
      | none => simp [Builtin.firstCells, Sem.run, pure]
      | some a =>
        have := SX.run_loadCellsFrom (P := P) (w := w) (p := a) [] 0 #[] (fun j v h => by simp at h)
        simpa [Builtin.firstCells, loadCells] using this
    have h0' : Nat.min sl dl = 0 := h0
    cases dst <;> simp [Builtin.copy_, Sem.run_bind, run_underlying ht, hsz, Builtin.lenOf, Sem.run, pure, h0', hf, storeCells, goInt, h0]
  · obtain ⟨b, len, cap, hv, rfl⟩ := hd (by omega)
    obtain ⟨a, rfl, hcell⟩ := hsrc (by omega)
    have hmul1 : min sl dl * t.sz ≤ ys.length * t.sz := Nat.mul_le_mul_right _ (by omega)
    have hmul2 : (lo + min sl dl) * t.sz ≤ xs.length * t.sz := Nat.mul_le_mul_right _ (by omega)
    rw [Nat.add_mul] at hmul2
    have hvs : (ns.take (min sl dl * t.sz)).length = min sl dl * t.sz := by simp; omega
    have hns' := hns.take (min sl dl * t.sz)
    rw [← flat_take] at hns'
    obtain ⟨w', H', hr, hS', hR'⟩ := store_row (P := P) (vs := ns.take (min sl dl * t.sz)) (off := lo * t.sz) hS hR hv (by omega) (hns'.cells flat_leaf)
    refine ⟨w', H', _, ?_, hS', by rw [cpy_len (by omega) (by omega)]; exact hR', ?_⟩
    · have hl := run_loadCells (w := w) (p := a) (ns.take (min sl dl * t.sz)) (fun j c hc => by
        rw [List.getElem?_take] at hc
        split at hc
        · exact hcell j c hc
        · cases hc)
      rw [hvs] at hl
      have hf : (Builtin.firstCells i.size (Nat.min sl dl) (.slice (some a) sl sc)).run P w = .ok (ns.take (min sl dl * t.sz)).toArray w := by
        rw [h1]; exact hl
      simp [Builtin.copy_, Sem.run_bind, run_underlying ht, hsz, Builtin.lenOf, Sem.run, pure, hf, hr, goInt]
    · simp only [cpy, List.flatMap_append, flat_drop]
      rw [hvs, ← Nat.add_mul, flat_take xs lo]
      exact ((hcs.take _).append hns').append (hcs.drop _)
where
  run_loadCells {w : World} {p : Addr} (cs : List Value) (h : ∀ j v, cs[j]? = some v → w.cell? (p.add j) = some v) : (loadCells p cs.length).run P w = .ok cs.toArray w := by
    have := SX.run_loadCellsFrom (P := P) (w := w) (p := p) cs 0 #[] (fun j v hj => by rw [Nat.zero_add]; exact h j v hj)
    simpa [loadCells] using this
theorem sl_cells {β : Base} {α : Type} {t : Ty α} {m : Mem} {L : Heap} {w : World} {v : Value} {ys : List α} (hS : St β m L w) (h : (fSl t ys).p m v) :
    ∃ src cap ns, v = .slice src ys.length cap ∧ All2 (ys.flatMap t.leafs) m ns ∧ (0 < ys.length → ∃ a, src = some a ∧ ∀ (j : Nat) c, ns[j]? = some c → w.cell? (a.add j) = some c) := by
  obtain ⟨q, ⟨src, cap, hue, _, hq⟩, hyB, hel⟩ := h
  have hcells : ∀ (l : List α) (f : Nat → Addr), (∀ (i : Nat) y, l[i]? = some y → t.at m (f i) y) → ∃ ns, All2 (l.flatMap t.leafs) m ns ∧ ∀ (i j : Nat) c, i < l.length → j < t.sz → ns[i * t.sz + j]? = some c → w.cell? ((f i).add j) = some c := by
    intro l
    induction l with
    | nil => intro f _; exact ⟨[], rfl, fun i j c h => by simp at h⟩
    | cons y l ih =>
      intro f hf
      obtain ⟨ns, h5, h6⟩ := ih (fun i => f (i + 1)) fun i z hz => hf (i + 1) z (by simpa using hz)
      obtain ⟨cy, h7, h8⟩ := hf 0 y rfl
      have hcy : cy.length = t.sz := by rw [h7.length, t.len]
      refine ⟨cy ++ ns, by rw [List.flatMap_cons]; exact h7.append h5, fun i j c hi hj hc => ?_⟩
      cases i with
      | zero =>
        rw [Nat.zero_mul, Nat.zero_add, List.getElem?_append_left (by omega)] at hc
        exact hS.cell (h8 j c hc)
      | succ i =>
        have : (i + 1) * t.sz + j = t.sz + (i * t.sz + j) := by rw [Nat.add_mul]; omega
        rw [this, List.getElem?_append_right (by omega), show t.sz + (i * t.sz + j) - cy.length = i * t.sz + j from by omega] at hc
        exact h6 i j c (by simpa using hi) hj hc
  obtain ⟨ns, hns, hnc⟩ := hcells ys q hel
  refine ⟨src, cap, ns, hue, hns, fun hpos => ?_⟩
  obtain ⟨p, rfl, hp⟩ := hq 0 hpos
  refine ⟨p, rfl, fun j c hc => ?_⟩
  have hlt := (List.getElem?_eq_some_iff.1 hc).1
  rw [hns.length, flat_len] at hlt
  have hsz : 0 < t.sz := by
    rcases Nat.eq_zero_or_pos t.sz with h | h
    · rw [h] at hlt; simp at hlt
    · exact h
  have hi : j / t.sz < ys.length := (Nat.div_lt_iff_lt_mul hsz).2 hlt
  have hdm : j / t.sz * t.sz + j % t.sz = j := by rw [Nat.mul_comm]; exact Nat.div_add_mod j t.sz
  have h9 := hnc (j / t.sz) (j % t.sz) c hi (Nat.mod_lt _ hsz) (by rw [hdm]; exact hc)
  obtain ⟨p', h10, h11⟩ := hq (j / t.sz) hi
  cases h10
  rw [← h11, add_add, hdm] at h9
  exact h9
end
section
variable {P : Program} {β : Base} {n : Nat} {ds : List Deferred} {Γ : Ctx} {Δ : List Tk} {r : Option Nat} {Q : Exit → Act → World → Prop} {ops : Array Oper} {o : Oper} {rest : List Oper}
theorem T_copyF {α : Type} {t : Ty α} {ty e by' d : Nat} {x y : Operand} {v : Value} {xs ys : List α} (hw : WantsT ops Γ o) (ho : o.op = .call { callee := .builtin .copy, args := #[x, y], argTypes := #[ty, ty] }) (hd : o.dst = some d) (hn : Nat.ble (d + 1) n = true)
    (hx : Has Γ x (fEq v)) (hy : Has Γ y (fSl t ys)) (hT : ElT P ty e t.sz by')
    (k : T β n ds ((d, fInt .i64 (min ys.length xs.length : Nat)) :: Γ) (tRow v e t (cpy xs ys 0 (min ys.length xs.length)) :: Δ) (wpListIn (fw r) 0 P ops Q rest)) : T β n ds Γ (tRow v e t xs :: Δ) (wpListIn (fw r) 0 P ops Q (o :: rest)) := fun m L a w hF hL hS => by
  obtain ⟨cs, H, R, rfl, h1, hB, h2, h4⟩ := front_row hL
  have hxe : a.eval x = v := hF.has hx
  obtain ⟨src, cap, ns, hye, hns, hsrc⟩ := sl_cells hS (hF.has hy)
  obtain ⟨db, dc, hv, hdb⟩ : ∃ (db : Option Addr) (dc : Nat), v = .slice db xs.length dc ∧ (0 < xs.length → ∃ b len cap, v = .slice (some ⟨b, 0, none⟩) len cap ∧ db = some ⟨b, 0 * t.sz, none⟩) := by
    rcases h1 with ⟨_, ⟨rfl, h4, rfl⟩ | ⟨b, c, cap, rfl, rfl, h5, h6, h7⟩⟩
    · exact ⟨none, 0, by rw [h4], fun h => by omega⟩
    · exact ⟨_, cap, rfl, fun _ => ⟨b, _, cap, rfl, by simp⟩⟩
  obtain ⟨w', H', cs', hr, hS', hR', hcs'⟩ := run_copy (P := P) (lo := 0) (dl := xs.length) (dc := dc) (sc := cap) hS hT h1 h2 hns (by omega) rfl hdb hsrc o.type
  have hnd : isDefer o.op = false := by rw [ho]; rfl
  have h3 : o.semAt (fw r).round a.eval = execOp a.eval o := Oper.semAt_eq _ _ _ fun c hc => by rw [hc] at hnd; cases hnd
  simp only [wpListIn, hw.wanted hF, if_true]
  refine ⟨fun _ _ => trivial, ?_⟩
  have e1 : (execOp a.eval o).run P w = .ok (.value (.int .i64 (min ys.length xs.length : Nat))) w' := by
    rw [hv] at hxe
    simp only [execOp, ho, resolve, invoke, builtin, Sem.run_bind, List.map_toArray, List.map_cons, List.map_nil, hxe, hye]
    simp [hxe, hye, Sem.run_bind, hr, Sem.run, pure]
  rw [h3, e1, Oper.uponIn_value, hd]
  refine k m _ _ _ (hF.put (Nat.le_of_ble_eq_true hn) rfl) ⟨H', R, rfl, ⟨cs', hR', ?_, hcs'⟩, h4⟩ hS'
  rw [cpy_len (by omega) (by omega)]; exact hB
variable {l : List NO} {e : Env'} {i : Nat} {od : Env' → OD} {G : Env' → Cf → (Nat → Tk) → Prop}
theorem N_copyR {α : Type} {t : Ty α} {ty et by' d p es lo hi lo' hi' : Nat} {x y : Operand} {v : Value} {xs : List α} {φ0 : Oc → Fact} {Δ' : Oc → List Tk}
    (hod : od e = .op [p] true φ0 Δ') (h0 : ∀ c, φ0 c = fInt .i64 (min (hi' - lo') (hi - lo) : Nat)) (hτ : ∀ c, Δ' c = [tRow v et t (cpy xs (xs.drop lo') lo (min (hi' - lo') (hi - lo)))]) (hw : WantsT ops Γ o)
    (ho : o.op = .call { callee := .builtin .copy, args := #[x, y], argTypes := #[ty, ty] }) (hd : o.dst = some d) (hp : Δ[p]? = some (tRow v et t xs)) (hes : es = t.sz) (hx : Has Γ x (fRowSub v es lo hi)) (hy : Has Γ y (fRowSub v es lo' hi')) (hT : ElT P ty et t.sz by')
    (hb : lo ≤ hi ∧ hi ≤ xs.length ∧ lo' ≤ hi' ∧ hi' ≤ xs.length)
    (kk : ∀ c, NC P r ops G l (e.set i c) (lk ((d, fInt .i64 (min (hi' - lo') (hi - lo) : Nat)) :: Γ)) (dOf (Δ.set p (tRow v et t (cpy xs (xs.drop lo') lo (min (hi' - lo') (hi - lo))))))) : NC P r ops G ((i, o, od) :: l) e (lk Γ) (dOf Δ) := by
  refine ⟨?_, fun b' => ?_⟩
  · simp only [hod]
    refine ⟨hw, ?_, fun b => by rw [hτ]; rfl⟩
    intro β n ds m L R a w K Q hF hL hS hkk
    simp only [List.map_cons, List.map_nil, dOf, hp, Option.getD_some] at hL
    have he := evs_of hF
    obtain ⟨cs, H, R', rfl, h1, hB, h2, h4⟩ := front_row hL
    have h4 : R' = [] := h4
    subst h4
    rw [List.append_nil] at hS hL
    subst hes
    obtain ⟨base, base', len, cap, hv, hxe, hn1, hn2⟩ := he.get hx (by rw [ho]; simp [Op.operands, Call.operands])
    obtain ⟨sbase, sbase', slen, scap, hv', hye, hn1', hn2'⟩ := he.get hy (by rw [ho]; simp [Op.operands, Call.operands])
    obtain ⟨hb1, hb2, hb3, hb4⟩ := hb
    have hrow : 0 < xs.length → ∃ b cap, v = .slice (some ⟨b, 0, none⟩) xs.length cap ∧ ∀ (j : Nat) c, cs[j]? = some c → w.cell? ⟨b, j, none⟩ = some c := fun hpos => by
      rcases h1 with ⟨_, ⟨rfl, h4, rfl⟩ | ⟨b, c, cap, rfl, rfl, h5, h6, h7⟩⟩
      · omega
      · refine ⟨b, cap, rfl, fun j u hu => row_cell hS (b := b) (c := c) (T := et) (by simp) (take_get h7 hu)⟩
    have hdrop := (h2.drop (lo' * t.sz)).take ((hi' - lo') * t.sz)
    rw [← flat_drop, ← flat_take] at hdrop
    have hlen : ((xs.drop lo').take (hi' - lo')).length = hi' - lo' := by simp; omega
    obtain ⟨w', H', cs', hr, hS', hR', hcs'⟩ := run_copy (P := P) (lo := lo) (dl := hi - lo) (dc := cap - lo) (sl := hi' - lo') (sc := scap - lo') (dst := base') (src := sbase') hS hT h1 h2 hdrop (by omega) hlen
      (fun hpos => by
        obtain ⟨b, cap', hvb, _⟩ := hrow (by omega)
        rw [hv] at hvb; cases hvb
        exact ⟨b, _, _, hv, hn2 b rfl (by omega)⟩)
      (fun hpos => by
        obtain ⟨b, cap', hvb, hc⟩ := hrow (by omega)
        rw [hv'] at hvb; cases hvb
        refine ⟨_, hn2' b rfl (by omega), fun j c hj => ?_⟩
        rw [add_off]
        rw [List.getElem?_take] at hj
        split at hj
        · rw [List.getElem?_drop] at hj; exact hc _ c hj
        · cases hj) o.type
    have htk : cpy xs ((xs.drop lo').take (hi' - lo')) lo (min (hi' - lo') (hi - lo)) = cpy xs (xs.drop lo') lo (min (hi' - lo') (hi - lo)) := by
      simp only [cpy, List.take_take]; rw [Nat.min_eq_left (by omega)]
    rw [htk] at hR' hcs'
    have hnd : isDefer o.op = false := by rw [ho]; rfl
    have h3 : o.semAt (fw r).round a.eval = execOp a.eval o := Oper.semAt_eq _ _ _ fun c hc => by rw [hc] at hnd; cases hnd
    refine ⟨fun _ _ => trivial, ?_⟩
    have e1 : (execOp a.eval o).run P w = .ok (.value (.int .i64 (min (hi' - lo') (hi - lo) : Nat))) w' := by
      simp only [execOp, ho, resolve, invoke, builtin, Sem.run_bind, List.map_toArray, List.map_cons, List.map_nil, hxe, hye]
      simp [hxe, hye, Sem.run_bind, hr, Sem.run, pure]
    rw [h3, e1, Oper.uponIn_value]
    refine hkk default m H' _ w' (Mem.le_refl _) (by rw [h0]; rfl) ?_ hS'
    simp only [OD.wr, if_true]
    rw [hτ]
    exact ⟨H', [], by simp, ⟨cs', hR', by rw [cpy_len (by omega) (by simp; omega)]; exact hB, hcs'⟩, rfl⟩
  · have hlt := (List.getElem?_eq_some_iff.1 hp).1
    simp only [hod, effC, effD, if_true, hd, h0, hτ]
    rw [updD_one hlt]
    exact kk b'
theorem slc_bnd {α : Type} {xs ys : List α} {l h : Int} (e : slc xs l h = some ys) : l.toNat ≤ h.toNat ∧ h.toNat ≤ xs.length := by
  obtain ⟨h1, h2, h3, _⟩ := slc_some e; omega
end
section
variable {β : Base} {n : Nat} {ds : List Deferred} {Γ : Ctx} {F : Act → World → Prop} {a0 a1 a2 a3 a4 a5 a6 a7 a8 a9 b0 b1 b2 b3 b4 b5 b6 b7 b8 b9 c0 c1 c2 c3 c4 c5 c6 c7 c8 c9 d : Tk} {R : List Tk}
theorem T_fr1 (h : T β n ds Γ (d :: a0 :: R) F) : T β n ds Γ (a0 :: d :: R) F := T_perm (List.perm_middle (l₁ := [a0])) h
theorem T_fr2 (h : T β n ds Γ (d :: a0 :: a1 :: R) F) : T β n ds Γ (a0 :: a1 :: d :: R) F := T_perm (List.perm_middle (l₁ := [a0, a1])) h
theorem T_fr3 (h : T β n ds Γ (d :: a0 :: a1 :: a2 :: R) F) : T β n ds Γ (a0 :: a1 :: a2 :: d :: R) F := T_perm (List.perm_middle (l₁ := [a0, a1, a2])) h
theorem T_fr4 (h : T β n ds Γ (d :: a0 :: a1 :: a2 :: a3 :: R) F) : T β n ds Γ (a0 :: a1 :: a2 :: a3 :: d :: R) F := T_perm (List.perm_middle (l₁ := [a0, a1, a2, a3])) h
theorem T_fr5 (h : T β n ds Γ (d :: a0 :: a1 :: a2 :: a3 :: a4 :: R) F) : T β n ds Γ (a0 :: a1 :: a2 :: a3 :: a4 :: d :: R) F := T_perm (List.perm_middle (l₁ := [a0, a1, a2, a3, a4])) h
theorem T_fr6 (h : T β n ds Γ (d :: a0 :: a1 :: a2 :: a3 :: a4 :: a5 :: R) F) : T β n ds Γ (a0 :: a1 :: a2 :: a3 :: a4 :: a5 :: d :: R) F := T_perm (List.perm_middle (l₁ := [a0, a1, a2, a3, a4, a5])) h
theorem T_fr7 (h : T β n ds Γ (d :: a0 :: a1 :: a2 :: a3 :: a4 :: a5 :: a6 :: R) F) : T β n ds Γ (a0 :: a1 :: a2 :: a3 :: a4 :: a5 :: a6 :: d :: R) F := T_perm (List.perm_middle (l₁ := [a0, a1, a2, a3, a4, a5, a6])) h
theorem T_fr8 (h : T β n ds Γ (d :: a0 :: a1 :: a2 :: a3 :: a4 :: a5 :: a6 :: a7 :: R) F) : T β n ds Γ (a0 :: a1 :: a2 :: a3 :: a4 :: a5 :: a6 :: a7 :: d :: R) F := T_perm (List.perm_middle (l₁ := [a0, a1, a2, a3, a4, a5, a6, a7])) h
theorem T_fr11 (h : T β n ds Γ (d :: a0 :: a1 :: a2 :: a3 :: a4 :: a5 :: a6 :: a7 :: a8 :: a9 :: b0 :: R) F) : T β n ds Γ (a0 :: a1 :: a2 :: a3 :: a4 :: a5 :: a6 :: a7 :: a8 :: a9 :: b0 :: d :: R) F := T_perm (List.perm_middle (l₁ := [a0, a1, a2, a3, a4, a5, a6, a7, a8, a9, b0])) h
theorem T_fr12 (h : T β n ds Γ (d :: a0 :: a1 :: a2 :: a3 :: a4 :: a5 :: a6 :: a7 :: a8 :: a9 :: b0 :: b1 :: R) F) : T β n ds Γ (a0 :: a1 :: a2 :: a3 :: a4 :: a5 :: a6 :: a7 :: a8 :: a9 :: b0 :: b1 :: d :: R) F := T_perm (List.perm_middle (l₁ := [a0, a1, a2, a3, a4, a5, a6, a7, a8, a9, b0, b1])) h
theorem T_fr13 (h : T β n ds Γ (d :: a0 :: a1 :: a2 :: a3 :: a4 :: a5 :: a6 :: a7 :: a8 :: a9 :: b0 :: b1 :: b2 :: R) F) : T β n ds Γ (a0 :: a1 :: a2 :: a3 :: a4 :: a5 :: a6 :: a7 :: a8 :: a9 :: b0 :: b1 :: b2 :: d :: R) F := T_perm (List.perm_middle (l₁ := [a0, a1, a2, a3, a4, a5, a6, a7, a8, a9, b0, b1, b2])) h
theorem T_fr14 (h : T β n ds Γ (d :: a0 :: a1 :: a2 :: a3 :: a4 :: a5 :: a6 :: a7 :: a8 :: a9 :: b0 :: b1 :: b2 :: b3 :: R) F) : T β n ds Γ (a0 :: a1 :: a2 :: a3 :: a4 :: a5 :: a6 :: a7 :: a8 :: a9 :: b0 :: b1 :: b2 :: b3 :: d :: R) F := T_perm (List.perm_middle (l₁ := [a0, a1, a2, a3, a4, a5, a6, a7, a8, a9, b0, b1, b2, b3])) h
theorem T_fr15 (h : T β n ds Γ (d :: a0 :: a1 :: a2 :: a3 :: a4 :: a5 :: a6 :: a7 :: a8 :: a9 :: b0 :: b1 :: b2 :: b3 :: b4 :: R) F) : T β n ds Γ (a0 :: a1 :: a2 :: a3 :: a4 :: a5 :: a6 :: a7 :: a8 :: a9 :: b0 :: b1 :: b2 :: b3 :: b4 :: d :: R) F := T_perm (List.perm_middle (l₁ := [a0, a1, a2, a3, a4, a5, a6, a7, a8, a9, b0, b1, b2, b3, b4])) h
theorem T_fr16 (h : T β n ds Γ (d :: a0 :: a1 :: a2 :: a3 :: a4 :: a5 :: a6 :: a7 :: a8 :: a9 :: b0 :: b1 :: b2 :: b3 :: b4 :: b5 :: R) F) : T β n ds Γ (a0 :: a1 :: a2 :: a3 :: a4 :: a5 :: a6 :: a7 :: a8 :: a9 :: b0 :: b1 :: b2 :: b3 :: b4 :: b5 :: d :: R) F := T_perm (List.perm_middle (l₁ := [a0, a1, a2, a3, a4, a5, a6, a7, a8, a9, b0, b1, b2, b3, b4, b5])) h
end
end Go.SW
namespace Go.SW
open Go.SX
theorem kept_of_st {β : Base} {m : Mem} {L : Heap} {w : World} (h : St β m L w) (hfp : β.fp = []) (may : MemPlace → Prop) : β.w.keptBut w may := by
  refine ⟨h.os, h.output, fun i hi => ?_⟩
  rw [h.frame i hi (by rw [hfp]; exact List.not_mem_nil)]
  cases β.w.heap[i]? with
  | none => rfl
  | some o =>
    cases o with
    | cells c t fr => exact ⟨rfl, rfl, rfl, fun j _ => rfl⟩
    | map es clock => exact .inr ⟨rfl, rfl⟩
    | _ => rfl
def memOf (W : World) : Mem := fun b => W.heap[b]?
theorem st_memOf (W : World) : St ⟨W, memOf W, []⟩ (memOf W) [] W :=
  ⟨fun _ _ h => h, fun x h => (by cases h), fun x h => (by cases h), List.nodup_nil, Mem.le_refl _, fun _ hb => absurd rfl hb, fun x h => (by cases h), Nat.le_refl _, fun _ _ _ => rfl, rfl, rfl, rfl⟩
theorem FnS.calls {P : Program} {f : FuncId} {args : List Fact} {Φ : Fact} {W : World} {vs : List Value} (h : FnS P f args [] Φ (fun _ => [])) (hv : All2 args (memOf W) vs) :
    Calls P f vs.toArray W fun e w' => ∃ m' v, e = .returned v ∧ Φ.p m' v ∧ St ⟨W, memOf W, []⟩ m' [] w' :=
  (h (memOf W) [] vs hv rfl W (st_memOf W)).mono fun e w' ⟨m', L', hS, v, he, hp, hL⟩ => ⟨m', v, he, hp, by have : L' = [] := hL; subst this; exact hS⟩
end Go.SW
namespace Go.SW
open Go.SX
theorem hh {Γ : Ctx} {x : Operand} {φ : Fact} (h : evT Γ x = some φ := by exact rfl) : Has Γ x φ := has h
theorem bs {α γ : Type} {o : Option α} {f : α → Option γ} {r : γ} {G : Prop} (k : ∀ x, o = some x → f x = some r → G) (h : o.bind f = some r) : G := let ⟨x, h1, h2⟩ := bind_some h; k x h1 h2
theorem is {γ : Type} {p : Prop} [Decidable p] {a b : Option γ} {r : γ} {G : Prop} (k : decide p = true → a = some r → G) (k' : decide p = false → b = some r → G) (h : (if p then a else b) = some r) : G := (ite_some h).elim (fun x => k x.1 x.2) (fun x => k' x.1 x.2)
theorem cs {γ : Type} {c : Bool} {a b : Option γ} {r : γ} {G : Prop} (k : c = true → a = some r → G) (k' : c = false → b = some r → G) (h : (bif c then a else b) = some r) : G := (cond_some h).elim (fun x => k x.1 x.2) (fun x => k' x.1 x.2)
section
variable {P : Program} {β : Base} {n : Nat} {ds : List Deferred} {Γ : Ctx} {Δ : List Tk} {r : Option Nat} {Q Q' : Exit → Act → World → Prop} {N F : Act → World → Prop} {ops : Array Oper} {o : Oper} {rest : List Oper}
theorem Sr {id : Nat} {l : List Oper} {y : Code} (h : T β n ds Γ Δ (wpListIn (fw r) 0 P l.toArray (Exit.then (y.wpIn (fw r) 0 P Q) Q) l)) : T β n ds Γ Δ ((Code.seq (Code.region id l.toArray false) y).wpIn (fw r) 0 P Q) := T_seq (T_region h)
theorem Nn (h : T β n ds Γ Δ N) : T β n ds Γ Δ (wpListIn (fw r) 0 P ops (Exit.then N Q) []) := T_nil (T_then_n h)
theorem Rr (h : T β n ds Γ Δ (Q .ret)) : T β n ds Γ Δ (Code.ret.wpIn (fw r) 0 P (Exit.then N Q)) := T_retc (T_then_ret h)
theorem Yy {d : Nat} {φ : Fact} (h : OpT P Γ [] o φ) (k : T β n ds ((d, φ) :: Γ) Δ (wpListIn (fw r) 0 P ops Q rest)) (hw : WantsT ops Γ o := by exact trivial) (hd : o.dst = some d := by exact rfl) (hn : Nat.ble (d + 1) n = true := by exact rfl) : T β n ds Γ Δ (wpListIn (fw r) 0 P ops Q (o :: rest)) := T_y hw hd hn h k
theorem Ym {d : Nat} {x : Operand} {φ : Fact} (k : T β n ds ((d, φ) :: Γ) Δ (wpListIn (fw r) 0 P ops Q rest)) (hw : WantsT ops Γ o := by exact trivial) (hd : o.dst = some d := by exact rfl) (hn : Nat.ble (d + 1) n = true := by exact rfl) (ho : o.op = .move x := by exact rfl) (hx : evT Γ x = some φ := by exact rfl) :
    T β n ds Γ Δ (wpListIn (fw r) 0 P ops Q (o :: rest)) := T_y hw hd hn (o_move ho (has hx)) k
theorem Ya {d : Nat} {x : Operand} {φ : Fact} (k : T β n ds ((d, φ) :: Γ) Δ (wpListIn (fw r) 0 P ops Q rest)) (hw : WantsT ops Γ o := by exact trivial) (hd : o.dst = some d := by exact rfl) (hn : Nat.ble (d + 1) n = true := by exact rfl) (ho : o.op = .assign x := by exact rfl) (hx : evT Γ x = some φ := by exact rfl) :
    T β n ds Γ Δ (wpListIn (fw r) 0 P ops Q (o :: rest)) := T_y hw hd hn (o_assign ho (has hx)) k
theorem Sc {t : Nat} {φ : Fact} {Γ' : Ctx} (k : SubT Γ' Γ) (h : lk Γ t = some φ := by exact rfl) : SubT ((t, φ) :: Γ') Γ := SubT.cons (hasS h) k
def GW (ops : Array Oper) (Γ : Ctx) (o : Oper) (c want : Bool) : Prop := ∃ j d, o.guard = some (j, want) ∧ (ops[j]?).bind (·.dst) = some d ∧ lk Γ d = some (fBool c)
theorem GW.wants {c want : Bool} (h : GW ops Γ o c want) (hc : c = want) : WantsT ops Γ o := by
  obtain ⟨j, d, h1, h2, h3⟩ := h
  unfold WantsT; rw [h1]; exact ⟨d, c, h2, h3, hc⟩
theorem GW.unwants {c want : Bool} (h : GW ops Γ o c want) (hc : c ≠ want) : UnwantsT ops Γ o := by
  obtain ⟨j, d, h1, h2, h3⟩ := h
  exact ⟨j, want, d, _, h1, h2, h3, nb hc⟩
theorem Yg {d : Nat} {φ : Fact} {c want : Bool} (hc : c = want) (h : OpT P Γ [] o φ) (k : T β n ds ((d, φ) :: Γ) Δ (wpListIn (fw r) 0 P ops Q rest)) (hg : GW ops Γ o c want := by exact ⟨_, _, rfl, rfl, rfl⟩) (hd : o.dst = some d := by exact rfl) (hn : Nat.ble (d + 1) n = true := by exact rfl) :
    T β n ds Γ Δ (wpListIn (fw r) 0 P ops Q (o :: rest)) := T_y (hg.wants hc) hd hn h k
theorem Yt {d : Nat} {c : Bool} (hc : c = true) (k : T β n ds ((d, fEq undef) :: Γ) Δ (wpListIn (fw r) 0 P ops Q rest)) (hg : GW ops Γ o c false := by exact ⟨_, _, rfl, rfl, rfl⟩) (hd : o.dst = some d := by exact rfl) (hn : Nat.ble (d + 1) n = true := by exact rfl) :
    T β n ds Γ Δ (wpListIn (fw r) 0 P ops Q (o :: rest)) := T_skipop (hg.unwants (ne_ft hc)) hd hn k
theorem Yf {d : Nat} {c : Bool} (hc : c = false) (k : T β n ds ((d, fEq undef) :: Γ) Δ (wpListIn (fw r) 0 P ops Q rest)) (hg : GW ops Γ o c true := by exact ⟨_, _, rfl, rfl, rfl⟩) (hd : o.dst = some d := by exact rfl) (hn : Nat.ble (d + 1) n = true := by exact rfl) :
    T β n ds Γ Δ (wpListIn (fw r) 0 P ops Q (o :: rest)) := T_skipop (hg.unwants (ne_tf hc)) hd hn k
theorem Yd {d : Nat} {c want : Bool} (k : T β n ds ((d, fEq undef) :: Γ) Δ (wpListIn (fw r) 0 P ops Q rest)) (hg : GW ops Γ o c want := by exact ⟨_, _, rfl, rfl, rfl⟩) (hc : c ≠ want := by decide) (hd : o.dst = some d := by exact rfl) (hn : Nat.ble (d + 1) n = true := by exact rfl) :
    T β n ds Γ Δ (wpListIn (fw r) 0 P ops Q (o :: rest)) := T_skipop (hg.unwants hc) hd hn k
theorem Yo {d : Nat} {φ : Fact} {τ : Tk} (i : Nat) (hτ : Δ[i]? = some τ) (h : OpT P Γ [τ] o φ) (k : T β n ds ((d, φ) :: Γ) Δ (wpListIn (fw r) 0 P ops Q rest)) (hw : WantsT ops Γ o := by exact trivial) (hd : o.dst = some d := by exact rfl) (hn : Nat.ble (d + 1) n = true := by exact rfl) :
    T β n ds Γ Δ (wpListIn (fw r) 0 P ops Q (o :: rest)) := T_o1 i hw hτ hd hn h k
theorem Yh {d : Nat} {φ : Fact} {τ : Tk} {c want : Bool} (i : Nat) (hτ : Δ[i]? = some τ) (hc : c = want) (h : OpT P Γ [τ] o φ) (k : T β n ds ((d, φ) :: Γ) Δ (wpListIn (fw r) 0 P ops Q rest)) (hg : GW ops Γ o c want := by exact ⟨_, _, rfl, rfl, rfl⟩) (hd : o.dst = some d := by exact rfl) (hn : Nat.ble (d + 1) n = true := by exact rfl) :
    T β n ds Γ Δ (wpListIn (fw r) 0 P ops Q (o :: rest)) := T_o1 i (hg.wants hc) hτ hd hn h k
end
section
variable {P : Program} {Γ : Ctx} {Δ : List Tk} {r : Option Nat} {ops : Array Oper} {o : Oper} {l : List NO} {e : Env'} {i : Nat} {od : Env' → OD} {G : Env' → Cf → (Nat → Tk) → Prop}
theorem F0 {od : OD} {ps : List Nat} {wr : Bool} {ods : List (Env' → OD)} {us : List Us} (k : FitsL ods us) (h1 : od.ps = ps := by exact rfl) (h2 : od.wr = wr := by exact rfl) : FitsL ((fun _ => od) :: ods) ((ps, wr, []) :: us) := FitsL.cons (fits0 h1 h2) k
theorem My {d : Nat} {φ : Fact} {f : Oc → List Tk} (hod : od e = .op [] false (fun _ => φ) f := by exact rfl) (hfl : ∀ b, (f b).length = 0 := by exact fun _ => rfl) (hw : WantsT ops Γ o := by exact trivial) (hd : o.dst = some d := by exact rfl) (h : OpT P Γ [] o φ) (k : ∀ b, NC P r ops G l (e.set i b) (lk ((d, φ) :: Γ)) (dOf Δ)) :
    NC P r ops G ((i, o, od) :: l) e (lk Γ) (dOf Δ) := N_y hod hfl hw hd h k
theorem Ms {d : Nat} {c want : Bool} (hod : od e = .skip := by exact rfl) (hg : GW ops Γ o c want := by exact ⟨_, _, rfl, rfl, rfl⟩) (hd : o.dst = some d := by exact rfl) (hc : c ≠ want) (k : ∀ b, NC P r ops G l (e.set i b) (lk ((d, fEq undef) :: Γ)) (dOf Δ)) : NC P r ops G ((i, o, od) :: l) e (lk Γ) (dOf Δ) := N_skip hod (hg.unwants hc) hd k
end
end Go.SW
namespace Go.Dt
open Go.SX Go.SW
structure ScopeExp where
  Op : Int
  N : Int
  Kids : List ScopeExp
inductive ScopeExpAt (m : Mem) : Addr → ScopeExp → Prop
  | mk (p : Addr) (x : ScopeExp) (v2 : Value) (q2 : Nat → Addr) : (∃ u, m.cell p = some u ∧ (fInt .i64 x.Op).p m u) → (∃ u, m.cell (p.add 1) = some u ∧ (fInt .i64 x.N).p m u) → m.cell (p.add 2) = some v2 → Sl v2 x.Kids.length 3 q2 → x.Kids.length ≤ 1000000000 → (∀ (i : Nat) y, x.Kids[i]? = some y → ScopeExpAt m (q2 i) y) → ScopeExpAt m p x
theorem ScopeExpAt.mono {m m' : Mem} (h : Mem.le m m') : ∀ {p : Addr} {x : ScopeExp}, ScopeExpAt m p x → ScopeExpAt m' p x := fun {p x} k => by
  induction k with
  | mk p x v2 q2 e0 e1 c2 s2 l2 _r2 ih2 => exact .mk p x v2 q2 (let ⟨u, a, b⟩ := e0; ⟨u, Mem.cell_mono h a, Fact.mono _ h b⟩) (let ⟨u, a, b⟩ := e1; ⟨u, Mem.cell_mono h a, Fact.mono _ h b⟩) (Mem.cell_mono h c2) s2 l2 ih2
def fScopeExps (xs : List ScopeExp) : Fact := ⟨fun m v => ∃ q, Sl v xs.length 3 q ∧ xs.length ≤ 1000000000 ∧ ∀ (i : Nat) y, xs[i]? = some y → ScopeExpAt m (q i) y, fun h ⟨q, h1, h2, h3⟩ => ⟨q, h1, h2, fun i y hy => (h3 i y hy).mono h⟩⟩
theorem leaf_ScopeExps {xs : List ScopeExp} : Leaf (fScopeExps xs) := fun _ _ ⟨_, h, _⟩ => h.isCell
def tScopeExp : Ty ScopeExp := ⟨3, fun x => [fInt .i64 x.Op, fInt .i64 x.N, fScopeExps x.Kids], fun _ => rfl, fun x => (ll_cons (leaf_eq trivial) (ll_cons (leaf_eq trivial) (ll_cons (leaf_ScopeExps) ll_nil)))⟩
theorem tScopeExp_at {m : Mem} {p : Addr} {x : ScopeExp} : tScopeExp.at m p x ↔ ScopeExpAt m p x := by
  constructor
  · rintro ⟨cs, ⟨c0, r0, rfl, h0, ⟨c1, r1, rfl, h1, ⟨c2, r2, rfl, h2, hn⟩⟩⟩, hc⟩
    have hn : r2 = [] := hn
    subst hn
    obtain ⟨q2, s2, l2, a2⟩ := h2
    exact .mk p x c2 q2 ⟨c0, hc 0 _ rfl, h0⟩ ⟨c1, hc 1 _ rfl, h1⟩ (hc 2 _ rfl) s2 l2 a2
  · rintro ⟨p, x, v2, q2, ⟨u0, g0, e0⟩, ⟨u1, g1, e1⟩, g2, s2, l2, a2⟩
    refine ⟨[u0, u1, v2], ⟨u0, [u1, v2], rfl, e0, ⟨u1, [v2], rfl, e1, ⟨v2, [], rfl, ⟨q2, s2, l2, a2⟩, rfl⟩⟩⟩, fun j c hj => ?_⟩
    match j, hj with
    | 0, hj => cases hj; exact g0
    | 1, hj => cases hj; exact g1
    | 2, hj => cases hj; exact g2
    | j + 3, hj => simp at hj
theorem ScopeExps_eq {xs : List ScopeExp} : fScopeExps xs = fSl tScopeExp xs := Fact.ext' fun m v => by
  constructor
  · rintro ⟨q, h1, h2, h3⟩; exact ⟨q, h1, h2, fun i x hx => tScopeExp_at.2 (h3 i x hx)⟩
  · rintro ⟨q, h1, h2, h3⟩; exact ⟨q, h1, h2, fun i x hx => tScopeExp_at.1 (h3 i x hx)⟩
theorem ent_to_ScopeExps {φ : Fact} {xs : List ScopeExp} (h : Ent φ (fSl tScopeExp xs)) : Ent φ (fScopeExps xs) := by rw [ScopeExps_eq]; exact h
structure ScopeNode where
  Op : Int
  N : Int
  Args : List ScopeExp
  Kids : List Int
def tScopeNode : Ty ScopeNode := ⟨4, fun x => [fInt .i64 x.Op, fInt .i64 x.N, fSl tScopeExp x.Args, fSl (tInt .i64) x.Kids], fun _ => rfl, fun x => (ll_cons (leaf_eq trivial) (ll_cons (leaf_eq trivial) (ll_cons (leaf_sl) (ll_cons (leaf_sl) ll_nil))))⟩
structure ScopeChan where
  At : Int
  Many : Int
def tScopeChan : Ty ScopeChan := ⟨2, fun x => [fInt .i64 x.At, fInt .i64 x.Many], fun _ => rfl, fun x => (ll_cons (leaf_eq trivial) (ll_cons (leaf_eq trivial) ll_nil))⟩
structure ScopeSpot where
  In : Int
  Node : Int
def tScopeSpot : Ty ScopeSpot := ⟨2, fun x => [fInt .i64 x.In, fInt .i64 x.Node], fun _ => rfl, fun x => (ll_cons (leaf_eq trivial) (ll_cons (leaf_eq trivial) ll_nil))⟩
structure ScopeRule where
  At : Int
  Joins : List Int
  Node : Int
def tScopeRule : Ty ScopeRule := ⟨3, fun x => [fInt .i64 x.At, fSl (tInt .i64) x.Joins, fInt .i64 x.Node], fun _ => rfl, fun x => (ll_cons (leaf_eq trivial) (ll_cons (leaf_sl) (ll_cons (leaf_eq trivial) ll_nil)))⟩
structure ScopeDef where
  Chans : List ScopeChan
  Spots : List ScopeSpot
  Rules : List ScopeRule
def tScopeDef : Ty ScopeDef := ⟨3, fun x => [fSl tScopeChan x.Chans, fSl tScopeSpot x.Spots, fSl tScopeRule x.Rules], fun _ => rfl, fun x => (ll_cons (leaf_sl) (ll_cons (leaf_sl) (ll_cons (leaf_sl) ll_nil)))⟩
structure ScopeProg where
  Free : List ByteArray
  Nodes : List ScopeNode
  Defs : List ScopeDef
  Main : Int
def tScopeProg : Ty ScopeProg := ⟨4, fun x => [fSl tStr x.Free, fSl tScopeNode x.Nodes, fSl tScopeDef x.Defs, fInt .i64 x.Main], fun _ => rfl, fun x => (ll_cons (leaf_sl) (ll_cons (leaf_sl) (ll_cons (leaf_sl) (ll_cons (leaf_eq trivial) ll_nil))))⟩
structure UsageDef where
  Chans : List Int
  Rules : List Int
  Args : List (List Int)
def tUsageDef : Ty UsageDef := ⟨3, fun x => [fSl (tInt .i64) x.Chans, fSl (tInt .i64) x.Rules, fSl (tSl (tInt .i64)) x.Args], fun _ => rfl, fun x => (ll_cons (leaf_sl) (ll_cons (leaf_sl) (ll_cons (leaf_sl) ll_nil)))⟩
def oUsageDef : OTy UsageDef := ⟨3, fun x => [.own (fun v => tRow v 41 (tInt .i64) x.Chans) (fun _ => row_isCell), .own (fun v => tRow v 41 (tInt .i64) x.Rules) (fun _ => row_isCell), .own (fun v => tRowD v 37 (oRowT 41 (tInt .i64)) x.Args) (fun _ => rowG_cell)], fun _ => rfl⟩
structure Ref03_look where
  p : ScopeProg
  sizes : List Int
  owner : List Int
  users : List Int
  bad : Bool
structure Usage_channel where
  def_ : Int
  index : Int
def tUsage_channel : Ty Usage_channel := ⟨2, fun x => [fInt .i64 x.def_, fInt .i64 x.index], fun _ => rfl, fun x => (ll_cons (leaf_eq trivial) (ll_cons (leaf_eq trivial) ll_nil))⟩
structure Usage_text where
  ScopeProg : ScopeProg
  denotes : List (GMap Int Usage_channel)
  sizes : List Int
  heads : List Int
def tUsage_text : Ty Usage_text := ⟨7, fun x => tScopeProg.leafs x.ScopeProg ++ [fSl (tMapD kInt (fun y => fSt tUsage_channel y)) x.denotes, fSl (tInt .i64) x.sizes, fSl (tInt .i64) x.heads], fun _ => rfl, fun x => (ll_app (tScopeProg.cell x.ScopeProg) (ll_cons (leaf_sl) (ll_cons (leaf_sl) (ll_cons (leaf_sl) ll_nil))))⟩
structure Usage_text_R where
  ScopeProg : ScopeProg
  denotes : Value
  sizes : List Int
  heads : Value
def tUsage_text_R : Ty Usage_text_R := ⟨7, fun x => tScopeProg.leafs x.ScopeProg ++ [fRaw x.denotes, fSl (tInt .i64) x.sizes, fRaw x.heads], fun _ => rfl, fun x => (ll_app (tScopeProg.cell x.ScopeProg) (ll_cons (leaf_raw) (ll_cons (leaf_sl) (ll_cons (leaf_raw) ll_nil))))⟩
def tUsage_textP : Ty Usage_text := ⟨7, fun x => tScopeProg.leafs x.ScopeProg ++ [fCell, fSl (tInt .i64) x.sizes, fCell], fun _ => rfl, fun x => (ll_app (tScopeProg.cell x.ScopeProg) (ll_cons (leaf_cell) (ll_cons (leaf_sl) (ll_cons (leaf_cell) ll_nil))))⟩
theorem ent_Usage_textP {x : Usage_text} : Ent (fPtr tUsage_text x) (fPtr tUsage_textP x) := ent_ptr (EntL.app EntL.rfl (EntL.cons (ent_cell leaf_sl) (EntL.cons Ent.rfl (EntL.cons (ent_cell leaf_sl) EntL.nil))))
theorem ent_RUsage_textP {x : Usage_text} {h_denotes h_heads : Value} : Ent (fPtr tUsage_text_R (⟨x.ScopeProg, h_denotes, x.sizes, h_heads⟩ : Usage_text_R)) (fPtr tUsage_textP x) := ent_ptr (EntL.app EntL.rfl (EntL.cons (ent_cell leaf_raw) (EntL.cons Ent.rfl (EntL.cons (ent_cell leaf_raw) EntL.nil))))
structure Scope_looker where
  p : ScopeProg
  sizes : List Int
  met : List Bool
  defs : List Bool
def tScope_looker : Ty Scope_looker := ⟨7, fun x => tScopeProg.leafs x.p ++ [fSl (tInt .i64) x.sizes, fSl tBool x.met, fSl tBool x.defs], fun _ => rfl, fun x => (ll_app (tScopeProg.cell x.p) (ll_cons (leaf_sl) (ll_cons (leaf_sl) (ll_cons (leaf_sl) ll_nil))))⟩
structure Scope_flaw where
  e : Int
structure Scope_speaks where
def tScope_speaks : Ty Scope_speaks := ⟨0, fun x => [], fun _ => rfl, fun x => ll_nil⟩
structure Scope_travels where
def tScope_travels : Ty Scope_travels := ⟨0, fun x => [], fun _ => rfl, fun x => ll_nil⟩
structure Scope_declares where
def tScope_declares : Ty Scope_declares := ⟨0, fun x => [], fun _ => rfl, fun x => ll_nil⟩
structure Scope_decides where
def tScope_decides : Ty Scope_decides := ⟨0, fun x => [], fun _ => rfl, fun x => ll_nil⟩
theorem frzo_UsageDef : ∀ x, FrzL (oUsageDef.leafs x) (tUsageDef.leafs x) := fun x => (FrzL.cons (fun v => frz_row) (FrzL.cons (fun v => frz_row) (FrzL.cons (fun v => (frz_rowD rfl (fun x => FrzL.cons (fun v => frz_row) FrzL.nil))) FrzL.nil)))
theorem indo_UsageDef : ∀ x, IndL (oUsageDef.leafs x) := fun x => (IndL.cons (fun v => (ind_row ind_tInt)) (IndL.cons (fun v => (ind_row ind_tInt)) (IndL.cons (fun v => (ind_rowD (fun x => IndL.cons (fun v => (ind_row ind_tInt)) IndL.nil))) IndL.nil)))
end Go.Dt
set_option maxRecDepth 100000
set_option maxHeartbeats 2000000
namespace Go.Proofs.Ytmnbfgeljmhekaa
open Go.SX Go.SW Go.Dt
theorem mixed : Try.prog.follows .mixedOrders = true := by kernel_rfl
theorem ty_ag_129 : AggN Try.prog 129 2 := (by kernel_rfl : aggB Try.prog 129 2 = true)
theorem ty_ag_26 : AggN Try.prog 26 4 := (by kernel_rfl : aggB Try.prog 26 4 = true)
theorem ty_ag_40 : AggN Try.prog 40 3 := (by kernel_rfl : aggB Try.prog 40 3 = true)
theorem ty_ag_44 : AggN Try.prog 44 2 := (by kernel_rfl : aggB Try.prog 44 2 = true)
theorem ty_ag_48 : AggN Try.prog 48 3 := (by kernel_rfl : aggB Try.prog 48 3 = true)
theorem ty_ag_52 : AggN Try.prog 52 3 := (by kernel_rfl : aggB Try.prog 52 3 = true)
theorem ty_ag_56 : AggN Try.prog 56 4 := (by kernel_rfl : aggB Try.prog 56 4 = true)
theorem ty_ag_90 : AggN Try.prog 90 2 := (by kernel_rfl : aggB Try.prog 90 2 = true)
theorem ty_ag_94 : AggN Try.prog 94 3 := (by kernel_rfl : aggB Try.prog 94 3 = true)
theorem ty_bu_129 : Builds Try.prog 129 [(0, 1), (1, 1)] (.agg #[.int .i64 0, .int .i64 0]) := ⟨(by kernel_rfl : placesB Try.prog 129 = some [(0, 1), (1, 1)]), (by kernel_rfl : zeroB Try.prog 129 = some (.agg #[.int .i64 0, .int .i64 0]))⟩
theorem ty_bu_137 : Builds Try.prog 137 [(0, 4), (4, 1), (5, 1), (6, 1)] (.agg #[.slice none 0 0, .slice none 0 0, .slice none 0 0, .int .i64 0, .slice none 0 0, .slice none 0 0, .slice none 0 0]) := ⟨(by kernel_rfl : placesB Try.prog 137 = some [(0, 4), (4, 1), (5, 1), (6, 1)]), (by kernel_rfl : zeroB Try.prog 137 = some (.agg #[.slice none 0 0, .slice none 0 0, .slice none 0 0, .int .i64 0, .slice none 0 0, .slice none 0 0, .slice none 0 0]))⟩
theorem ty_bu_149 : Builds Try.prog 149 [(0, 1)] (.agg #[.int .i64 0]) := ⟨(by kernel_rfl : placesB Try.prog 149 = some [(0, 1)]), (by kernel_rfl : zeroB Try.prog 149 = some (.agg #[.int .i64 0]))⟩
theorem ty_bu_168 : Builds Try.prog 168 [] (.agg #[]) := ⟨(by kernel_rfl : placesB Try.prog 168 = some []), (by kernel_rfl : zeroB Try.prog 168 = some (.agg #[]))⟩
theorem ty_bu_169 : Builds Try.prog 169 [] (.agg #[]) := ⟨(by kernel_rfl : placesB Try.prog 169 = some []), (by kernel_rfl : zeroB Try.prog 169 = some (.agg #[]))⟩
theorem ty_bu_170 : Builds Try.prog 170 [] (.agg #[]) := ⟨(by kernel_rfl : placesB Try.prog 170 = some []), (by kernel_rfl : zeroB Try.prog 170 = some (.agg #[]))⟩
theorem ty_bu_171 : Builds Try.prog 171 [] (.agg #[]) := ⟨(by kernel_rfl : placesB Try.prog 171 = some []), (by kernel_rfl : zeroB Try.prog 171 = some (.agg #[]))⟩
theorem ty_bu_26 : Builds Try.prog 26 [(0, 1), (1, 1), (2, 1), (3, 1)] (.agg #[.slice none 0 0, .slice none 0 0, .slice none 0 0, .int .i64 0]) := ⟨(by kernel_rfl : placesB Try.prog 26 = some [(0, 1), (1, 1), (2, 1), (3, 1)]), (by kernel_rfl : zeroB Try.prog 26 = some (.agg #[.slice none 0 0, .slice none 0 0, .slice none 0 0, .int .i64 0]))⟩
theorem ty_bu_40 : Builds Try.prog 40 [(0, 1), (1, 1), (2, 1)] (.agg #[.slice none 0 0, .slice none 0 0, .slice none 0 0]) := ⟨(by kernel_rfl : placesB Try.prog 40 = some [(0, 1), (1, 1), (2, 1)]), (by kernel_rfl : zeroB Try.prog 40 = some (.agg #[.slice none 0 0, .slice none 0 0, .slice none 0 0]))⟩
theorem ty_bu_44 : Builds Try.prog 44 [(0, 1), (1, 1)] (.agg #[.int .i64 0, .int .i64 0]) := ⟨(by kernel_rfl : placesB Try.prog 44 = some [(0, 1), (1, 1)]), (by kernel_rfl : zeroB Try.prog 44 = some (.agg #[.int .i64 0, .int .i64 0]))⟩
theorem ty_bu_48 : Builds Try.prog 48 [(0, 1), (1, 1), (2, 1)] (.agg #[.int .i64 0, .slice none 0 0, .int .i64 0]) := ⟨(by kernel_rfl : placesB Try.prog 48 = some [(0, 1), (1, 1), (2, 1)]), (by kernel_rfl : zeroB Try.prog 48 = some (.agg #[.int .i64 0, .slice none 0 0, .int .i64 0]))⟩
theorem ty_bu_52 : Builds Try.prog 52 [(0, 1), (1, 1), (2, 1)] (.agg #[.slice none 0 0, .slice none 0 0, .slice none 0 0]) := ⟨(by kernel_rfl : placesB Try.prog 52 = some [(0, 1), (1, 1), (2, 1)]), (by kernel_rfl : zeroB Try.prog 52 = some (.agg #[.slice none 0 0, .slice none 0 0, .slice none 0 0]))⟩
theorem ty_bu_56 : Builds Try.prog 56 [(0, 1), (1, 1), (2, 1), (3, 1)] (.agg #[.int .i64 0, .int .i64 0, .slice none 0 0, .slice none 0 0]) := ⟨(by kernel_rfl : placesB Try.prog 56 = some [(0, 1), (1, 1), (2, 1), (3, 1)]), (by kernel_rfl : zeroB Try.prog 56 = some (.agg #[.int .i64 0, .int .i64 0, .slice none 0 0, .slice none 0 0]))⟩
theorem ty_bu_79 : Builds Try.prog 79 [(0, 4), (4, 1), (5, 1), (6, 1)] (.agg #[.slice none 0 0, .slice none 0 0, .slice none 0 0, .int .i64 0, .slice none 0 0, .slice none 0 0, .slice none 0 0]) := ⟨(by kernel_rfl : placesB Try.prog 79 = some [(0, 4), (4, 1), (5, 1), (6, 1)]), (by kernel_rfl : zeroB Try.prog 79 = some (.agg #[.slice none 0 0, .slice none 0 0, .slice none 0 0, .int .i64 0, .slice none 0 0, .slice none 0 0, .slice none 0 0]))⟩
theorem ty_bu_94 : Builds Try.prog 94 [(0, 1), (1, 1), (2, 1)] (.agg #[.int .i64 0, .int .i64 0, .slice none 0 0]) := ⟨(by kernel_rfl : placesB Try.prog 94 = some [(0, 1), (1, 1), (2, 1)]), (by kernel_rfl : zeroB Try.prog 94 = some (.agg #[.int .i64 0, .int .i64 0, .slice none 0 0]))⟩
theorem ty_cb_100 : Callable Try.prog 100 := (by kernel_rfl : callB Try.prog 100 = true)
theorem ty_cb_101 : Callable Try.prog 101 := (by kernel_rfl : callB Try.prog 101 = true)
theorem ty_cb_102 : Callable Try.prog 102 := (by kernel_rfl : callB Try.prog 102 = true)
theorem ty_cb_103 : Callable Try.prog 103 := (by kernel_rfl : callB Try.prog 103 = true)
theorem ty_cb_11 : Callable Try.prog 11 := (by kernel_rfl : callB Try.prog 11 = true)
theorem ty_cb_119 : Callable Try.prog 119 := (by kernel_rfl : callB Try.prog 119 = true)
theorem ty_cb_12 : Callable Try.prog 12 := (by kernel_rfl : callB Try.prog 12 = true)
theorem ty_cb_120 : Callable Try.prog 120 := (by kernel_rfl : callB Try.prog 120 = true)
theorem ty_cb_121 : Callable Try.prog 121 := (by kernel_rfl : callB Try.prog 121 = true)
theorem ty_cb_122 : Callable Try.prog 122 := (by kernel_rfl : callB Try.prog 122 = true)
theorem ty_cb_123 : Callable Try.prog 123 := (by kernel_rfl : callB Try.prog 123 = true)
theorem ty_cb_13 : Callable Try.prog 13 := (by kernel_rfl : callB Try.prog 13 = true)
theorem ty_cb_14 : Callable Try.prog 14 := (by kernel_rfl : callB Try.prog 14 = true)
theorem ty_cb_16 : Callable Try.prog 16 := (by kernel_rfl : callB Try.prog 16 = true)
theorem ty_cb_17 : Callable Try.prog 17 := (by kernel_rfl : callB Try.prog 17 = true)
theorem ty_cb_18 : Callable Try.prog 18 := (by kernel_rfl : callB Try.prog 18 = true)
theorem ty_cb_19 : Callable Try.prog 19 := (by kernel_rfl : callB Try.prog 19 = true)
theorem ty_cb_20 : Callable Try.prog 20 := (by kernel_rfl : callB Try.prog 20 = true)
theorem ty_cb_21 : Callable Try.prog 21 := (by kernel_rfl : callB Try.prog 21 = true)
theorem ty_cb_22 : Callable Try.prog 22 := (by kernel_rfl : callB Try.prog 22 = true)
theorem ty_cb_23 : Callable Try.prog 23 := (by kernel_rfl : callB Try.prog 23 = true)
theorem ty_cb_24 : Callable Try.prog 24 := (by kernel_rfl : callB Try.prog 24 = true)
theorem ty_cb_25 : Callable Try.prog 25 := (by kernel_rfl : callB Try.prog 25 = true)
theorem ty_cb_26 : Callable Try.prog 26 := (by kernel_rfl : callB Try.prog 26 = true)
theorem ty_cb_27 : Callable Try.prog 27 := (by kernel_rfl : callB Try.prog 27 = true)
theorem ty_cb_28 : Callable Try.prog 28 := (by kernel_rfl : callB Try.prog 28 = true)
theorem ty_cb_29 : Callable Try.prog 29 := (by kernel_rfl : callB Try.prog 29 = true)
theorem ty_cb_30 : Callable Try.prog 30 := (by kernel_rfl : callB Try.prog 30 = true)
theorem ty_cb_31 : Callable Try.prog 31 := (by kernel_rfl : callB Try.prog 31 = true)
theorem ty_cb_36 : Callable Try.prog 36 := (by kernel_rfl : callB Try.prog 36 = true)
theorem ty_cb_37 : Callable Try.prog 37 := (by kernel_rfl : callB Try.prog 37 = true)
theorem ty_cb_38 : Callable Try.prog 38 := (by kernel_rfl : callB Try.prog 38 = true)
theorem ty_cb_39 : Callable Try.prog 39 := (by kernel_rfl : callB Try.prog 39 = true)
theorem ty_cb_40 : Callable Try.prog 40 := (by kernel_rfl : callB Try.prog 40 = true)
theorem ty_cb_44 : Callable Try.prog 44 := (by kernel_rfl : callB Try.prog 44 = true)
theorem ty_cb_45 : Callable Try.prog 45 := (by kernel_rfl : callB Try.prog 45 = true)
theorem ty_cb_46 : Callable Try.prog 46 := (by kernel_rfl : callB Try.prog 46 = true)
theorem ty_cb_47 : Callable Try.prog 47 := (by kernel_rfl : callB Try.prog 47 = true)
theorem ty_cb_48 : Callable Try.prog 48 := (by kernel_rfl : callB Try.prog 48 = true)
theorem ty_cb_49 : Callable Try.prog 49 := (by kernel_rfl : callB Try.prog 49 = true)
theorem ty_cb_50 : Callable Try.prog 50 := (by kernel_rfl : callB Try.prog 50 = true)
theorem ty_cb_51 : Callable Try.prog 51 := (by kernel_rfl : callB Try.prog 51 = true)
theorem ty_cb_52 : Callable Try.prog 52 := (by kernel_rfl : callB Try.prog 52 = true)
theorem ty_cb_53 : Callable Try.prog 53 := (by kernel_rfl : callB Try.prog 53 = true)
theorem ty_cb_54 : Callable Try.prog 54 := (by kernel_rfl : callB Try.prog 54 = true)
theorem ty_cb_55 : Callable Try.prog 55 := (by kernel_rfl : callB Try.prog 55 = true)
theorem ty_cb_56 : Callable Try.prog 56 := (by kernel_rfl : callB Try.prog 56 = true)
theorem ty_cb_57 : Callable Try.prog 57 := (by kernel_rfl : callB Try.prog 57 = true)
theorem ty_cb_66 : Callable Try.prog 66 := (by kernel_rfl : callB Try.prog 66 = true)
theorem ty_cb_67 : Callable Try.prog 67 := (by kernel_rfl : callB Try.prog 67 = true)
theorem ty_cb_68 : Callable Try.prog 68 := (by kernel_rfl : callB Try.prog 68 = true)
theorem ty_cb_69 : Callable Try.prog 69 := (by kernel_rfl : callB Try.prog 69 = true)
theorem ty_cb_7 : Callable Try.prog 7 := (by kernel_rfl : callB Try.prog 7 = true)
theorem ty_cb_70 : Callable Try.prog 70 := (by kernel_rfl : callB Try.prog 70 = true)
theorem ty_cb_71 : Callable Try.prog 71 := (by kernel_rfl : callB Try.prog 71 = true)
theorem ty_cb_72 : Callable Try.prog 72 := (by kernel_rfl : callB Try.prog 72 = true)
theorem ty_cb_73 : Callable Try.prog 73 := (by kernel_rfl : callB Try.prog 73 = true)
theorem ty_cb_74 : Callable Try.prog 74 := (by kernel_rfl : callB Try.prog 74 = true)
theorem ty_cb_75 : Callable Try.prog 75 := (by kernel_rfl : callB Try.prog 75 = true)
theorem ty_cb_76 : Callable Try.prog 76 := (by kernel_rfl : callB Try.prog 76 = true)
theorem ty_cb_77 : Callable Try.prog 77 := (by kernel_rfl : callB Try.prog 77 = true)
theorem ty_cb_78 : Callable Try.prog 78 := (by kernel_rfl : callB Try.prog 78 = true)
theorem ty_cb_8 : Callable Try.prog 8 := (by kernel_rfl : callB Try.prog 8 = true)
theorem ty_cb_83 : Callable Try.prog 83 := (by kernel_rfl : callB Try.prog 83 = true)
theorem ty_cb_84 : Callable Try.prog 84 := (by kernel_rfl : callB Try.prog 84 = true)
theorem ty_cb_85 : Callable Try.prog 85 := (by kernel_rfl : callB Try.prog 85 = true)
theorem ty_cb_86 : Callable Try.prog 86 := (by kernel_rfl : callB Try.prog 86 = true)
theorem ty_cb_87 : Callable Try.prog 87 := (by kernel_rfl : callB Try.prog 87 = true)
theorem ty_cb_88 : Callable Try.prog 88 := (by kernel_rfl : callB Try.prog 88 = true)
theorem ty_cb_89 : Callable Try.prog 89 := (by kernel_rfl : callB Try.prog 89 = true)
theorem ty_cb_9 : Callable Try.prog 9 := (by kernel_rfl : callB Try.prog 9 = true)
theorem ty_cb_90 : Callable Try.prog 90 := (by kernel_rfl : callB Try.prog 90 = true)
theorem ty_cb_92 : Callable Try.prog 92 := (by kernel_rfl : callB Try.prog 92 = true)
theorem ty_cb_93 : Callable Try.prog 93 := (by kernel_rfl : callB Try.prog 93 = true)
theorem ty_cb_94 : Callable Try.prog 94 := (by kernel_rfl : callB Try.prog 94 = true)
theorem ty_cb_95 : Callable Try.prog 95 := (by kernel_rfl : callB Try.prog 95 = true)
theorem ty_cb_96 : Callable Try.prog 96 := (by kernel_rfl : callB Try.prog 96 = true)
theorem ty_cb_97 : Callable Try.prog 97 := (by kernel_rfl : callB Try.prog 97 = true)
theorem ty_cb_98 : Callable Try.prog 98 := (by kernel_rfl : callB Try.prog 98 = true)
theorem ty_cb_99 : Callable Try.prog 99 := (by kernel_rfl : callB Try.prog 99 = true)
theorem ty_el_119 : ElemN Try.prog 119 1 := (by kernel_rfl : elemB Try.prog 119 = some 1)
theorem ty_el_142 : ElemN Try.prog 142 1 := (by kernel_rfl : elemB Try.prog 142 = some 1)
theorem ty_el_143 : ElemN Try.prog 143 1 := (by kernel_rfl : elemB Try.prog 143 = some 1)
theorem ty_el_22 : ElemN Try.prog 22 1 := (by kernel_rfl : elemB Try.prog 22 = some 1)
theorem ty_el_23 : ElemN Try.prog 23 4 := (by kernel_rfl : elemB Try.prog 23 = some 4)
theorem ty_el_24 : ElemN Try.prog 24 3 := (by kernel_rfl : elemB Try.prog 24 = some 3)
theorem ty_el_27 : ElemN Try.prog 27 3 := (by kernel_rfl : elemB Try.prog 27 = some 3)
theorem ty_el_37 : ElemN Try.prog 37 1 := (by kernel_rfl : elemB Try.prog 37 = some 1)
theorem ty_el_38 : ElemN Try.prog 38 1 := (by kernel_rfl : elemB Try.prog 38 = some 1)
theorem ty_el_45 : ElemN Try.prog 45 2 := (by kernel_rfl : elemB Try.prog 45 = some 2)
theorem ty_el_46 : ElemN Try.prog 46 1 := (by kernel_rfl : elemB Try.prog 46 = some 1)
theorem ty_el_49 : ElemN Try.prog 49 3 := (by kernel_rfl : elemB Try.prog 49 = some 3)
theorem ty_el_50 : ElemN Try.prog 50 2 := (by kernel_rfl : elemB Try.prog 50 = some 2)
theorem ty_el_54 : ElemN Try.prog 54 3 := (by kernel_rfl : elemB Try.prog 54 = some 3)
theorem ty_el_77 : ElemN Try.prog 77 1 := (by kernel_rfl : elemB Try.prog 77 = some 1)
theorem ty_et_119 : ElT Try.prog 119 4 1 1 := (by kernel_rfl : elB Try.prog 119 4 1 1 = true)
theorem ty_et_142 : ElT Try.prog 142 143 1 24 := (by kernel_rfl : elB Try.prog 142 143 1 24 = true)
theorem ty_et_143 : ElT Try.prog 143 80 1 8 := (by kernel_rfl : elB Try.prog 143 80 1 8 = true)
theorem ty_et_22 : ElT Try.prog 22 9 1 16 := (by kernel_rfl : elB Try.prog 22 9 1 16 = true)
theorem ty_et_23 : ElT Try.prog 23 56 4 64 := (by kernel_rfl : elB Try.prog 23 56 4 64 = true)
theorem ty_et_24 : ElT Try.prog 24 52 3 72 := (by kernel_rfl : elB Try.prog 24 52 3 72 = true)
theorem ty_et_27 : ElT Try.prog 27 40 3 72 := (by kernel_rfl : elB Try.prog 27 40 3 72 = true)
theorem ty_et_37 : ElT Try.prog 37 41 1 8 := (by kernel_rfl : elB Try.prog 37 41 1 8 = true)
theorem ty_et_38 : ElT Try.prog 38 37 1 24 := (by kernel_rfl : elB Try.prog 38 37 1 24 = true)
theorem ty_et_45 : ElT Try.prog 45 44 2 16 := (by kernel_rfl : elB Try.prog 45 44 2 16 = true)
theorem ty_et_46 : ElT Try.prog 46 3 1 8 := (by kernel_rfl : elB Try.prog 46 3 1 8 = true)
theorem ty_et_49 : ElT Try.prog 49 48 3 40 := (by kernel_rfl : elB Try.prog 49 48 3 40 = true)
theorem ty_et_50 : ElT Try.prog 50 90 2 16 := (by kernel_rfl : elB Try.prog 50 90 2 16 = true)
theorem ty_et_54 : ElT Try.prog 54 94 3 40 := (by kernel_rfl : elB Try.prog 54 94 3 40 = true)
theorem ty_et_77 : ElT Try.prog 77 108 1 8 := (by kernel_rfl : elB Try.prog 77 108 1 8 = true)
theorem ty_fa_129_0 : FieldAt Try.prog 129 0 0 := (by kernel_rfl : fieldB Try.prog 129 0 = some 0)
theorem ty_fa_129_1 : FieldAt Try.prog 129 1 1 := (by kernel_rfl : fieldB Try.prog 129 1 = some 1)
theorem ty_fa_137_0 : FieldAt Try.prog 137 0 0 := (by kernel_rfl : fieldB Try.prog 137 0 = some 0)
theorem ty_fa_137_1 : FieldAt Try.prog 137 1 4 := (by kernel_rfl : fieldB Try.prog 137 1 = some 4)
theorem ty_fa_137_2 : FieldAt Try.prog 137 2 5 := (by kernel_rfl : fieldB Try.prog 137 2 = some 5)
theorem ty_fa_137_3 : FieldAt Try.prog 137 3 6 := (by kernel_rfl : fieldB Try.prog 137 3 = some 6)
theorem ty_fa_149_0 : FieldAt Try.prog 149 0 0 := (by kernel_rfl : fieldB Try.prog 149 0 = some 0)
theorem ty_fa_26_0 : FieldAt Try.prog 26 0 0 := (by kernel_rfl : fieldB Try.prog 26 0 = some 0)
theorem ty_fa_26_1 : FieldAt Try.prog 26 1 1 := (by kernel_rfl : fieldB Try.prog 26 1 = some 1)
theorem ty_fa_26_2 : FieldAt Try.prog 26 2 2 := (by kernel_rfl : fieldB Try.prog 26 2 = some 2)
theorem ty_fa_26_3 : FieldAt Try.prog 26 3 3 := (by kernel_rfl : fieldB Try.prog 26 3 = some 3)
theorem ty_fa_40_0 : FieldAt Try.prog 40 0 0 := (by kernel_rfl : fieldB Try.prog 40 0 = some 0)
theorem ty_fa_40_1 : FieldAt Try.prog 40 1 1 := (by kernel_rfl : fieldB Try.prog 40 1 = some 1)
theorem ty_fa_40_2 : FieldAt Try.prog 40 2 2 := (by kernel_rfl : fieldB Try.prog 40 2 = some 2)
theorem ty_fa_44_0 : FieldAt Try.prog 44 0 0 := (by kernel_rfl : fieldB Try.prog 44 0 = some 0)
theorem ty_fa_44_1 : FieldAt Try.prog 44 1 1 := (by kernel_rfl : fieldB Try.prog 44 1 = some 1)
theorem ty_fa_48_0 : FieldAt Try.prog 48 0 0 := (by kernel_rfl : fieldB Try.prog 48 0 = some 0)
theorem ty_fa_48_1 : FieldAt Try.prog 48 1 1 := (by kernel_rfl : fieldB Try.prog 48 1 = some 1)
theorem ty_fa_48_2 : FieldAt Try.prog 48 2 2 := (by kernel_rfl : fieldB Try.prog 48 2 = some 2)
theorem ty_fa_52_0 : FieldAt Try.prog 52 0 0 := (by kernel_rfl : fieldB Try.prog 52 0 = some 0)
theorem ty_fa_52_1 : FieldAt Try.prog 52 1 1 := (by kernel_rfl : fieldB Try.prog 52 1 = some 1)
theorem ty_fa_52_2 : FieldAt Try.prog 52 2 2 := (by kernel_rfl : fieldB Try.prog 52 2 = some 2)
theorem ty_fa_56_0 : FieldAt Try.prog 56 0 0 := (by kernel_rfl : fieldB Try.prog 56 0 = some 0)
theorem ty_fa_56_1 : FieldAt Try.prog 56 1 1 := (by kernel_rfl : fieldB Try.prog 56 1 = some 1)
theorem ty_fa_56_2 : FieldAt Try.prog 56 2 2 := (by kernel_rfl : fieldB Try.prog 56 2 = some 2)
theorem ty_fa_56_3 : FieldAt Try.prog 56 3 3 := (by kernel_rfl : fieldB Try.prog 56 3 = some 3)
theorem ty_fa_79_0 : FieldAt Try.prog 79 0 0 := (by kernel_rfl : fieldB Try.prog 79 0 = some 0)
theorem ty_fa_79_1 : FieldAt Try.prog 79 1 4 := (by kernel_rfl : fieldB Try.prog 79 1 = some 4)
theorem ty_fa_79_2 : FieldAt Try.prog 79 2 5 := (by kernel_rfl : fieldB Try.prog 79 2 = some 5)
theorem ty_fa_79_3 : FieldAt Try.prog 79 3 6 := (by kernel_rfl : fieldB Try.prog 79 3 = some 6)
theorem ty_fa_90_0 : FieldAt Try.prog 90 0 0 := (by kernel_rfl : fieldB Try.prog 90 0 = some 0)
theorem ty_fa_90_1 : FieldAt Try.prog 90 1 1 := (by kernel_rfl : fieldB Try.prog 90 1 = some 1)
theorem ty_fa_94_0 : FieldAt Try.prog 94 0 0 := (by kernel_rfl : fieldB Try.prog 94 0 = some 0)
theorem ty_fa_94_1 : FieldAt Try.prog 94 1 1 := (by kernel_rfl : fieldB Try.prog 94 1 = some 1)
theorem ty_fa_94_2 : FieldAt Try.prog 94 2 2 := (by kernel_rfl : fieldB Try.prog 94 2 = some 2)
theorem ty_mp_108 : MapTy Try.prog 108 kInt (.agg #[.int .i64 0, .int .i64 0]) := ⟨3, 129, by kernel_rfl, by kernel_rfl, by kernel_rfl⟩
theorem ty_mp_161 : MapTy Try.prog 161 kStr (.bool false) := ⟨9, 4, by kernel_rfl, by kernel_rfl, by kernel_rfl⟩
theorem ty_mp_177 : MapTy Try.prog 177 kInt (.bool false) := ⟨3, 4, by kernel_rfl, by kernel_rfl, by kernel_rfl⟩
theorem ty_ni_149 : niB Try.prog 149 = true := by kernel_rfl
theorem ty_ni_168 : niB Try.prog 168 = true := by kernel_rfl
theorem ty_ni_169 : niB Try.prog 169 = true := by kernel_rfl
theorem ty_ni_170 : niB Try.prog 170 = true := by kernel_rfl
theorem ty_ni_171 : niB Try.prog 171 = true := by kernel_rfl
theorem ty_ni_175 : niB Try.prog 175 = true := by kernel_rfl
theorem ty_ni_9 : niB Try.prog 9 = true := by kernel_rfl
theorem ty_sc_108 : Scal Try.prog 108 := (by kernel_rfl : scalB Try.prog 108 = true)
theorem ty_sc_119 : Scal Try.prog 119 := (by kernel_rfl : scalB Try.prog 119 = true)
theorem ty_sc_138 : Scal Try.prog 138 := (by kernel_rfl : scalB Try.prog 138 = true)
theorem ty_sc_143 : Scal Try.prog 143 := (by kernel_rfl : scalB Try.prog 143 = true)
theorem ty_sc_144 : Scal Try.prog 144 := (by kernel_rfl : scalB Try.prog 144 = true)
theorem ty_sc_172 : Scal Try.prog 172 := (by kernel_rfl : scalB Try.prog 172 = true)
theorem ty_sc_22 : Scal Try.prog 22 := (by kernel_rfl : scalB Try.prog 22 = true)
theorem ty_sc_23 : Scal Try.prog 23 := (by kernel_rfl : scalB Try.prog 23 = true)
theorem ty_sc_24 : Scal Try.prog 24 := (by kernel_rfl : scalB Try.prog 24 = true)
theorem ty_sc_27 : Scal Try.prog 27 := (by kernel_rfl : scalB Try.prog 27 = true)
theorem ty_sc_29 : Scal Try.prog 29 := (by kernel_rfl : scalB Try.prog 29 = true)
theorem ty_sc_3 : Scal Try.prog 3 := (by kernel_rfl : scalB Try.prog 3 = true)
theorem ty_sc_37 : Scal Try.prog 37 := (by kernel_rfl : scalB Try.prog 37 = true)
theorem ty_sc_38 : Scal Try.prog 38 := (by kernel_rfl : scalB Try.prog 38 = true)
theorem ty_sc_4 : Scal Try.prog 4 := (by kernel_rfl : scalB Try.prog 4 = true)
theorem ty_sc_41 : Scal Try.prog 41 := (by kernel_rfl : scalB Try.prog 41 = true)
theorem ty_sc_45 : Scal Try.prog 45 := (by kernel_rfl : scalB Try.prog 45 = true)
theorem ty_sc_46 : Scal Try.prog 46 := (by kernel_rfl : scalB Try.prog 46 = true)
theorem ty_sc_49 : Scal Try.prog 49 := (by kernel_rfl : scalB Try.prog 49 = true)
theorem ty_sc_50 : Scal Try.prog 50 := (by kernel_rfl : scalB Try.prog 50 = true)
theorem ty_sc_53 : Scal Try.prog 53 := (by kernel_rfl : scalB Try.prog 53 = true)
theorem ty_sc_54 : Scal Try.prog 54 := (by kernel_rfl : scalB Try.prog 54 = true)
theorem ty_sc_71 : Scal Try.prog 71 := (by kernel_rfl : scalB Try.prog 71 = true)
theorem ty_sc_75 : Scal Try.prog 75 := (by kernel_rfl : scalB Try.prog 75 = true)
theorem ty_sc_77 : Scal Try.prog 77 := (by kernel_rfl : scalB Try.prog 77 = true)
theorem ty_sc_80 : Scal Try.prog 80 := (by kernel_rfl : scalB Try.prog 80 = true)
theorem ty_sc_9 : Scal Try.prog 9 := (by kernel_rfl : scalB Try.prog 9 = true)
theorem ty_sc_92 : Scal Try.prog 92 := (by kernel_rfl : scalB Try.prog 92 = true)
theorem ty_sz_108 : SizeN Try.prog 108 1 := (by kernel_rfl : sizeB Try.prog 108 = some 1)
theorem ty_sz_129 : SizeN Try.prog 129 2 := (by kernel_rfl : sizeB Try.prog 129 = some 2)
theorem ty_sz_143 : SizeN Try.prog 143 1 := (by kernel_rfl : sizeB Try.prog 143 = some 1)
theorem ty_sz_149 : SizeN Try.prog 149 1 := (by kernel_rfl : sizeB Try.prog 149 = some 1)
theorem ty_sz_172 : SizeN Try.prog 172 1 := (by kernel_rfl : sizeB Try.prog 172 = some 1)
theorem ty_sz_23 : SizeN Try.prog 23 1 := (by kernel_rfl : sizeB Try.prog 23 = some 1)
theorem ty_sz_24 : SizeN Try.prog 24 1 := (by kernel_rfl : sizeB Try.prog 24 = some 1)
theorem ty_sz_26 : SizeN Try.prog 26 4 := (by kernel_rfl : sizeB Try.prog 26 = some 4)
theorem ty_sz_29 : SizeN Try.prog 29 1 := (by kernel_rfl : sizeB Try.prog 29 = some 1)
theorem ty_sz_3 : SizeN Try.prog 3 1 := (by kernel_rfl : sizeB Try.prog 3 = some 1)
theorem ty_sz_37 : SizeN Try.prog 37 1 := (by kernel_rfl : sizeB Try.prog 37 = some 1)
theorem ty_sz_38 : SizeN Try.prog 38 1 := (by kernel_rfl : sizeB Try.prog 38 = some 1)
theorem ty_sz_4 : SizeN Try.prog 4 1 := (by kernel_rfl : sizeB Try.prog 4 = some 1)
theorem ty_sz_40 : SizeN Try.prog 40 3 := (by kernel_rfl : sizeB Try.prog 40 = some 3)
theorem ty_sz_41 : SizeN Try.prog 41 1 := (by kernel_rfl : sizeB Try.prog 41 = some 1)
theorem ty_sz_44 : SizeN Try.prog 44 2 := (by kernel_rfl : sizeB Try.prog 44 = some 2)
theorem ty_sz_46 : SizeN Try.prog 46 1 := (by kernel_rfl : sizeB Try.prog 46 = some 1)
theorem ty_sz_48 : SizeN Try.prog 48 3 := (by kernel_rfl : sizeB Try.prog 48 = some 3)
theorem ty_sz_49 : SizeN Try.prog 49 1 := (by kernel_rfl : sizeB Try.prog 49 = some 1)
theorem ty_sz_50 : SizeN Try.prog 50 1 := (by kernel_rfl : sizeB Try.prog 50 = some 1)
theorem ty_sz_52 : SizeN Try.prog 52 3 := (by kernel_rfl : sizeB Try.prog 52 = some 3)
theorem ty_sz_56 : SizeN Try.prog 56 4 := (by kernel_rfl : sizeB Try.prog 56 = some 4)
theorem ty_sz_80 : SizeN Try.prog 80 1 := (by kernel_rfl : sizeB Try.prog 80 = some 1)
theorem ty_sz_90 : SizeN Try.prog 90 2 := (by kernel_rfl : sizeB Try.prog 90 = some 2)
theorem ty_sz_94 : SizeN Try.prog 94 3 := (by kernel_rfl : sizeB Try.prog 94 = some 3)
theorem ty_ubool_4 : Under Try.prog 4 .bool := (by kernel_rfl : Try.prog.underlying 4 = some .bool)
theorem ty_un_139 : Try.prog.underlying 139 = some (.int .u64) := by kernel_rfl
theorem ty_un_164 : Try.prog.underlying 164 = some (.interface ((Try.prog.underlying 164).elim #[] fun | .interface ms => ms | _ => #[])) := by kernel_rfl
theorem ty_un_20 : Try.prog.underlying 20 = some (.interface ((Try.prog.underlying 20).elim #[] fun | .interface ms => ms | _ => #[])) := by kernel_rfl
theorem ty_un_3 : Try.prog.underlying 3 = some (.int .i64) := by kernel_rfl
theorem ty_us_119 : Under Try.prog 119 (.slice 4) := (by kernel_rfl : Try.prog.underlying 119 = some (.slice 4))
theorem ty_us_142 : Under Try.prog 142 (.slice 143) := (by kernel_rfl : Try.prog.underlying 142 = some (.slice 143))
theorem ty_us_143 : Under Try.prog 143 (.slice 80) := (by kernel_rfl : Try.prog.underlying 143 = some (.slice 80))
theorem ty_us_22 : Under Try.prog 22 (.slice 9) := (by kernel_rfl : Try.prog.underlying 22 = some (.slice 9))
theorem ty_us_23 : Under Try.prog 23 (.slice 56) := (by kernel_rfl : Try.prog.underlying 23 = some (.slice 56))
theorem ty_us_24 : Under Try.prog 24 (.slice 52) := (by kernel_rfl : Try.prog.underlying 24 = some (.slice 52))
theorem ty_us_27 : Under Try.prog 27 (.slice 40) := (by kernel_rfl : Try.prog.underlying 27 = some (.slice 40))
theorem ty_us_37 : Under Try.prog 37 (.slice 41) := (by kernel_rfl : Try.prog.underlying 37 = some (.slice 41))
theorem ty_us_38 : Under Try.prog 38 (.slice 37) := (by kernel_rfl : Try.prog.underlying 38 = some (.slice 37))
theorem ty_us_45 : Under Try.prog 45 (.slice 44) := (by kernel_rfl : Try.prog.underlying 45 = some (.slice 44))
theorem ty_us_46 : Under Try.prog 46 (.slice 3) := (by kernel_rfl : Try.prog.underlying 46 = some (.slice 3))
theorem ty_us_49 : Under Try.prog 49 (.slice 48) := (by kernel_rfl : Try.prog.underlying 49 = some (.slice 48))
theorem ty_us_50 : Under Try.prog 50 (.slice 90) := (by kernel_rfl : Try.prog.underlying 50 = some (.slice 90))
theorem ty_us_54 : Under Try.prog 54 (.slice 94) := (by kernel_rfl : Try.prog.underlying 54 = some (.slice 94))
theorem ty_ustr_9 : Under Try.prog 9 .string := (by kernel_rfl : Try.prog.underlying 9 = some .string)
theorem ty_zb_149 : zeroB Try.prog 149 = some (.agg #[.int .i64 0]) := by kernel_rfl
theorem ty_zb_168 : zeroB Try.prog 168 = some (.agg #[]) := by kernel_rfl
theorem ty_zb_169 : zeroB Try.prog 169 = some (.agg #[]) := by kernel_rfl
theorem ty_zb_170 : zeroB Try.prog 170 = some (.agg #[]) := by kernel_rfl
theorem ty_zb_171 : zeroB Try.prog 171 = some (.agg #[]) := by kernel_rfl
theorem ty_ze_108 : SX.Zero Try.prog 108 (.map none) := (by kernel_rfl : zeroB Try.prog 108 = some (.map none))
theorem ty_ze_129 : SX.Zero Try.prog 129 (.agg #[.int .i64 0, .int .i64 0]) := (by kernel_rfl : zeroB Try.prog 129 = some (.agg #[.int .i64 0, .int .i64 0]))
theorem ty_ze_143 : SX.Zero Try.prog 143 (.slice none 0 0) := (by kernel_rfl : zeroB Try.prog 143 = some (.slice none 0 0))
theorem ty_ze_149 : SX.Zero Try.prog 149 (.agg #[.int .i64 0]) := (by kernel_rfl : zeroB Try.prog 149 = some (.agg #[.int .i64 0]))
theorem ty_ze_172 : SX.Zero Try.prog 172 (.nilFunc) := (by kernel_rfl : zeroB Try.prog 172 = some (.nilFunc))
theorem ty_ze_26 : SX.Zero Try.prog 26 (.agg #[.slice none 0 0, .slice none 0 0, .slice none 0 0, .int .i64 0]) := (by kernel_rfl : zeroB Try.prog 26 = some (.agg #[.slice none 0 0, .slice none 0 0, .slice none 0 0, .int .i64 0]))
theorem ty_ze_29 : SX.Zero Try.prog 29 (.int .i64 0) := (by kernel_rfl : zeroB Try.prog 29 = some (.int .i64 0))
theorem ty_ze_3 : SX.Zero Try.prog 3 (.int .i64 0) := (by kernel_rfl : zeroB Try.prog 3 = some (.int .i64 0))
theorem ty_ze_4 : SX.Zero Try.prog 4 (.bool false) := (by kernel_rfl : zeroB Try.prog 4 = some (.bool false))
theorem ty_ze_40 : SX.Zero Try.prog 40 (.agg #[.slice none 0 0, .slice none 0 0, .slice none 0 0]) := (by kernel_rfl : zeroB Try.prog 40 = some (.agg #[.slice none 0 0, .slice none 0 0, .slice none 0 0]))
theorem ty_ze_41 : SX.Zero Try.prog 41 (.int .i64 0) := (by kernel_rfl : zeroB Try.prog 41 = some (.int .i64 0))
theorem ty_ze_44 : SX.Zero Try.prog 44 (.agg #[.int .i64 0, .int .i64 0]) := (by kernel_rfl : zeroB Try.prog 44 = some (.agg #[.int .i64 0, .int .i64 0]))
theorem ty_ze_48 : SX.Zero Try.prog 48 (.agg #[.int .i64 0, .slice none 0 0, .int .i64 0]) := (by kernel_rfl : zeroB Try.prog 48 = some (.agg #[.int .i64 0, .slice none 0 0, .int .i64 0]))
theorem ty_ze_52 : SX.Zero Try.prog 52 (.agg #[.slice none 0 0, .slice none 0 0, .slice none 0 0]) := (by kernel_rfl : zeroB Try.prog 52 = some (.agg #[.slice none 0 0, .slice none 0 0, .slice none 0 0]))
theorem ty_ze_56 : SX.Zero Try.prog 56 (.agg #[.int .i64 0, .int .i64 0, .slice none 0 0, .slice none 0 0]) := (by kernel_rfl : zeroB Try.prog 56 = some (.agg #[.int .i64 0, .int .i64 0, .slice none 0 0, .slice none 0 0]))
theorem ty_ze_80 : SX.Zero Try.prog 80 (.int .i64 0) := (by kernel_rfl : zeroB Try.prog 80 = some (.int .i64 0))
theorem ty_ze_90 : SX.Zero Try.prog 90 (.agg #[.int .i64 0, .int .i64 0]) := (by kernel_rfl : zeroB Try.prog 90 = some (.agg #[.int .i64 0, .int .i64 0]))
theorem ty_ze_94 : SX.Zero Try.prog 94 (.agg #[.int .i64 0, .int .i64 0, .slice none 0 0]) := (by kernel_rfl : zeroB Try.prog 94 = some (.agg #[.int .i64 0, .int .i64 0, .slice none 0 0]))
def own_Scope_looker3 (b : Nat) (x : Scope_looker) (v0 v1 v2 : Value) : List Tk := [tBlk b 137 [fSl tStr x.p.Free, fSl tScopeNode x.p.Nodes, fSl tScopeDef x.p.Defs, fInt .i64 x.p.Main, fEq v0, fEq v1, fEq v2], tRow v0 3 (tInt .i64) x.sizes, tRow v1 4 tBool x.met, tRow v2 4 tBool x.defs]
def own_Scope_looker2 (b : Nat) (x : Scope_looker) (v0 v1 : Value) : List Tk := [tEx (own_Scope_looker3 b x v0 v1)]
def own_Scope_looker1 (b : Nat) (x : Scope_looker) (v0 : Value) : List Tk := [tEx (own_Scope_looker2 b x v0)]
def own_Scope_looker (b : Nat) (x : Scope_looker) : Tk := tEx (own_Scope_looker1 b x)
theorem open_Scope_looker {β : Base} {n : Nat} {ds : List Deferred} {Γ : Ctx} {Δ : List Tk} {F : Act → World → Prop} {b : Nat} {x : Scope_looker} (h : ∀ v0 v1 v2, T β n ds Γ (tBlk b 137 [fSl tStr x.p.Free, fSl tScopeNode x.p.Nodes, fSl tScopeDef x.p.Defs, fInt .i64 x.p.Main, fEq v0, fEq v1, fEq v2] :: tRow v0 3 (tInt .i64) x.sizes :: tRow v1 4 tBool x.met :: tRow v2 4 tBool x.defs :: Δ) F) : T β n ds Γ (own_Scope_looker b x :: Δ) F := T_open (fun v0 => T_open (fun v1 => T_open (fun v2 => h v0 v1 v2)))
theorem close_Scope_looker {β : Base} {n : Nat} {ds : List Deferred} {Γ : Ctx} {Δ : List Tk} {F : Act → World → Prop} {b : Nat} {x : Scope_looker} {v0 v1 v2 : Value} (h : T β n ds Γ (own_Scope_looker b x :: Δ) F) : T β n ds Γ (tBlk b 137 [fSl tStr x.p.Free, fSl tScopeNode x.p.Nodes, fSl tScopeDef x.p.Defs, fInt .i64 x.p.Main, fEq v0, fEq v1, fEq v2] :: tRow v0 3 (tInt .i64) x.sizes :: tRow v1 4 tBool x.met :: tRow v2 4 tBool x.defs :: Δ) F := T_close (f := own_Scope_looker3 b x v0 v1) v2 (T_close (f := own_Scope_looker2 b x v0) v1 (T_close (f := own_Scope_looker1 b x) v0 (h)))
end Go.Proofs.Ytmnbfgeljmhekaa
set_option maxRecDepth 100000
set_option maxHeartbeats 2000000
namespace Go.Proofs.Ytmnbfgeljmhekaa
open Go.SX Go.SW Go.Dt
theorem scope_caught_ret (p0 : Nat) (e0 : Int) : FnD Try.prog 72 [fEq (ptr p0)] [tBlk p0 29 [fInt .i64 e0]] (.returning) [tBlk p0 29 [fInt .i64 e0]] := by
 refine FnD_of Try.func72 rfl Try.ntmps72 rfl (fun β c₀ cs hc => ?_)
 refine T_recover (v := .nilIface) (cs' := c₀ :: cs) (by simp [recoverD, hc]) rfl rfl rfl rfl rfl rfl ⟨rfl, rfl⟩ ?_
 refine T_inS ?_
 refine Sr ?_
 refine Ym ?_
 refine Yy (o_neqNilI rfl hh ty_un_20 (rfl : ifNil _ = some true)) ?_
 refine Nn ?_
 refine T_cond_f (has rfl) rfl ?_
 refine T_skip ?_
 exact T_endD (u' := .returning) (.inr rfl) rfl (by cases c₀; cases hc; rfl) rfl rfl
theorem scope_caught_pan (p0 : Nat) (e0 e1 : Int) : FnD Try.prog 72 [fEq (ptr p0)] [tBlk p0 29 [fInt .i64 e0]] (.panicking [{ v := (.iface 149 (.agg #[.int .i64 e1])), recovered := false }]) [tBlk p0 29 [fInt .i64 e1]] := by
 refine FnD_of Try.func72 rfl Try.ntmps72 rfl (fun β c₀ cs hc => ?_)
 refine T_recover (v := (.iface 149 (.agg #[.int .i64 e1]))) (cs' := { c₀ with mode := .panicking [{ v := (.iface 149 (.agg #[.int .i64 e1])), recovered := true }] } :: cs) (by simp [recoverD, hc]) rfl rfl rfl rfl rfl rfl ⟨rfl, rfl⟩ ?_
 refine T_inS ?_
 refine Sr ?_
 refine Ym ?_
 refine Yy (o_neqNilI rfl hh ty_un_20 (rfl : ifNil _ = some false)) ?_
 refine Nn ?_
 refine T_cond_t (has rfl) rfl ?_
 refine Sr ?_
 refine Ym ?_
 refine Yy (o_typeAssertT rfl hh ty_ni_149 ty_zb_149) ?_
 refine Ym ?_
 refine Yy (o_extract rfl hh rfl) ?_
 refine T_slot 11 rfl (ent_aggOf [(.int .i64 e1)]) ?_
 refine Yy (o_extract rfl hh rfl) ?_
 refine T_new trivial rfl rfl (n_alloc rfl ty_ze_149 rfl) (fun b1 => ?_)
 refine T_storeS (φs' := [fInt .i64 e1]) trivial rfl rfl (has rfl) (has rfl) (ll_cons (leaf_eq trivial) ll_nil) ty_sz_149 rfl rfl rfl ?_
 refine Ya ?_
 refine Nn ?_
 refine T_seq ?_
 refine Sr ?_
 refine Ym ?_
 refine Yy (o_not rfl hh) ?_
 refine Nn ?_
 refine T_cond_f (has rfl) rfl ?_
 refine T_skip ?_
 refine T_then_n ?_
 refine T_region ?_
 refine Ym ?_
 refine Yy (o_fieldB 0 rfl hh ty_fa_149_0 rfl) ?_
 refine Yo 0 rfl (o_loadB rfl hh ty_sc_29 rfl Ent.rfl) ?_
 refine Yy (o_nilCheck rfl (has rfl) (fun m v h => ⟨_, h⟩)) ?_
 refine T_fr1 ?_
 refine T_store (φs' := [fInt .i64 e1]) trivial rfl rfl (has rfl) (has rfl) (leaf_eq trivial) ty_sz_29 rfl rfl ?_
 refine T_nil ?_
 refine T_pick [0] (by decide) ?_
 exact T_endD (u' := .panicking [{ v := (.iface 149 (.agg #[.int .i64 e1])), recovered := true }]) (.inr rfl) rfl rfl rfl rfl
def scope_want_S (a0 : Bool) : Option (Unit ⊕ Value) :=
 bif a0 then
  some (Sum.inl ())
 else
  some (Sum.inr (.iface 149 (.agg ([(.int .i64 2)] : List Value).toArray)))
theorem scope_want_w  (a0 : Bool) (r : Unit ⊕ Value) (H : scope_want_S a0 = some r) : FnE Try.prog 84 [fBool a0] [] r (fun r => fTup []) (fun r => []) := by
 unfold scope_want_S at H
 refine FnE_of Try.func84 rfl Try.ntmps84 rfl (fun β => ?_)
 refine Sr ?_
 refine Ym ?_
 refine Yy (o_not rfl hh) ?_
 refine Nn ?_
 revert H; refine cs (fun c1 H => ?_) fun c1 H => ?_
 ·
  refine T_cond_f (has rfl) (not_t c1) ?_
  refine T_skip ?_
  cases H
  refine T_inl ?_
  exact T_out0 (.inr rfl) rfl rfl
 ·
  refine T_cond_t (has rfl) (not_f c1) ?_
  refine T_region ?_
  refine Yy (o_build (ψs := [fInt .i64 2]) rfl ty_bu_149 rfl (Parts.cons (has rfl) (part_leaf (leaf_eq trivial)) Parts.nil) rfl) ?_
  refine Yy (o_mkIface rfl (hasE rfl (ent_aggEq [(.int .i64 2)])) ty_ni_149) ?_
  refine T_panic trivial rfl (has rfl) ?_
  cases H
  exact T_inr
def term_keywords_S  : Option (GMap ByteArray Bool) :=
 some (GMap.upd (GMap.upd (GMap.upd (GMap.upd (GMap.upd (GMap.upd (GMap.upd (GMap.upd (GMap.upd (GMap.upd (GMap.none : GMap ByteArray Bool) ({ data := #[97, 110, 100] }) true) ({ data := #[100, 101, 102] }) true) ({ data := #[101, 108, 115, 101] }) true) ({ data := #[103, 111] }) true) ({ data := #[105, 102] }) true) ({ data := #[105, 110] }) true) ({ data := #[112, 108, 97, 99, 101] }) true) ({ data := #[115, 116, 111, 112] }) true) ({ data := #[116, 104, 101, 110] }) true) ({ data := #[119, 97, 116, 99, 104] }) true)
theorem term_keywords_w   (r : GMap ByteArray Bool) (H : term_keywords_S = some r) : FnS Try.prog 93 [] [] (fMap kStr (fun y => fBool y) r) (fun _ => []) := by
 unfold term_keywords_S at H
 refine FnS_of Try.func93 rfl Try.ntmps93 rfl (fun β => ?_)
 refine Sr ?_
 refine Ya ?_
 refine Nn ?_
 refine Sr ?_
 refine T_new trivial rfl rfl (n_makeMap (fun y => fBool y) kStr rfl) (fun b1 => ?_)
 refine T_mapUpd (k := { data := #[97, 110, 100] }) (y := true) trivial (.inr rfl) rfl (has rfl) (has rfl) rfl (has rfl) rfl ty_mp_161 ?_
 refine T_mapUpd (k := { data := #[100, 101, 102] }) (y := true) trivial (.inr rfl) rfl (has rfl) (has rfl) rfl (has rfl) rfl ty_mp_161 ?_
 refine T_mapUpd (k := { data := #[101, 108, 115, 101] }) (y := true) trivial (.inr rfl) rfl (has rfl) (has rfl) rfl (has rfl) rfl ty_mp_161 ?_
 refine T_mapUpd (k := { data := #[103, 111] }) (y := true) trivial (.inr rfl) rfl (has rfl) (has rfl) rfl (has rfl) rfl ty_mp_161 ?_
 refine T_mapUpd (k := { data := #[105, 102] }) (y := true) trivial (.inr rfl) rfl (has rfl) (has rfl) rfl (has rfl) rfl ty_mp_161 ?_
 refine T_mapUpd (k := { data := #[105, 110] }) (y := true) trivial (.inr rfl) rfl (has rfl) (has rfl) rfl (has rfl) rfl ty_mp_161 ?_
 refine T_mapUpd (k := { data := #[112, 108, 97, 99, 101] }) (y := true) trivial (.inr rfl) rfl (has rfl) (has rfl) rfl (has rfl) rfl ty_mp_161 ?_
 refine T_mapUpd (k := { data := #[115, 116, 111, 112] }) (y := true) trivial (.inr rfl) rfl (has rfl) (has rfl) rfl (has rfl) rfl ty_mp_161 ?_
 refine T_mapUpd (k := { data := #[116, 104, 101, 110] }) (y := true) trivial (.inr rfl) rfl (has rfl) (has rfl) rfl (has rfl) rfl ty_mp_161 ?_
 refine T_mapUpd (k := { data := #[119, 97, 116, 99, 104] }) (y := true) trivial (.inr rfl) rfl (has rfl) (has rfl) rfl (has rfl) rfl ty_mp_161 ?_
 refine Ym ?_
 refine Ya ?_
 refine Nn ?_
 refine T_retc ?_
 refine T_freeze (φ := fMap kStr (fun y => fBool y) (GMap.upd (GMap.upd (GMap.upd (GMap.upd (GMap.upd (GMap.upd (GMap.upd (GMap.upd (GMap.upd (GMap.upd (GMap.none : GMap ByteArray Bool) ({ data := #[97, 110, 100] }) true) ({ data := #[100, 101, 102] }) true) ({ data := #[101, 108, 115, 101] }) true) ({ data := #[103, 111] }) true) ({ data := #[105, 102] }) true) ({ data := #[105, 110] }) true) ({ data := #[112, 108, 97, 99, 101] }) true) ({ data := #[115, 116, 111, 112] }) true) ({ data := #[116, 104, 101, 110] }) true) ({ data := #[119, 97, 116, 99, 104] }) true)) (v := .map (some b1)) [0, 1, 2] frz_map (by intro s hs; simp only [List.mem_cons, List.not_mem_nil, or_false] at hs; rcases hs with rfl | rfl | rfl <;> rfl) ?_
 refine T_dropT ?_
 cases H
 exact T_out1 rfl (hasS rfl) rfl
def term_Name_l1 (a0 : ByteArray) : Nat → Int → Option ((Unit) ⊕ (Bool))
| 0, _ => none
| k + 1, x2 =>
 if x2 < (a0.size : Int) then
  (sidx a0 x2).bind fun z1 =>
  if z1 < 97 then
   (some false).bind fun r => some (Sum.inr r)
  else
   (sidx a0 x2).bind fun z2 =>
   if 122 < z2 then
    (some false).bind fun r => some (Sum.inr r)
   else
    (chk (x2 + 1)).bind fun z3 =>
    term_Name_l1 a0 k z3
 else
  some (Sum.inl ())
def term_Name_S (fuel : Nat) (a0 : ByteArray) : Option (Bool) :=
 (term_Name_l1 a0 fuel 0).bind fun o => match o with
 | Sum.inr r => some r
 | Sum.inl _ =>
 (if 0 < (a0.size : Int) then
  if (a0.size : Int) ≤ 8 then
   (term_keywords_S).bind fun y1 =>
   some (!((y1.get a0).getD false))
  else
   some false
 else
  some false).bind fun x3 =>
 some x3
theorem term_Name_w (fuel : Nat)  (a0 : ByteArray) (r : Bool) (H : term_Name_S fuel a0 = some r) : FnS Try.prog 85 [fStr a0] [] (fBool r) (fun _ => []) := by
 unfold term_Name_S at H
 refine FnS_of Try.func85 rfl Try.ntmps85 rfl (fun β => ?_)
 refine Sr ?_
 refine Ya ?_
 refine Nn ?_
 revert H; refine bs fun o1 H Hr1 => ?_
 refine T_seqJ (ι := Unit) (fun i => o1 = Sum.inl ()) (fun i => [(0, fStr a0)]) (fun i => []) ?_ ?_
 ·
  refine Sr ?_
  refine Ym ?_
  refine Yy (o_lenS rfl hh ty_ustr_9) ?_
  refine Ym ?_
  refine Nn ?_
  refine T_block ?_
  refine T_loop (ι := Nat × Int) (fun i => term_Name_l1 a0 i.1 i.2 = _) (fun i => i.1) (fun i => [(0, fStr a0), (5, fInt .i64 (a0.size : Int)), (6, fInt .i64 i.2)]) (fun i => []) (fuel, 0) H (Sc (Sc (Sc SubT.nil))) rfl ?_
  clear H; rintro ⟨k1, x2⟩ H
  replace H : term_Name_l1 a0 k1 x2 = _ := H
  show T β _ _ [(0, fStr a0), (5, fInt .i64 (a0.size : Int)), (6, fInt .i64 x2)] [] _
  obtain _ | k1 := k1
  ·
   rw [term_Name_l1] at H; cases H
  rw [term_Name_l1] at H
  refine Sr ?_
  refine Yy (o_lss rfl hh hh) ?_
  refine Nn ?_
  refine T_seq ?_
  revert H; refine is (fun c1 H => ?_) fun c1 H => ?_
  ·
   refine T_cond_t (has rfl) c1 ?_
   refine T_skip ?_
   refine T_then_n ?_
   refine T_seq ?_
   refine T_block ?_
   refine Sr ?_
   refine Ym ?_
   refine Ya ?_
   refine Nn ?_
   refine Sr ?_
   refine Ym ?_
   refine Ym ?_
   revert H; refine bs fun z1 h1 H => ?_
   refine Yy (o_indexS rfl hh hh ty_ustr_9 h1) ?_
   refine Yy (o_lss rfl hh hh) ?_
   refine Ym ?_
   revert H; refine is (fun c2 H => ?_) fun c2 H => ?_
   ·
    refine Yt c2 ?_
    refine Yt c2 ?_
    refine Yt c2 ?_
    refine Yt c2 ?_
    refine Yy (o_pick_t rfl hh c2 hh) ?_
    refine Nn ?_
    refine T_cond_t (has rfl) rfl ?_
    refine Sr ?_
    refine Ya ?_
    refine Nn ?_
    refine T_retc ?_
    refine T_in_ret ?_
    refine T_then_ret ?_
    refine T_then_ret ?_
    refine T_in_ret ?_
    refine T_then_ret ?_
    revert H; refine bs fun r1 H e1 => ?_
    have e1 := Option.some.inj e1; subst e1; have Hr1 := Option.some.inj Hr1; subst Hr1
    cases H
    exact T_out1 rfl (hasS rfl) rfl
   ·
    refine Yg c2 (o_move rfl hh) ?_
    refine Yg c2 (o_move rfl hh) ?_
    revert H; refine bs fun z2 h2 H => ?_
    refine Yg c2 (o_indexS rfl hh hh ty_ustr_9 h2) ?_
    refine Yg c2 (o_gtr rfl hh hh) ?_
    refine Yy (o_pick_f rfl hh c2 hh) ?_
    refine Nn ?_
    revert H; refine is (fun c3 H => ?_) fun c3 H => ?_
    ·
     refine T_cond_t (has rfl) c3 ?_
     refine Sr ?_
     refine Ya ?_
     refine Nn ?_
     refine T_retc ?_
     refine T_in_ret ?_
     refine T_then_ret ?_
     refine T_then_ret ?_
     refine T_in_ret ?_
     refine T_then_ret ?_
     revert H; refine bs fun r2 H e2 => ?_
     have e2 := Option.some.inj e2; subst e2; have Hr1 := Option.some.inj Hr1; subst Hr1
     cases H
     exact T_out1 rfl (hasS rfl) rfl
    ·
     refine T_cond_f (has rfl) c3 ?_
     refine T_skip ?_
     refine T_in_n ?_
     refine T_then_n ?_
     refine T_region ?_
     revert H; refine bs fun z3 h3 H => ?_
     refine Yy (o_add rfl hh hh h3) ?_
     refine Ym ?_
     refine Nn ?_
     exact T_meet ((k1, z3)) ⟨H, Nat.lt_succ_self _⟩ (Sc (Sc (Sc SubT.nil))) rfl
  ·
   refine T_cond_f (has rfl) c1 ?_
   refine T_exit ?_
   refine T_then_exit ?_
   refine T_then_exit ?_
   refine T_in_hit ?_
   refine T_then_n ?_
   exact T_meet (()) (Option.some.inj H).symm (Sc SubT.nil) rfl
 ·
  clear H; intro i hi; subst o1; have H := Hr1; clear Hr1; try dsimp only at H
  show T β _ _ [(0, fStr a0)] [] _
  revert H; refine bs fun o2 H Hr2 => ?_
  refine T_seqJ (ι := Bool) (fun i => o2 = i) (fun i => [(2, fBool i)]) (fun i => []) ?_ ?_
  ·
   refine T_region ?_
   refine Ym ?_
   refine Yy (o_lenS rfl hh ty_ustr_9) ?_
   refine Yy (o_gtr rfl hh hh) ?_
   refine Ym ?_
   revert H; refine is (fun c4 H => ?_) fun c4 H => ?_
   ·
    refine Yg c4 (o_move rfl hh) ?_
    refine Yg c4 (o_lenS rfl hh ty_ustr_9) ?_
    refine Yg c4 (o_leq rfl hh hh) ?_
    refine Yy (o_pick_t rfl hh c4 hh) ?_
    refine Ym ?_
    revert H; refine is (fun c5 H => ?_) fun c5 H => ?_
    ·
     revert H; refine bs fun y1 h4 H => ?_
     refine T_call ⟨_, _, rfl, rfl, c5⟩ rfl rfl rfl (has rfl) HasL.nil rfl ty_cb_93 (term_keywords_w y1 h4) rfl ?_
     refine Yg c5 (o_move rfl hh) ?_
     refine Yg c5 (o_lookup (zα := false) (k := a0) rfl hh hh rfl ty_mp_161 Ent.rfl) ?_
     refine Yg c5 (o_not rfl hh) ?_
     refine Yy (o_pick_t rfl hh c5 hh) ?_
     refine Ya ?_
     refine Nn ?_
     exact T_meet (!((y1.get a0).getD false)) (Option.some.inj H).symm (Sc SubT.nil) rfl
    ·
     refine Yf c5 ?_
     refine Yf c5 ?_
     refine Yf c5 ?_
     refine Yf c5 ?_
     refine Yy (o_pick_f rfl hh c5 hh) ?_
     refine Ya ?_
     refine Nn ?_
     exact T_meet (false) (Option.some.inj H).symm (Sc SubT.nil) rfl
   ·
    refine Yf c4 ?_
    refine Yf c4 ?_
    refine Yf c4 ?_
    refine Yy (o_pick_f rfl hh c4 hh) ?_
    refine Ym ?_
    refine Yd ?_
    refine Yd ?_
    refine Yd ?_
    refine Yd ?_
    refine Yy (o_pick_f rfl hh rfl hh) ?_
    refine Ya ?_
    refine Nn ?_
    exact T_meet (false) (Option.some.inj H).symm (Sc SubT.nil) rfl
  ·
   clear H; intro x3 hi; subst o2; have H := Hr2; clear Hr2; try dsimp only at H
   show T β _ _ [(2, fBool x3)] [] _
   refine T_retc ?_
   cases H
   exact T_out1 rfl (hasS rfl) rfl
end Go.Proofs.Ytmnbfgeljmhekaa
set_option maxRecDepth 100000
set_option maxHeartbeats 2000000
namespace Go.Proofs.Ytmnbfgeljmhekaa
open Go.SX Go.SW Go.Dt
def scope_shapeOf_S (a0 : Int) : Option (Value) :=
 (if a0 = 1 then
  some (decide (a0 = 1))
 else
  some (decide (a0 = 7))).bind fun x1 =>
 bif x1 then
  some ((.iface 175 (.int .i64 0)) : Value)
 else
  if a0 = 3 then
   some ((.iface 175 (.int .i64 2)) : Value)
  else
   if a0 = 2 then
    some ((.iface 168 (.agg ([] : List Value).toArray)) : Value)
   else
    if a0 = 5 then
     some ((.iface 171 (.agg ([] : List Value).toArray)) : Value)
    else
     (if a0 = 6 then
      some (decide (a0 = 6))
     else
      some (decide (a0 = 8))).bind fun x2 =>
     bif x2 then
      some ((.iface 169 (.agg ([] : List Value).toArray)) : Value)
     else
      if a0 = 4 then
       some ((.iface 170 (.agg ([] : List Value).toArray)) : Value)
      else
       some (Go.Value.nilIface : Value)
theorem scope_shapeOf_w  (a0 : Int) (r : Value) (H : scope_shapeOf_S a0 = some r) : FnS Try.prog 94 [fInt .i64 a0] [] (fRaw r) (fun _ => []) := by
 unfold scope_shapeOf_S at H
 refine FnS_of Try.func94 rfl Try.ntmps94 rfl (fun β => ?_)
 refine Sr ?_
 refine Ya ?_
 refine Nn ?_
 refine T_seq ?_
 refine Sr ?_
 refine Ym ?_
 refine Nn ?_
 refine T_block ?_
 revert H; refine bs fun o1 H Hr1 => ?_
 refine T_seqJ (ι := Bool) (fun i => o1 = i) (fun i => [(3, fInt .i64 a0), (4, fBool i)]) (fun i => []) ?_ ?_
 ·
  refine Sr ?_
  refine Yy (o_eql rfl hh hh) ?_
  refine Ya ?_
  refine Nn ?_
  revert H; refine is (fun c1 H => ?_) fun c1 H => ?_
  ·
   refine T_cond_t (has rfl) c1 ?_
   refine T_skip ?_
   refine T_then_n ?_
   exact T_meet (decide (a0 = 1)) (Option.some.inj H).symm (Sc (Sc SubT.nil)) rfl
  ·
   refine T_cond_f (has rfl) c1 ?_
   refine T_region ?_
   refine Yy (o_eql rfl hh hh) ?_
   refine Ya ?_
   refine Nn ?_
   exact T_meet (decide (a0 = 7)) (Option.some.inj H).symm (Sc (Sc SubT.nil)) rfl
 ·
  clear H; intro x1 hi; subst o1; have H := Hr1; clear Hr1; try dsimp only at H
  show T β _ _ [(3, fInt .i64 a0), (4, fBool x1)] [] _
  revert H; refine cs (fun c2 H => ?_) fun c2 H => ?_
  ·
   refine T_cond_t (has rfl) c2 ?_
   refine Sr ?_
   refine Yy (o_mkIface rfl hh ty_ni_175) ?_
   refine Ya ?_
   refine Nn ?_
   refine T_retc ?_
   refine T_in_ret ?_
   refine T_then_ret ?_
   cases H
   exact T_out1 rfl (hasSE rfl (ent_raw trivial)) rfl
  ·
   refine T_cond_f (has rfl) c2 ?_
   refine Sr ?_
   refine Yy (o_eql rfl hh hh) ?_
   refine Ya ?_
   refine Nn ?_
   revert H; refine is (fun c3 H => ?_) fun c3 H => ?_
   ·
    refine T_cond_t (has rfl) c3 ?_
    refine Sr ?_
    refine Yy (o_mkIface rfl hh ty_ni_175) ?_
    refine Ya ?_
    refine Nn ?_
    refine T_retc ?_
    refine T_in_ret ?_
    refine T_then_ret ?_
    cases H
    exact T_out1 rfl (hasSE rfl (ent_raw trivial)) rfl
   ·
    refine T_cond_f (has rfl) c3 ?_
    refine Sr ?_
    refine Yy (o_eql rfl hh hh) ?_
    refine Ya ?_
    refine Nn ?_
    revert H; refine is (fun c4 H => ?_) fun c4 H => ?_
    ·
     refine T_cond_t (has rfl) c4 ?_
     refine Sr ?_
     refine Yy (o_build (ψs := []) rfl ty_bu_168 rfl Parts.nil rfl) ?_
     refine Yy (o_mkIface rfl (hasE rfl (ent_aggEq [])) ty_ni_168) ?_
     refine Ya ?_
     refine Nn ?_
     refine T_retc ?_
     refine T_in_ret ?_
     refine T_then_ret ?_
     cases H
     exact T_out1 rfl (hasSE rfl (ent_raw trivial)) rfl
    ·
     refine T_cond_f (has rfl) c4 ?_
     refine Sr ?_
     refine Yy (o_eql rfl hh hh) ?_
     refine Ya ?_
     refine Nn ?_
     revert H; refine is (fun c5 H => ?_) fun c5 H => ?_
     ·
      refine T_cond_t (has rfl) c5 ?_
      refine Sr ?_
      refine Yy (o_build (ψs := []) rfl ty_bu_171 rfl Parts.nil rfl) ?_
      refine Yy (o_mkIface rfl (hasE rfl (ent_aggEq [])) ty_ni_171) ?_
      refine Ya ?_
      refine Nn ?_
      refine T_retc ?_
      refine T_in_ret ?_
      refine T_then_ret ?_
      cases H
      exact T_out1 rfl (hasSE rfl (ent_raw trivial)) rfl
     ·
      refine T_cond_f (has rfl) c5 ?_
      revert H; refine bs fun o2 H Hr2 => ?_
      refine T_seqJ (ι := Bool) (fun i => o2 = i) (fun i => [(3, fInt .i64 a0), (19, fBool i)]) (fun i => []) ?_ ?_
      ·
       refine Sr ?_
       refine Yy (o_eql rfl hh hh) ?_
       refine Ya ?_
       refine Nn ?_
       revert H; refine is (fun c6 H => ?_) fun c6 H => ?_
       ·
        refine T_cond_t (has rfl) c6 ?_
        refine T_skip ?_
        refine T_then_n ?_
        exact T_meet (decide (a0 = 6)) (Option.some.inj H).symm (Sc (Sc SubT.nil)) rfl
       ·
        refine T_cond_f (has rfl) c6 ?_
        refine T_region ?_
        refine Yy (o_eql rfl hh hh) ?_
        refine Ya ?_
        refine Nn ?_
        exact T_meet (decide (a0 = 8)) (Option.some.inj H).symm (Sc (Sc SubT.nil)) rfl
      ·
       clear H; intro x2 hi; subst o2; have H := Hr2; clear Hr2; try dsimp only at H
       show T β _ _ [(3, fInt .i64 a0), (19, fBool x2)] [] _
       revert H; refine cs (fun c7 H => ?_) fun c7 H => ?_
       ·
        refine T_cond_t (has rfl) c7 ?_
        refine Sr ?_
        refine Yy (o_build (ψs := []) rfl ty_bu_169 rfl Parts.nil rfl) ?_
        refine Yy (o_mkIface rfl (hasE rfl (ent_aggEq [])) ty_ni_169) ?_
        refine Ya ?_
        refine Nn ?_
        refine T_retc ?_
        refine T_in_ret ?_
        refine T_then_ret ?_
        cases H
        exact T_out1 rfl (hasSE rfl (ent_raw trivial)) rfl
       ·
        refine T_cond_f (has rfl) c7 ?_
        refine Sr ?_
        refine Yy (o_eql rfl hh hh) ?_
        refine Ya ?_
        refine Nn ?_
        revert H; refine is (fun c8 H => ?_) fun c8 H => ?_
        ·
         refine T_cond_t (has rfl) c8 ?_
         refine Sr ?_
         refine Yy (o_build (ψs := []) rfl ty_bu_170 rfl Parts.nil rfl) ?_
         refine Yy (o_mkIface rfl (hasE rfl (ent_aggEq [])) ty_ni_170) ?_
         refine Ya ?_
         refine Nn ?_
         refine T_retc ?_
         refine T_in_ret ?_
         refine T_then_ret ?_
         cases H
         exact T_out1 rfl (hasSE rfl (ent_raw trivial)) rfl
        ·
         refine T_cond_f (has rfl) c8 ?_
         refine T_skip ?_
         refine T_in_n ?_
         refine T_then_n ?_
         refine Sr ?_
         refine Ya ?_
         refine Nn ?_
         refine T_retc ?_
         cases H
         exact T_out1 rfl (hasSE rfl (ent_raw trivial)) rfl
def scope_exp_1_l1 (rec_scope_exp_1 : ScopeExp → Int → Int → Int → Option (Int ⊕ Value)) (a0 : ScopeExp) (a1 : Int) (w1 : Int) : Nat → Int → Int → Option (Int ⊕ Value)
| 0, _, _ => none
| k + 1, x4, x5 =>
 if x4 < (a0.Kids.length : Int) then
  (idx a0.Kids x4).bind fun y12 =>
  (chk (a1 + 1)).bind fun z2 =>
  (rec_scope_exp_1 (⟨y12.Op, y12.N, y12.Kids⟩ : ScopeExp) z2 x5 w1).bind fun y13 =>
  match y13 with
  | Sum.inr pv12 => some (Sum.inr pv12)
  | Sum.inl y13 =>
  (chk (x4 + 1)).bind fun z3 =>
  scope_exp_1_l1 rec_scope_exp_1 a0 a1 w1 k z3 y13
 else
  some (Sum.inl x5)
def scope_exp_1_S : Nat → ScopeExp → Int → Int → Int → Option (Int ⊕ Value)
| 0, _, _, _, _ => none
| fuel + 1, a0, a1, w0, w1 =>
 (chk (w0 + 1)).bind fun z1 =>
 (if z1 ≤ 60 then
  (scope_want_S (decide (a1 ≤ 12))).bind fun y1 =>
  match y1 with
  | Sum.inr pv1 => (some (Sum.inr pv1)).bind fun r => some (Sum.inr r)
  | Sum.inl y1 =>
  some (Sum.inl ())
 else
  (scope_want_S false).bind fun y2 =>
  match y2 with
  | Sum.inr pv2 => (some (Sum.inr pv2)).bind fun r => some (Sum.inr r)
  | Sum.inl y2 =>
  some (Sum.inl ())).bind fun o => match o with
 | Sum.inr r => some r
 | Sum.inl _ =>
 (if a0.Op = 1 then
  if (-1000000000) ≤ a0.N then
   if a0.N ≤ 1000000000 then
    (scope_want_S (decide ((a0.Kids.length : Int) = 0))).bind fun y3 =>
    match y3 with
    | Sum.inr pv3 => (some (Sum.inr pv3)).bind fun r => some (Sum.inr r)
    | Sum.inl y3 =>
    some (Sum.inl ())
   else
    (scope_want_S false).bind fun y4 =>
    match y4 with
    | Sum.inr pv4 => (some (Sum.inr pv4)).bind fun r => some (Sum.inr r)
    | Sum.inl y4 =>
    some (Sum.inl ())
  else
   (scope_want_S false).bind fun y5 =>
   match y5 with
   | Sum.inr pv5 => (some (Sum.inr pv5)).bind fun r => some (Sum.inr r)
   | Sum.inl y5 =>
   some (Sum.inl ())
 else
  if a0.Op = 2 then
   if 0 ≤ a0.N then
    if a0.N < w1 then
     (scope_want_S (decide ((a0.Kids.length : Int) = 0))).bind fun y6 =>
     match y6 with
     | Sum.inr pv6 => (some (Sum.inr pv6)).bind fun r => some (Sum.inr r)
     | Sum.inl y6 =>
     some (Sum.inl ())
    else
     (scope_want_S false).bind fun y7 =>
     match y7 with
     | Sum.inr pv7 => (some (Sum.inr pv7)).bind fun r => some (Sum.inr r)
     | Sum.inl y7 =>
     some (Sum.inl ())
   else
    (scope_want_S false).bind fun y8 =>
    match y8 with
    | Sum.inr pv8 => (some (Sum.inr pv8)).bind fun r => some (Sum.inr r)
    | Sum.inl y8 =>
    some (Sum.inl ())
  else
   (if a0.Op = 3 then
    some (decide (a0.Op = 3))
   else
    if a0.Op = 4 then
     some (decide (a0.Op = 4))
    else
     if a0.Op = 5 then
      some (decide (a0.Op = 5))
     else
      if a0.Op = 6 then
       some (decide (a0.Op = 6))
      else
       some (decide (a0.Op = 7))).bind fun x1 =>
   bif x1 then
    if a0.N = 0 then
     (scope_want_S (decide ((a0.Kids.length : Int) = 2))).bind fun y9 =>
     match y9 with
     | Sum.inr pv9 => (some (Sum.inr pv9)).bind fun r => some (Sum.inr r)
     | Sum.inl y9 =>
     some (Sum.inl ())
    else
     (scope_want_S false).bind fun y10 =>
     match y10 with
     | Sum.inr pv10 => (some (Sum.inr pv10)).bind fun r => some (Sum.inr r)
     | Sum.inl y10 =>
     some (Sum.inl ())
   else
    (scope_want_S false).bind fun y11 =>
    match y11 with
    | Sum.inr pv11 => (some (Sum.inr pv11)).bind fun r => some (Sum.inr r)
    | Sum.inl y11 =>
    some (Sum.inl ())).bind fun o => match o with
 | Sum.inr r => some r
 | Sum.inl _ =>
 scope_exp_1_l1 (scope_exp_1_S fuel) a0 a1 w1 fuel 0 z1
theorem scope_exp_1_w : ∀ (fuel : Nat), (∀ (q0 : Nat) (q2 : Nat) (a0 : ScopeExp) (a1 : Int) (w0 : Int) (w1 : Int) (r : Int ⊕ Value) (H : scope_exp_1_S fuel a0 a1 w0 w1 = some r), FnE Try.prog 100 [fSt tScopeExp a0, fInt .i64 a1, fEq (.pointer (some ⟨q0, 0, none⟩)), fPtr (tInt .i64) w1, fEq (.pointer (some ⟨q2, 0, none⟩))] [tBlk q0 3 [fInt .i64 w0], tBlk q2 172 [fClo 100 [fEq (.pointer (some ⟨q0, 0, none⟩)), fPtr (tInt .i64) w1, fEq (.pointer (some ⟨q2, 0, none⟩))]]] r (fun r => fTup []) (fun r => [tBlk q0 3 [fInt .i64 r], tBlk q2 172 [fClo 100 [fEq (.pointer (some ⟨q0, 0, none⟩)), fPtr (tInt .i64) w1, fEq (.pointer (some ⟨q2, 0, none⟩))]]])) := by
 intro fuel
 induction fuel with
 | zero => exact fun q0 q2 a0 a1 w0 w1 r H => (by rw [scope_exp_1_S] at H; cases H)
 | succ fuel ih =>
 have ih_scope_exp_1 := ih
 refine ?_
 ·
  intro q0 q2 a0 a1 w0 w1 r H
  rw [scope_exp_1_S] at H
  refine FnE_of Try.func100 rfl Try.ntmps100 rfl (fun β => ?_)
  refine Sr ?_
  refine T_new trivial rfl rfl (n_box rfl (has rfl) part_agg) (fun b1 => ?_)
  refine Nn ?_
  refine Sr ?_
  refine Yo 1 rfl (o_loadB rfl hh ty_sc_3 rfl Ent.rfl) ?_
  revert H; refine bs fun z1 h1 H => ?_
  refine Yy (o_add rfl hh hh h1) ?_
  refine T_fr1 ?_
  refine T_store (φs' := [fInt .i64 z1]) trivial rfl rfl (has rfl) (has rfl) (leaf_eq trivial) ty_sz_3 rfl rfl ?_
  refine Nn ?_
  revert H; refine bs fun o1 H Hr1 => ?_
  refine T_seqJ (ι := Unit) (fun i => o1 = Sum.inl ()) (fun i => [(1, fInt .i64 a1), (2, fEq (.pointer (some ⟨q0, 0, none⟩))), (3, fPtr (tInt .i64) w1), (4, fEq (.pointer (some ⟨q2, 0, none⟩))), (5, fEq (.pointer (some ⟨b1, 0, none⟩)))]) (fun i => [tBlk q0 3 [fInt .i64 z1], tBlk b1 94 [fInt .i64 a0.Op, fInt .i64 a0.N, fScopeExps a0.Kids], tBlk q2 172 [fClo 100 [fEq (.pointer (some ⟨q0, 0, none⟩)), fPtr (tInt .i64) w1, fEq (.pointer (some ⟨q2, 0, none⟩))]]]) ?_ ?_
  ·
   refine T_region ?_
   refine Yo 0 rfl (o_loadB rfl hh ty_sc_3 rfl Ent.rfl) ?_
   refine Yy (o_leq rfl hh hh) ?_
   refine Ym ?_
   revert H; refine is (fun c1 H => ?_) fun c1 H => ?_
   ·
    refine Yg c1 (o_move rfl hh) ?_
    refine Yg c1 (o_leq rfl hh hh) ?_
    refine Yy (o_pick_t rfl hh c1 hh) ?_
    revert H; refine bs fun y1 h2 H => ?_
    rcases y1 with y1 | pv1 <;> dsimp only at H
    ·
     refine T_call trivial rfl rfl rfl (has rfl) (HasL.cons (has rfl) HasL.nil) rfl ty_cb_84 (scope_want_w (decide (a1 ≤ 12)) (Sum.inl y1) h2).s rfl ?_
     refine Nn ?_
     exact T_meet (()) (Option.some.inj H).symm (Sc (Sc (Sc (Sc (Sc SubT.nil))))) rfl
    ·
     refine T_callP trivial rfl (has rfl) (HasL.cons (has rfl) HasL.nil) rfl ty_cb_84 (scope_want_w (decide (a1 ≤ 12)) (Sum.inr pv1) h2).pan rfl ?_
     refine T_then_panic ?_
     revert H; refine bs fun r1 H e1 => ?_
     have e1 := Option.some.inj e1; subst e1; have Hr1 := Option.some.inj Hr1; subst Hr1
     cases H
     exact T_inr
   ·
    refine Yf c1 ?_
    refine Yf c1 ?_
    refine Yy (o_pick_f rfl hh c1 hh) ?_
    revert H; refine bs fun y2 h3 H => ?_
    rcases y2 with y2 | pv2 <;> dsimp only at H
    ·
     refine T_call trivial rfl rfl rfl (has rfl) (HasL.cons (has rfl) HasL.nil) rfl ty_cb_84 (scope_want_w false (Sum.inl y2) h3).s rfl ?_
     refine Nn ?_
     exact T_meet (()) (Option.some.inj H).symm (Sc (Sc (Sc (Sc (Sc SubT.nil))))) rfl
    ·
     refine T_callP trivial rfl (has rfl) (HasL.cons (has rfl) HasL.nil) rfl ty_cb_84 (scope_want_w false (Sum.inr pv2) h3).pan rfl ?_
     refine T_then_panic ?_
     revert H; refine bs fun r2 H e2 => ?_
     have e2 := Option.some.inj e2; subst e2; have Hr1 := Option.some.inj Hr1; subst Hr1
     cases H
     exact T_inr
  ·
   clear H; intro i hi; subst o1; have H := Hr1; clear Hr1; try dsimp only at H
   show T β _ _ [(1, fInt .i64 a1), (2, fEq (.pointer (some ⟨q0, 0, none⟩))), (3, fPtr (tInt .i64) w1), (4, fEq (.pointer (some ⟨q2, 0, none⟩))), (5, fEq (.pointer (some ⟨b1, 0, none⟩)))] [tBlk q0 3 [fInt .i64 z1], tBlk b1 94 [fInt .i64 a0.Op, fInt .i64 a0.N, fScopeExps a0.Kids], tBlk q2 172 [fClo 100 [fEq (.pointer (some ⟨q0, 0, none⟩)), fPtr (tInt .i64) w1, fEq (.pointer (some ⟨q2, 0, none⟩))]]] _
   revert H; refine bs fun o2 H Hr2 => ?_
   refine T_seqJ (ι := Unit) (fun i => o2 = Sum.inl ()) (fun i => [(1, fInt .i64 a1), (2, fEq (.pointer (some ⟨q0, 0, none⟩))), (4, fEq (.pointer (some ⟨q2, 0, none⟩))), (5, fEq (.pointer (some ⟨b1, 0, none⟩)))]) (fun i => [tBlk q0 3 [fInt .i64 z1], tBlk b1 94 [fInt .i64 a0.Op, fInt .i64 a0.N, fScopeExps a0.Kids], tBlk q2 172 [fClo 100 [fEq (.pointer (some ⟨q0, 0, none⟩)), fPtr (tInt .i64) w1, fEq (.pointer (some ⟨q2, 0, none⟩))]]]) ?_ ?_
   ·
    refine Sr ?_
    refine Yy (o_fieldB 0 rfl hh ty_fa_94_0 rfl) ?_
    refine Yo 1 rfl (o_loadB rfl hh ty_sc_92 rfl Ent.rfl) ?_
    refine Nn ?_
    refine T_block ?_
    refine Sr ?_
    refine Yy (o_eql rfl hh hh) ?_
    refine Ya ?_
    refine Nn ?_
    revert H; refine is (fun c2 H => ?_) fun c2 H => ?_
    ·
     refine T_cond_t (has rfl) c2 ?_
     refine T_region ?_
     refine Yy (o_fieldB 1 rfl hh ty_fa_94_1 rfl) ?_
     refine Yo 1 rfl (o_loadB rfl hh ty_sc_3 rfl Ent.rfl) ?_
     refine Yy (o_geq rfl hh hh) ?_
     refine Ym ?_
     revert H; refine is (fun c3 H => ?_) fun c3 H => ?_
     ·
      refine Yg c3 (o_fieldB 1 rfl hh ty_fa_94_1 rfl) ?_
      refine Yh 1 rfl c3 (o_loadB rfl hh ty_sc_3 rfl Ent.rfl) ?_
      refine Yg c3 (o_leq rfl hh hh) ?_
      refine Yy (o_pick_t rfl hh c3 hh) ?_
      refine Ym ?_
      revert H; refine is (fun c4 H => ?_) fun c4 H => ?_
      ·
       refine Yg c4 (o_fieldB 2 rfl hh ty_fa_94_2 rfl) ?_
       refine Yh 1 rfl c4 (o_loadB rfl hh ty_sc_54 rfl (ent_of_eq ScopeExps_eq)) ?_
       refine Yg c4 (o_len rfl hh ty_us_54) ?_
       refine Yg c4 (o_eql rfl hh hh) ?_
       refine Yy (o_pick_t rfl hh c4 hh) ?_
       revert H; refine bs fun y3 h4 H => ?_
       rcases y3 with y3 | pv3 <;> dsimp only at H
       ·
        refine T_call trivial rfl rfl rfl (has rfl) (HasL.cons (has rfl) HasL.nil) rfl ty_cb_84 (scope_want_w (decide ((a0.Kids.length : Int) = 0)) (Sum.inl y3) h4).s rfl ?_
        refine T_nil ?_
        refine T_in_n ?_
        refine T_then_n ?_
        exact T_meet (()) (Option.some.inj H).symm (Sc (Sc (Sc (Sc SubT.nil)))) rfl
       ·
        refine T_callP trivial rfl (has rfl) (HasL.cons (has rfl) HasL.nil) rfl ty_cb_84 (scope_want_w (decide ((a0.Kids.length : Int) = 0)) (Sum.inr pv3) h4).pan rfl ?_
        refine T_in_panic ?_
        refine T_then_panic ?_
        revert H; refine bs fun r3 H e3 => ?_
        have e3 := Option.some.inj e3; subst e3; have Hr2 := Option.some.inj Hr2; subst Hr2
        cases H
        exact T_inr
      ·
       refine Yf c4 ?_
       refine Yf c4 ?_
       refine Yf c4 ?_
       refine Yf c4 ?_
       refine Yy (o_pick_f rfl hh c4 hh) ?_
       revert H; refine bs fun y4 h5 H => ?_
       rcases y4 with y4 | pv4 <;> dsimp only at H
       ·
        refine T_call trivial rfl rfl rfl (has rfl) (HasL.cons (has rfl) HasL.nil) rfl ty_cb_84 (scope_want_w false (Sum.inl y4) h5).s rfl ?_
        refine T_nil ?_
        refine T_in_n ?_
        refine T_then_n ?_
        exact T_meet (()) (Option.some.inj H).symm (Sc (Sc (Sc (Sc SubT.nil)))) rfl
       ·
        refine T_callP trivial rfl (has rfl) (HasL.cons (has rfl) HasL.nil) rfl ty_cb_84 (scope_want_w false (Sum.inr pv4) h5).pan rfl ?_
        refine T_in_panic ?_
        refine T_then_panic ?_
        revert H; refine bs fun r4 H e4 => ?_
        have e4 := Option.some.inj e4; subst e4; have Hr2 := Option.some.inj Hr2; subst Hr2
        cases H
        exact T_inr
     ·
      refine Yf c3 ?_
      refine Yf c3 ?_
      refine Yf c3 ?_
      refine Yy (o_pick_f rfl hh c3 hh) ?_
      refine Ym ?_
      refine Yd ?_
      refine Yd ?_
      refine Yd ?_
      refine Yd ?_
      refine Yy (o_pick_f rfl hh rfl hh) ?_
      revert H; refine bs fun y5 h6 H => ?_
      rcases y5 with y5 | pv5 <;> dsimp only at H
      ·
       refine T_call trivial rfl rfl rfl (has rfl) (HasL.cons (has rfl) HasL.nil) rfl ty_cb_84 (scope_want_w false (Sum.inl y5) h6).s rfl ?_
       refine T_nil ?_
       refine T_in_n ?_
       refine T_then_n ?_
       exact T_meet (()) (Option.some.inj H).symm (Sc (Sc (Sc (Sc SubT.nil)))) rfl
      ·
       refine T_callP trivial rfl (has rfl) (HasL.cons (has rfl) HasL.nil) rfl ty_cb_84 (scope_want_w false (Sum.inr pv5) h6).pan rfl ?_
       refine T_in_panic ?_
       refine T_then_panic ?_
       revert H; refine bs fun r5 H e5 => ?_
       have e5 := Option.some.inj e5; subst e5; have Hr2 := Option.some.inj Hr2; subst Hr2
       cases H
       exact T_inr
    ·
     refine T_cond_f (has rfl) c2 ?_
     refine Sr ?_
     refine Yy (o_eql rfl hh hh) ?_
     refine Ya ?_
     refine Nn ?_
     revert H; refine is (fun c5 H => ?_) fun c5 H => ?_
     ·
      refine T_cond_t (has rfl) c5 ?_
      refine T_region ?_
      refine Yy (o_fieldB 1 rfl hh ty_fa_94_1 rfl) ?_
      refine Yo 1 rfl (o_loadB rfl hh ty_sc_3 rfl Ent.rfl) ?_
      refine Yy (o_geq rfl hh hh) ?_
      refine Ym ?_
      revert H; refine is (fun c6 H => ?_) fun c6 H => ?_
      ·
       refine Yg c6 (o_fieldB 1 rfl hh ty_fa_94_1 rfl) ?_
       refine Yh 1 rfl c6 (o_loadB rfl hh ty_sc_3 rfl Ent.rfl) ?_
       refine Yg c6 (o_load rfl hh ty_sc_3 rfl) ?_
       refine Yg c6 (o_lss rfl hh hh) ?_
       refine Yy (o_pick_t rfl hh c6 hh) ?_
       refine Ym ?_
       revert H; refine is (fun c7 H => ?_) fun c7 H => ?_
       ·
        refine Yg c7 (o_fieldB 2 rfl hh ty_fa_94_2 rfl) ?_
        refine Yh 1 rfl c7 (o_loadB rfl hh ty_sc_54 rfl (ent_of_eq ScopeExps_eq)) ?_
        refine Yg c7 (o_len rfl hh ty_us_54) ?_
        refine Yg c7 (o_eql rfl hh hh) ?_
        refine Yy (o_pick_t rfl hh c7 hh) ?_
        revert H; refine bs fun y6 h7 H => ?_
        rcases y6 with y6 | pv6 <;> dsimp only at H
        ·
         refine T_call trivial rfl rfl rfl (has rfl) (HasL.cons (has rfl) HasL.nil) rfl ty_cb_84 (scope_want_w (decide ((a0.Kids.length : Int) = 0)) (Sum.inl y6) h7).s rfl ?_
         refine T_nil ?_
         refine T_in_n ?_
         refine T_then_n ?_
         exact T_meet (()) (Option.some.inj H).symm (Sc (Sc (Sc (Sc SubT.nil)))) rfl
        ·
         refine T_callP trivial rfl (has rfl) (HasL.cons (has rfl) HasL.nil) rfl ty_cb_84 (scope_want_w (decide ((a0.Kids.length : Int) = 0)) (Sum.inr pv6) h7).pan rfl ?_
         refine T_in_panic ?_
         refine T_then_panic ?_
         revert H; refine bs fun r6 H e6 => ?_
         have e6 := Option.some.inj e6; subst e6; have Hr2 := Option.some.inj Hr2; subst Hr2
         cases H
         exact T_inr
       ·
        refine Yf c7 ?_
        refine Yf c7 ?_
        refine Yf c7 ?_
        refine Yf c7 ?_
        refine Yy (o_pick_f rfl hh c7 hh) ?_
        revert H; refine bs fun y7 h8 H => ?_
        rcases y7 with y7 | pv7 <;> dsimp only at H
        ·
         refine T_call trivial rfl rfl rfl (has rfl) (HasL.cons (has rfl) HasL.nil) rfl ty_cb_84 (scope_want_w false (Sum.inl y7) h8).s rfl ?_
         refine T_nil ?_
         refine T_in_n ?_
         refine T_then_n ?_
         exact T_meet (()) (Option.some.inj H).symm (Sc (Sc (Sc (Sc SubT.nil)))) rfl
        ·
         refine T_callP trivial rfl (has rfl) (HasL.cons (has rfl) HasL.nil) rfl ty_cb_84 (scope_want_w false (Sum.inr pv7) h8).pan rfl ?_
         refine T_in_panic ?_
         refine T_then_panic ?_
         revert H; refine bs fun r7 H e7 => ?_
         have e7 := Option.some.inj e7; subst e7; have Hr2 := Option.some.inj Hr2; subst Hr2
         cases H
         exact T_inr
      ·
       refine Yf c6 ?_
       refine Yf c6 ?_
       refine Yf c6 ?_
       refine Yf c6 ?_
       refine Yy (o_pick_f rfl hh c6 hh) ?_
       refine Ym ?_
       refine Yd ?_
       refine Yd ?_
       refine Yd ?_
       refine Yd ?_
       refine Yy (o_pick_f rfl hh rfl hh) ?_
       revert H; refine bs fun y8 h9 H => ?_
       rcases y8 with y8 | pv8 <;> dsimp only at H
       ·
        refine T_call trivial rfl rfl rfl (has rfl) (HasL.cons (has rfl) HasL.nil) rfl ty_cb_84 (scope_want_w false (Sum.inl y8) h9).s rfl ?_
        refine T_nil ?_
        refine T_in_n ?_
        refine T_then_n ?_
        exact T_meet (()) (Option.some.inj H).symm (Sc (Sc (Sc (Sc SubT.nil)))) rfl
       ·
        refine T_callP trivial rfl (has rfl) (HasL.cons (has rfl) HasL.nil) rfl ty_cb_84 (scope_want_w false (Sum.inr pv8) h9).pan rfl ?_
        refine T_in_panic ?_
        refine T_then_panic ?_
        revert H; refine bs fun r8 H e8 => ?_
        have e8 := Option.some.inj e8; subst e8; have Hr2 := Option.some.inj Hr2; subst Hr2
        cases H
        exact T_inr
     ·
      refine T_cond_f (has rfl) c5 ?_
      revert H; refine bs fun o3 H Hr3 => ?_
      refine T_seqJ (ι := Bool) (fun i => o3 = i) (fun i => [(1, fInt .i64 a1), (2, fEq (.pointer (some ⟨q0, 0, none⟩))), (4, fEq (.pointer (some ⟨q2, 0, none⟩))), (5, fEq (.pointer (some ⟨b1, 0, none⟩))), (56, fBool i)]) (fun i => [tBlk q0 3 [fInt .i64 z1], tBlk b1 94 [fInt .i64 a0.Op, fInt .i64 a0.N, fScopeExps a0.Kids], tBlk q2 172 [fClo 100 [fEq (.pointer (some ⟨q0, 0, none⟩)), fPtr (tInt .i64) w1, fEq (.pointer (some ⟨q2, 0, none⟩))]]]) ?_ ?_
      ·
       refine Sr ?_
       refine Yy (o_eql rfl hh hh) ?_
       refine Ya ?_
       refine Nn ?_
       revert H; refine is (fun c8 H => ?_) fun c8 H => ?_
       ·
        refine T_cond_t (has rfl) c8 ?_
        refine T_skip ?_
        refine T_then_n ?_
        exact T_meet (decide (a0.Op = 3)) (Option.some.inj H).symm (Sc (Sc (Sc (Sc (Sc SubT.nil))))) rfl
       ·
        refine T_cond_f (has rfl) c8 ?_
        refine Sr ?_
        refine Yy (o_eql rfl hh hh) ?_
        refine Ya ?_
        refine Nn ?_
        revert H; refine is (fun c9 H => ?_) fun c9 H => ?_
        ·
         refine T_cond_t (has rfl) c9 ?_
         refine T_skip ?_
         refine T_then_n ?_
         exact T_meet (decide (a0.Op = 4)) (Option.some.inj H).symm (Sc (Sc (Sc (Sc (Sc SubT.nil))))) rfl
        ·
         refine T_cond_f (has rfl) c9 ?_
         refine Sr ?_
         refine Yy (o_eql rfl hh hh) ?_
         refine Ya ?_
         refine Nn ?_
         revert H; refine is (fun c10 H => ?_) fun c10 H => ?_
         ·
          refine T_cond_t (has rfl) c10 ?_
          refine T_skip ?_
          refine T_then_n ?_
          exact T_meet (decide (a0.Op = 5)) (Option.some.inj H).symm (Sc (Sc (Sc (Sc (Sc SubT.nil))))) rfl
         ·
          refine T_cond_f (has rfl) c10 ?_
          refine Sr ?_
          refine Yy (o_eql rfl hh hh) ?_
          refine Ya ?_
          refine Nn ?_
          revert H; refine is (fun c11 H => ?_) fun c11 H => ?_
          ·
           refine T_cond_t (has rfl) c11 ?_
           refine T_skip ?_
           refine T_then_n ?_
           exact T_meet (decide (a0.Op = 6)) (Option.some.inj H).symm (Sc (Sc (Sc (Sc (Sc SubT.nil))))) rfl
          ·
           refine T_cond_f (has rfl) c11 ?_
           refine T_region ?_
           refine Yy (o_eql rfl hh hh) ?_
           refine Ya ?_
           refine Nn ?_
           exact T_meet (decide (a0.Op = 7)) (Option.some.inj H).symm (Sc (Sc (Sc (Sc (Sc SubT.nil))))) rfl
      ·
       clear H; intro x1 hi; subst o3; have H := Hr3; clear Hr3; try dsimp only at H
       show T β _ _ [(1, fInt .i64 a1), (2, fEq (.pointer (some ⟨q0, 0, none⟩))), (4, fEq (.pointer (some ⟨q2, 0, none⟩))), (5, fEq (.pointer (some ⟨b1, 0, none⟩))), (56, fBool x1)] [tBlk q0 3 [fInt .i64 z1], tBlk b1 94 [fInt .i64 a0.Op, fInt .i64 a0.N, fScopeExps a0.Kids], tBlk q2 172 [fClo 100 [fEq (.pointer (some ⟨q0, 0, none⟩)), fPtr (tInt .i64) w1, fEq (.pointer (some ⟨q2, 0, none⟩))]]] _
       revert H; refine cs (fun c12 H => ?_) fun c12 H => ?_
       ·
        refine T_cond_t (has rfl) c12 ?_
        refine T_region ?_
        refine Yy (o_fieldB 1 rfl hh ty_fa_94_1 rfl) ?_
        refine Yo 1 rfl (o_loadB rfl hh ty_sc_3 rfl Ent.rfl) ?_
        refine Yy (o_eql rfl hh hh) ?_
        refine Ym ?_
        revert H; refine is (fun c13 H => ?_) fun c13 H => ?_
        ·
         refine Yg c13 (o_fieldB 2 rfl hh ty_fa_94_2 rfl) ?_
         refine Yh 1 rfl c13 (o_loadB rfl hh ty_sc_54 rfl (ent_of_eq ScopeExps_eq)) ?_
         refine Yg c13 (o_len rfl hh ty_us_54) ?_
         refine Yg c13 (o_eql rfl hh hh) ?_
         refine Yy (o_pick_t rfl hh c13 hh) ?_
         revert H; refine bs fun y9 h10 H => ?_
         rcases y9 with y9 | pv9 <;> dsimp only at H
         ·
          refine T_call trivial rfl rfl rfl (has rfl) (HasL.cons (has rfl) HasL.nil) rfl ty_cb_84 (scope_want_w (decide ((a0.Kids.length : Int) = 2)) (Sum.inl y9) h10).s rfl ?_
          refine T_nil ?_
          refine T_in_n ?_
          refine T_then_n ?_
          exact T_meet (()) (Option.some.inj H).symm (Sc (Sc (Sc (Sc SubT.nil)))) rfl
         ·
          refine T_callP trivial rfl (has rfl) (HasL.cons (has rfl) HasL.nil) rfl ty_cb_84 (scope_want_w (decide ((a0.Kids.length : Int) = 2)) (Sum.inr pv9) h10).pan rfl ?_
          refine T_in_panic ?_
          refine T_then_panic ?_
          revert H; refine bs fun r9 H e9 => ?_
          have e9 := Option.some.inj e9; subst e9; have Hr2 := Option.some.inj Hr2; subst Hr2
          cases H
          exact T_inr
        ·
         refine Yf c13 ?_
         refine Yf c13 ?_
         refine Yf c13 ?_
         refine Yf c13 ?_
         refine Yy (o_pick_f rfl hh c13 hh) ?_
         revert H; refine bs fun y10 h11 H => ?_
         rcases y10 with y10 | pv10 <;> dsimp only at H
         ·
          refine T_call trivial rfl rfl rfl (has rfl) (HasL.cons (has rfl) HasL.nil) rfl ty_cb_84 (scope_want_w false (Sum.inl y10) h11).s rfl ?_
          refine T_nil ?_
          refine T_in_n ?_
          refine T_then_n ?_
          exact T_meet (()) (Option.some.inj H).symm (Sc (Sc (Sc (Sc SubT.nil)))) rfl
         ·
          refine T_callP trivial rfl (has rfl) (HasL.cons (has rfl) HasL.nil) rfl ty_cb_84 (scope_want_w false (Sum.inr pv10) h11).pan rfl ?_
          refine T_in_panic ?_
          refine T_then_panic ?_
          revert H; refine bs fun r10 H e10 => ?_
          have e10 := Option.some.inj e10; subst e10; have Hr2 := Option.some.inj Hr2; subst Hr2
          cases H
          exact T_inr
       ·
        refine T_cond_f (has rfl) c12 ?_
        refine T_region ?_
        revert H; refine bs fun y11 h12 H => ?_
        rcases y11 with y11 | pv11 <;> dsimp only at H
        ·
         refine T_call trivial rfl rfl rfl (has rfl) (HasL.cons (has rfl) HasL.nil) rfl ty_cb_84 (scope_want_w false (Sum.inl y11) h12).s rfl ?_
         refine T_nil ?_
         refine T_in_n ?_
         refine T_then_n ?_
         exact T_meet (()) (Option.some.inj H).symm (Sc (Sc (Sc (Sc SubT.nil)))) rfl
        ·
         refine T_callP trivial rfl (has rfl) (HasL.cons (has rfl) HasL.nil) rfl ty_cb_84 (scope_want_w false (Sum.inr pv11) h12).pan rfl ?_
         refine T_in_panic ?_
         refine T_then_panic ?_
         revert H; refine bs fun r11 H e11 => ?_
         have e11 := Option.some.inj e11; subst e11; have Hr2 := Option.some.inj Hr2; subst Hr2
         cases H
         exact T_inr
   ·
    clear H; intro i hi; subst o2; have H := Hr2; clear Hr2; try dsimp only at H
    show T β _ _ [(1, fInt .i64 a1), (2, fEq (.pointer (some ⟨q0, 0, none⟩))), (4, fEq (.pointer (some ⟨q2, 0, none⟩))), (5, fEq (.pointer (some ⟨b1, 0, none⟩)))] [tBlk q0 3 [fInt .i64 z1], tBlk b1 94 [fInt .i64 a0.Op, fInt .i64 a0.N, fScopeExps a0.Kids], tBlk q2 172 [fClo 100 [fEq (.pointer (some ⟨q0, 0, none⟩)), fPtr (tInt .i64) w1, fEq (.pointer (some ⟨q2, 0, none⟩))]]] _
    refine Sr ?_
    refine Yy (o_fieldB 2 rfl hh ty_fa_94_2 rfl) ?_
    refine Yo 1 rfl (o_loadB rfl hh ty_sc_54 rfl (ent_of_eq ScopeExps_eq)) ?_
    refine Yy (o_len rfl hh ty_us_54) ?_
    refine Ym ?_
    refine Nn ?_
    refine T_block ?_
    refine T_loop (ι := Nat × Int × Int) (fun i => scope_exp_1_l1 (scope_exp_1_S fuel) a0 a1 w1 i.1 i.2.1 i.2.2 = _) (fun i => i.1) (fun i => [(1, fInt .i64 a1), (2, fEq (.pointer (some ⟨q0, 0, none⟩))), (4, fEq (.pointer (some ⟨q2, 0, none⟩))), (73, fSl tScopeExp a0.Kids), (74, fInt .i64 (a0.Kids.length : Int)), (75, fInt .i64 i.2.1)]) (fun i => [tBlk q0 3 [fInt .i64 i.2.2], tBlk b1 94 [fInt .i64 a0.Op, fInt .i64 a0.N, fScopeExps a0.Kids], tBlk q2 172 [fClo 100 [fEq (.pointer (some ⟨q0, 0, none⟩)), fPtr (tInt .i64) w1, fEq (.pointer (some ⟨q2, 0, none⟩))]]]) (fuel, 0, z1) H (Sc (Sc (Sc (Sc (Sc (Sc SubT.nil)))))) rfl ?_
    clear H; rintro ⟨k1, x4, x5⟩ H
    replace H : scope_exp_1_l1 (scope_exp_1_S fuel) a0 a1 w1 k1 x4 x5 = _ := H
    show T β _ _ [(1, fInt .i64 a1), (2, fEq (.pointer (some ⟨q0, 0, none⟩))), (4, fEq (.pointer (some ⟨q2, 0, none⟩))), (73, fSl tScopeExp a0.Kids), (74, fInt .i64 (a0.Kids.length : Int)), (75, fInt .i64 x4)] [tBlk q0 3 [fInt .i64 x5], tBlk b1 94 [fInt .i64 a0.Op, fInt .i64 a0.N, fScopeExps a0.Kids], tBlk q2 172 [fClo 100 [fEq (.pointer (some ⟨q0, 0, none⟩)), fPtr (tInt .i64) w1, fEq (.pointer (some ⟨q2, 0, none⟩))]]] _
    obtain _ | k1 := k1
    ·
     rw [scope_exp_1_l1] at H; cases H
    rw [scope_exp_1_l1] at H
    refine Sr ?_
    refine Yy (o_lss rfl hh hh) ?_
    refine Nn ?_
    refine T_seq ?_
    revert H; refine is (fun c14 H => ?_) fun c14 H => ?_
    ·
     refine T_cond_t (has rfl) c14 ?_
     refine T_skip ?_
     refine T_then_n ?_
     refine T_seq ?_
     refine T_block ?_
     refine Sr ?_
     revert H; refine bs fun y12 h13 H => ?_
     refine Yy (o_index rfl hh hh ty_el_54 h13) ?_
     refine Yy (o_loadS rfl hh ty_ag_94) ?_
     refine T_new trivial rfl rfl (n_alloc rfl ty_ze_94 rfl) (fun b2 => ?_)
     refine T_storeS (φs' := [fInt .i64 y12.Op, fInt .i64 y12.N, fScopeExps y12.Kids]) trivial rfl rfl (has rfl) (has rfl) (ll_cons (leaf_eq trivial) (ll_cons (leaf_eq trivial) (ll_cons (leaf_ScopeExps) ll_nil))) ty_sz_94 rfl rfl rfl ?_
     refine Nn ?_
     refine T_region ?_
     refine Yo 3 rfl (o_loadB rfl hh ty_sc_172 rfl Ent.rfl) ?_
     refine Yo 0 rfl (o_loadBS rfl hh ty_ag_94 rfl rfl) ?_
     refine Ym ?_
     revert H; refine bs fun z2 h14 H => ?_
     refine Yy (o_add rfl hh hh h14) ?_
     refine T_fr3 ?_
     refine T_fr2 ?_
     revert H; refine bs fun y13 h15 H => ?_
     rcases y13 with y13 | pv12 <;> dsimp only at H
     ·
      refine T_callC trivial rfl rfl rfl (has rfl) (HasL.cons (has rfl) (HasL.cons (has rfl) HasL.nil)) rfl ty_cb_100 (ih_scope_exp_1 q0 q2 (⟨y12.Op, y12.N, y12.Kids⟩ : ScopeExp) z2 x5 w1 (Sum.inl y13) h15).s rfl ?_
      refine T_nil ?_
      refine T_in_n ?_
      refine T_then_n ?_
      refine T_region ?_
      revert H; refine bs fun z3 h16 H => ?_
      refine Yy (o_add rfl hh hh h16) ?_
      refine Ym ?_
      refine Nn ?_
      refine T_pick [0, 3, 1] (by decide) ?_
      exact T_meet ((k1, z3, y13)) ⟨H, Nat.lt_succ_self _⟩ (Sc (Sc (Sc (Sc (Sc (Sc SubT.nil)))))) rfl
     ·
      refine T_callPC trivial rfl (has rfl) (HasL.cons (has rfl) (HasL.cons (has rfl) HasL.nil)) rfl ty_cb_100 (ih_scope_exp_1 q0 q2 (⟨y12.Op, y12.N, y12.Kids⟩ : ScopeExp) z2 x5 w1 (Sum.inr pv12) h15).pan rfl ?_
      refine T_in_panic ?_
      refine T_then_panic ?_
      refine T_then_panic ?_
      refine T_in_panic ?_
      cases H
      exact T_inr
    ·
     refine T_cond_f (has rfl) c14 ?_
     refine T_exit ?_
     refine T_then_exit ?_
     refine T_then_exit ?_
     refine T_in_hit ?_
     cases H
     refine T_inl ?_
     refine T_pick [0, 2] (by decide) ?_
     exact T_out0 (.inr rfl) rfl rfl
def scope_exp_S (fuel : Nat) (a0 : ScopeExp) (a1 : Int) : Option (Unit ⊕ Value) :=
 (scope_exp_1_S fuel (⟨a0.Op, a0.N, a0.Kids⟩ : ScopeExp) 1 0 a1).bind fun y1 =>
 match y1 with
 | Sum.inr pv1 => some (Sum.inr pv1)
 | Sum.inl y1 =>
 some (Sum.inl ())
theorem scope_exp_w (fuel : Nat)  (a0 : ScopeExp) (a1 : Int) (r : Unit ⊕ Value) (H : scope_exp_S fuel a0 a1 = some r) : FnE Try.prog 95 [fSt tScopeExp a0, fInt .i64 a1] [] r (fun r => fTup []) (fun r => []) := by
 unfold scope_exp_S at H
 refine FnE_of Try.func95 rfl Try.ntmps95 rfl (fun β => ?_)
 refine Sr ?_
 refine T_new trivial rfl rfl (n_box rfl (has rfl) part_agg) (fun b1 => ?_)
 refine T_new trivial rfl rfl (n_box rfl (has rfl) (part_leaf (leaf_eq trivial))) (fun b2 => ?_)
 refine Nn ?_
 refine Sr ?_
 refine T_new trivial rfl rfl (n_alloc rfl ty_ze_3 rfl) (fun b3 => ?_)
 refine T_store (φs' := [fInt .i64 0]) trivial rfl rfl (has rfl) (has rfl) (leaf_eq trivial) ty_sz_3 rfl rfl ?_
 refine Nn ?_
 refine Sr ?_
 refine T_new trivial rfl rfl (n_alloc rfl ty_ze_172 rfl) (fun b4 => ?_)
 refine Nn ?_
 refine Sr ?_
 refine T_fr2 ?_
 refine T_freeze (φ := fPtr (tInt .i64) a1) (v := ptr b2) [3] (frz_blk EntL.rfl) (by intro s hs; simp only [List.mem_cons, List.not_mem_nil, or_false] at hs; rcases hs with rfl <;> rfl) ?_
 refine T_dropT ?_
 refine Yy (o_clo rfl (HasL.cons hh (HasL.cons hh (HasL.cons hh HasL.nil)))) ?_
 refine T_store (φs' := [fClo 100 [fEq (.pointer (some ⟨b3, 0, none⟩)), fPtr (tInt .i64) a1, fEq (.pointer (some ⟨b4, 0, none⟩))]]) trivial rfl rfl (has rfl) (has rfl) (leaf_clo) ty_sz_172 rfl rfl ?_
 refine Nn ?_
 refine T_region ?_
 refine Yo 0 rfl (o_loadB rfl hh ty_sc_172 rfl Ent.rfl) ?_
 refine Yo 2 rfl (o_loadBS rfl hh ty_ag_94 rfl rfl) ?_
 refine T_fr1 ?_
 revert H; refine bs fun y1 h1 H => ?_
 rcases y1 with y1 | pv1 <;> dsimp only at H
 ·
  refine T_callC trivial rfl rfl rfl (has rfl) (HasL.cons (has rfl) (HasL.cons (has rfl) HasL.nil)) rfl ty_cb_100 (scope_exp_1_w fuel b3 b4 (⟨a0.Op, a0.N, a0.Kids⟩ : ScopeExp) 1 0 a1 (Sum.inl y1) h1).s rfl ?_
  refine T_nil ?_
  cases H
  refine T_inl ?_
  refine T_pick [] (by decide) ?_
  exact T_out0 (.inr rfl) rfl rfl
 ·
  refine T_callPC trivial rfl (has rfl) (HasL.cons (has rfl) (HasL.cons (has rfl) HasL.nil)) rfl ty_cb_100 (scope_exp_1_w fuel b3 b4 (⟨a0.Op, a0.N, a0.Kids⟩ : ScopeExp) 1 0 a1 (Sum.inr pv1) h1).pan rfl ?_
  cases H
  exact T_inr
def slices_Index_Lint_int_l1 (a0 : List Int) (a1 : Int) : Nat → Int → Option ((Unit) ⊕ (Int))
| 0, _ => none
| k + 1, x2 =>
 if x2 < (a0.length : Int) then
  (idx a0 x2).bind fun y1 =>
  if a1 = y1 then
   (some x2).bind fun r => some (Sum.inr r)
  else
   (chk (x2 + 1)).bind fun z1 =>
   slices_Index_Lint_int_l1 a0 a1 k z1
 else
  some (Sum.inl ())
def slices_Index_Lint_int_S (fuel : Nat) (a0 : List Int) (a1 : Int) : Option (Int) :=
 (slices_Index_Lint_int_l1 a0 a1 fuel 0).bind fun o => match o with
 | Sum.inr r => some r
 | Sum.inl _ =>
 some (-1)
theorem slices_Index_Lint_int_w (fuel : Nat)  (a0 : List Int) (a1 : Int) (r : Int) (H : slices_Index_Lint_int_S fuel a0 a1 = some r) : FnS Try.prog 103 [fSl (tInt .i64) a0, fInt .i64 a1] [] (fInt .i64 r) (fun _ => []) := by
 unfold slices_Index_Lint_int_S at H
 refine FnS_of Try.func103 rfl Try.ntmps103 rfl (fun β => ?_)
 refine Sr ?_
 refine Ya ?_
 refine Nn ?_
 revert H; refine bs fun o1 H Hr1 => ?_
 refine T_seqJ (ι := Unit) (fun i => o1 = Sum.inl ()) (fun i => []) (fun i => []) ?_ ?_
 ·
  refine Sr ?_
  refine Ym ?_
  refine Yy (o_len rfl hh ty_us_46) ?_
  refine Ym ?_
  refine Nn ?_
  refine T_block ?_
  refine T_loop (ι := Nat × Int) (fun i => slices_Index_Lint_int_l1 a0 a1 i.1 i.2 = _) (fun i => i.1) (fun i => [(0, fSl (tInt .i64) a0), (1, fInt .i64 a1), (7, fInt .i64 (a0.length : Int)), (8, fInt .i64 i.2)]) (fun i => []) (fuel, 0) H (Sc (Sc (Sc (Sc SubT.nil)))) rfl ?_
  clear H; rintro ⟨k1, x2⟩ H
  replace H : slices_Index_Lint_int_l1 a0 a1 k1 x2 = _ := H
  show T β _ _ [(0, fSl (tInt .i64) a0), (1, fInt .i64 a1), (7, fInt .i64 (a0.length : Int)), (8, fInt .i64 x2)] [] _
  obtain _ | k1 := k1
  ·
   rw [slices_Index_Lint_int_l1] at H; cases H
  rw [slices_Index_Lint_int_l1] at H
  refine Sr ?_
  refine Yy (o_lss rfl hh hh) ?_
  refine Nn ?_
  refine T_seq ?_
  revert H; refine is (fun c1 H => ?_) fun c1 H => ?_
  ·
   refine T_cond_t (has rfl) c1 ?_
   refine T_skip ?_
   refine T_then_n ?_
   refine T_seq ?_
   refine T_block ?_
   refine Sr ?_
   refine Ym ?_
   refine Ya ?_
   refine Nn ?_
   refine Sr ?_
   refine Ym ?_
   refine Ym ?_
   refine Ym ?_
   revert H; refine bs fun y1 h1 H => ?_
   refine Yy (o_index rfl hh hh ty_el_46 h1) ?_
   refine Yy (o_load rfl hh ty_sc_3 rfl) ?_
   refine Yy (o_eql rfl hh hh) ?_
   refine Nn ?_
   revert H; refine is (fun c2 H => ?_) fun c2 H => ?_
   ·
    refine T_cond_t (has rfl) c2 ?_
    refine Sr ?_
    refine Ym ?_
    refine Ya ?_
    refine Nn ?_
    refine T_retc ?_
    refine T_in_ret ?_
    refine T_then_ret ?_
    refine T_then_ret ?_
    refine T_in_ret ?_
    refine T_then_ret ?_
    revert H; refine bs fun r1 H e1 => ?_
    have e1 := Option.some.inj e1; subst e1; have Hr1 := Option.some.inj Hr1; subst Hr1
    cases H
    exact T_out1 rfl (hasS rfl) rfl
   ·
    refine T_cond_f (has rfl) c2 ?_
    refine T_skip ?_
    refine T_in_n ?_
    refine T_then_n ?_
    refine T_region ?_
    revert H; refine bs fun z1 h2 H => ?_
    refine Yy (o_add rfl hh hh h2) ?_
    refine Ym ?_
    refine Nn ?_
    exact T_meet ((k1, z1)) ⟨H, Nat.lt_succ_self _⟩ (Sc (Sc (Sc (Sc SubT.nil)))) rfl
  ·
   refine T_cond_f (has rfl) c1 ?_
   refine T_exit ?_
   refine T_then_exit ?_
   refine T_then_exit ?_
   refine T_in_hit ?_
   refine T_then_n ?_
   exact T_meet (()) (Option.some.inj H).symm SubT.nil rfl
 ·
  clear H; intro i hi; subst o1; have H := Hr1; clear Hr1; try dsimp only at H
  show T β _ _ [] [] _
  refine Sr ?_
  refine Ya ?_
  refine Nn ?_
  refine T_retc ?_
  cases H
  exact T_out1 rfl (hasS rfl) rfl
def slices_Contains_Lint_int_S (fuel : Nat) (a0 : List Int) (a1 : Int) : Option (Bool) :=
 (slices_Index_Lint_int_S fuel a0 a1).bind fun y1 =>
 some (decide (0 ≤ y1))
theorem slices_Contains_Lint_int_w (fuel : Nat)  (a0 : List Int) (a1 : Int) (r : Bool) (H : slices_Contains_Lint_int_S fuel a0 a1 = some r) : FnS Try.prog 102 [fSl (tInt .i64) a0, fInt .i64 a1] [] (fBool r) (fun _ => []) := by
 unfold slices_Contains_Lint_int_S at H
 refine FnS_of Try.func102 rfl Try.ntmps102 rfl (fun β => ?_)
 refine Sr ?_
 refine Ya ?_
 refine Nn ?_
 refine Sr ?_
 refine Ym ?_
 refine Ym ?_
 revert H; refine bs fun y1 h1 H => ?_
 refine T_call trivial rfl rfl rfl (has rfl) (HasL.cons (has rfl) (HasL.cons (has rfl) HasL.nil)) rfl ty_cb_103 (slices_Index_Lint_int_w fuel a0 a1 y1 h1) rfl ?_
 refine Yy (o_geq rfl hh hh) ?_
 refine Ya ?_
 refine Nn ?_
 refine T_retc ?_
 cases H
 exact T_out1 rfl (hasS rfl) rfl
end Go.Proofs.Ytmnbfgeljmhekaa
