/- Parts of the proof: lemmas, and the steps through the program. -/
import Derived.Test.YtmnbfgeljmhekaaGreatKw4
set_option linter.unusedVariables false
set_option linter.unusedSimpArgs false
set_option maxRecDepth 100000
namespace Go.Proofs.YtmnbfgeljmhekaaGreat
open Go.SX Go.SW Go.Dt
section
variable {p : ScopeProg} {t : Usage_text} {L : bR} {H : Nat} {tab : List UsageDef} {d n : Int} {e : E} {x : ScopeNode} {D : ScopeDef}
def hP (D : ScopeDef) : List Int → Int
 | [] => 0
 | j :: l => mny D j + hP D l
theorem aE1 (D : ScopeDef) : ∀ (a b : List Int), hP D (a ++ b) = hP D a + hP D b
 | [], b => by simp [hP]
 | j :: a, b => by rw [List.cons_append, hP, hP, aE1 D a b]; omega
theorem brought1 {r : ScopeRule} {k0 : Int} (hr : idx D.Rules k0 = some r) (pre suf : List Int) (hx : r.Joins = pre ++ suf) (hj : ∀ j ∈ r.Joins, ∃ y, idx D.Chans j = some y ∧ 0 ≤ y.Many ∧ y.Many ≤ 3) (mid : List Int) : ∀ (done : List Int) (k : Nat) (w : Int), pre = done ++ mid → mid.length < k → 0 ≤ w → w + 3 * mid.length ≤ 100000 → done.length + mid.length ≤ 1000 →
  uP k0 pre.length D k w done.length = some (w + hP D mid) := by
 induction mid with
 | nil =>
  intro done k w hp hk _ _ _
  obtain _ | k := k
  ·omega
  rw [uP, if_neg (show ¬ (done.length : Int) < (pre.length : Int) from by rw [hp]; simp), hP, Int.add_zero]
 | cons j mid ih =>
  intro done k w hp hk h0 h1 h2
  obtain _ | k := k
  ·omega
  have hi : idx r.Joins (done.length : Int) = some j := by rw [hx, hp, List.append_assoc]; exact cA _ _ _
  obtain ⟨y, hy, y0, y3⟩ := hj j (dU hi)
  simp only [List.length_cons] at hk h1 h2
  rw [uP, if_pos (show (done.length : Int) < (pre.length : Int) from by rw [hp]; exact cB _ _ _), hr, bsm, hi, bsm, hy, bsm, aP (by omega), bsm, aP (by omega), bsm, bS done j,
   ih (done ++ [j]) k _ (by rw [hp]; exact cE _ _ _) (by omega) (by omega) (by omega) (by simp; omega), hP, oY hy]
  congr 1; omega
theorem aIv (S : bI p t L H) (h : dQ p H d n e x D) (hL : idx L.Heads d = some n) {r : ScopeRule} {k0 : Int} (hr : idx D.Rules k0 = some r) (pre suf : List Int) (hx : r.Joins = pre ++ suf) {i : Int} (hi : 0 ≤ i ∧ i ≤ 100) :
  aCF F L d k0 pre.length i = some ((e.length : Int) + (D.Chans.length : Int) + (D.Spots.length : Int) + hP D pre + i) := by
 have ho := dT h.ok
 have el := S.elen _ h.ln
 dsimp only at el
 obtain ⟨j1, j2⟩ := ho.2.2.2.2 r (dU hr)
 have hl := congrArg List.length hx
 rw [List.length_append] at hl
 rw [aCF, S.rprog, h.hD, bsm, hL, bsm, S.size _ h.ln, bsm]
 dsimp only
 rw [aP (by omega), bsm, aP (by omega), bsm, aP (by omega), bsm, show uP k0 pre.length D F _ 0 = _ from brought1 hr pre suf hx j2 pre [] F _ rfl (by show _ < 4000000; omega) (by omega) (by omega) (by simp; omega), bsm]
 congr 1; omega
theorem arg2 (S : bI p t L H) (h : dQ p H d n e x D) (hk : okTab p tab) (hL : idx L.Heads d = some n) {X : UsageDef} (hX : idx tab d = some X) {r : ScopeRule} {k0 : Int} (hr : idx D.Rules k0 = some r) {z : Int} (hz : idx X.Rules k0 = some z) {c i : Int} (hi : 0 ≤ i ∧ i ≤ 100) (hs : ∀ v, iF F L tab r.Node v = some (snd p tab (r.Node, ruE e d D r) v)) (suf : List Int) :
  ∀ (pre : List Int) (k : Nat) (w : Int), r.Joins = pre ++ suf → suf.length < k →
  sI F L tab d c i D k0 k w pre.length = some (if cnt z = 0 then w else iQ (snd p tab (r.Node, ruE e d D r)) D c i suf ((e.length : Int) + (D.Chans.length : Int) + (D.Spots.length : Int) + hP D pre) w) := by
 have ho := dT h.ok
 obtain ⟨j1, j2⟩ := ho.2.2.2.2 r (dU hr)
 induction suf with
 | nil =>
  intro pre k w hx hkk
  obtain _ | k := k
  ·omega
  rw [sI, hr, bsm, if_neg (show ¬ (pre.length : Int) < (r.Joins.length : Int) from by rw [hx]; simp), iQ]
  split <;> rfl
 | cons j suf ih =>
  intro pre k w hx hkk
  obtain _ | k := k
  ·omega
  have hl := congrArg List.length hx
  rw [List.length_append, List.length_cons] at hl
  simp only [List.length_cons] at hkk
  have hi' : idx r.Joins (pre.length : Int) = some j := by rw [hx]; exact cA _ _ _
  have next : ∀ w', sI F L tab d c i D k0 k w' ((pre.length : Int) + 1) = some (if cnt z = 0 then w' else iQ (snd p tab (r.Node, ruE e d D r)) D c i suf ((e.length : Int) + (D.Chans.length : Int) + (D.Spots.length : Int) + hP D pre + mny D j) w') := fun w' => by
   rw [bS pre j, ih (pre ++ [j]) k w' (by rw [hx]; exact cE _ _ _) (by omega), aE1, hP, hP, Int.add_zero, Int.add_assoc _ (hP D pre)]
  rw [sI, hr, bsm, if_pos (show (pre.length : Int) < (r.Joins.length : Int) from by rw [hx]; exact cB _ _ _), bsm, hi', bsm, iQ]
  by_cases hc : j = c
  ·rw [if_pos hc, if_pos hc, hX, bsm, hz, bsm, of_r, bsm]
   by_cases c0 : cnt z = 0
   ·rw [if_neg (show ¬ 0 < cnt z from by omega), bsm, aP (by omega), bsm, next, if_pos c0, if_pos c0]
   ·have := iN z
    rw [if_pos (show 0 < cnt z from by unfold two at this; omega), bsm, aIv S h hL hr pre (j :: suf) hx hi, bsm, hs, bsm, bsm, aP (by omega), bsm, next, if_neg c0, if_neg c0]
  ·rw [if_neg hc, if_neg hc, bsm, aP (by omega), bsm, next]
theorem arg1 (S : bI p t L H) (h : dQ p H d n e x D) (hk : okTab p tab) (hL : idx L.Heads d = some n) {c i : Int} (hi : 0 ≤ i ∧ i ≤ 100) (suf : List ScopeRule) : ∀ (pre : List ScopeRule) (k : Nat) (w : Int), D.Rules = pre ++ suf → suf.length < k →
  wB F L tab d c i D k w pre.length = some (fB (dR tab d) ((e.length : Int) + (D.Chans.length : Int) + (D.Spots.length : Int)) (fun r v => snd p tab (r.Node, ruE e d D r) v) D c i suf pre.length w) := by
 obtain ⟨X, hX, ok1⟩ := kW hk h.hD
 have ho := dT h.ok
 have e2 : dR tab d = X.Rules := by unfold dR; rw [hX]; rfl
 induction suf with
 | nil =>
  intro pre k w hx hkk
  obtain _ | k := k
  ·omega
  rw [wB, if_neg (show ¬ (pre.length : Int) < (D.Rules.length : Int) from by rw [hx]; simp)]; rfl
 | cons r suf ih =>
  intro pre k w hx hkk
  obtain _ | k := k
  ·omega
  have hl := congrArg List.length hx
  rw [List.length_append, List.length_cons] at hl
  simp only [List.length_cons] at hkk
  have hr' : idx D.Rules (pre.length : Int) = some r := by rw [hx]; exact cA _ _ _
  have hr := dU hr'
  obtain ⟨j1, j2⟩ := ho.2.2.2.2 r hr
  obtain ⟨z, hz⟩ := cH (xs := X.Rules) (i := (pre.length : Int)) (by omega) (by rw [ok1.rules]; omega)
  have kz : kc (dR tab d) (pre.length : Int) = cnt z := by unfold kc; rw [e2, hz]; rfl
  have hm : (r.Node, ruE e d D r) ∈ LN p H (root p) := by
   have := (S.subs h.ln h.hx).2 _ (aAh (e := e) h.op (by rw [h.hN]; exact h.hD) hr)
   rwa [h.hN] at this
  have hs : ∀ v, iF F L tab r.Node v = some (snd p tab (r.Node, ruE e d D r) v) := fun v => by
   obtain ⟨q, ⟨q1, rfl⟩, _, q2⟩ := S.sends hk hm v (f := F) (f' := F) (by show _ ≤ 4000000; omega) (by show _ ≤ 4000000; omega)
   exact q2
  rw [wB, if_pos (show (pre.length : Int) < (D.Rules.length : Int) from by rw [hx]; exact cB _ _ _), show sI F L tab d c i D (pre.length : Int) F w 0 = _ from arg2 S h hk hL hX hr' hz hi hs r.Joins [] F w rfl (by show _ < 4000000; omega), bsm, aP (by omega), bsm, bS pre r,
   ih (pre ++ [r]) k _ (by rw [hx]; exact cE _ _ _) (by omega), fB, kz, hP, Int.add_zero, bS pre r]
theorem least2 (S : bI p t L H) (h : dQ p H d n e x D) (hk : okTab p tab) (hL : idx L.Heads d = some n) {c : Nat} (hc : c < D.Chans.length) : tX F L tab d D (c : Int) F [] 0 = some ((List.range (mny D (c : Int)).toNat).map fun i : Nat => dY (fB (dR tab d) ((e.length : Int) + (D.Chans.length : Int) + (D.Spots.length : Int)) (fun r v => snd p tab (r.Node, ruE e d D r) v) D (c : Int) (i : Int) D.Rules 0 0)) := by
 have ho := dT h.ok
 obtain ⟨y, hy⟩ := kD hc
 have hm := ho.2.2.2.1 y (dU hy)
 have e1 := oY hy
 refine fO (fun k (s : List Int × Int) => tX F L tab d D (c : Int) k s.1 s.2) (mny D (c : Int)).toNat (fun i => ((List.range i).map fun i : Nat => dY (fB (dR tab d) ((e.length : Int) + (D.Chans.length : Int) + (D.Spots.length : Int)) (fun r v => snd p tab (r.Node, ruE e d D r) v) D (c : Int) (i : Int) D.Rules 0 0), (i : Int))) _ (fun k i hi => ?_) (fun k => ?_) (by show _ < 4000000; omega)
 ·dsimp only
  rw [tX, hy, bsm, if_pos (by omega), aGe, S.rprog, h.hD, bsm, show wB F L tab d (c : Int) (i : Int) D F 0 0 = _ from arg1 S h hk hL (by omega) D.Rules [] F 0 rfl (by show _ < 4000000; omega), bsm, bsm, aCd, bsm, eO (by simp; omega), bsm, aP (by omega), bsm]
  congr 1
  exact qH (f := fun i : Nat => dY (fB (dR tab d) ((e.length : Int) + (D.Chans.length : Int) + (D.Spots.length : Int)) (fun r v => snd p tab (r.Node, ruE e d D r) v) D (c : Int) (i : Int) D.Rules 0 0))
 ·dsimp only
  rw [tX, hy, bsm, if_neg (by omega)]
theorem least1 (S : bI p t L H) (h : dQ p H d n e x D) (hk : okTab p tab) (hL : idx L.Heads d = some n) : vB F L tab d D F 0 [] [] = some ((dZ p tab d x D e).Chans, (dZ p tab d x D e).Args) := by
 have ho := dT h.ok
 refine fO (fun k (s : Int × List Int × List (List Int)) => vB F L tab d D k s.1 s.2.1 s.2.2) D.Chans.length (fun i => ((i : Int), (List.range i).map fun c : Nat => dY (gG tab x D e fun k => snd p tab k ((e.length : Int) + (c : Int))),
  (List.range i).map fun c : Nat => (List.range (mny D (c : Int)).toNat).map fun i : Nat => dY (fB (dR tab d) ((e.length : Int) + (D.Chans.length : Int) + (D.Spots.length : Int)) (fun r v => snd p tab (r.Node, ruE e d D r) v) D (c : Int) (i : Int) D.Rules 0 0))) _ (fun k i hi => ?_) (fun k => ?_) (by show _ < 4000000; omega)
 ·dsimp only
  obtain ⟨r, ⟨r1, rfl⟩, _, r2⟩ := S.inner hk h ((e.length : Int) + (i : Int))
  rw [vB, if_pos (by omega), hL, bsm, aEi S h hL (by omega), bsm, r2, bsm, aCd, bsm, eO (by simp; omega), bsm, least2 S h hk hL hi, bsm, eO (by simp; omega), bsm, bsm]
  dsimp only
  rw [aP (by omega), bsm]
  congr 1
  ·exact qH (f := fun c : Nat => dY (gG tab x D e fun k => snd p tab k ((e.length : Int) + (c : Int))))
  ·exact qH (f := fun c : Nat => (List.range (mny D (c : Int)).toNat).map fun i : Nat => dY (fB (dR tab d) ((e.length : Int) + (D.Chans.length : Int) + (D.Spots.length : Int)) (fun r v => snd p tab (r.Node, ruE e d D r) v) D (c : Int) (i : Int) D.Rules 0 0))
 ·dsimp only
  rw [vB, if_neg (by omega)]; rfl
theorem least4 {X : UsageDef} (hX : idx tab d = some X) {r : ScopeRule} {k0 : Int} (hr : idx D.Rules k0 = some r) (hJ : r.Joins.length ≤ 3) (suf : List Int) : ∀ (pre : List Int) (k : Nat) (w : Int), r.Joins = pre ++ suf → suf.length < k → (∀ j ∈ suf, ∃ y, idx X.Chans j = some y) → vI tab d D k0 k w pre.length = some (suf.foldl (fun w j => min w (kc X.Chans j)) w) := by
 induction suf with
 | nil =>
  intro pre k w hx hk _
  obtain _ | k := k
  ·omega
  rw [vI, hr, bsm, if_neg (show ¬ (pre.length : Int) < (r.Joins.length : Int) from by rw [hx]; simp)]; rfl
 | cons j suf ih =>
  intro pre k w hx hk hj
  obtain _ | k := k
  ·omega
  obtain ⟨y, hy⟩ := hj j (List.mem_cons_self ..)
  have hl := congrArg List.length hx
  rw [List.length_append, List.length_cons] at hl
  simp only [List.length_cons] at hk
  rw [vI, hr, bsm, if_pos (show (pre.length : Int) < (r.Joins.length : Int) from by rw [hx]; exact cB pre suf j), hX, bsm, bsm, show idx r.Joins (pre.length : Int) = some j from by rw [hx]; exact cA pre suf j, bsm, hy, bsm, of_r, bsm, aP (by omega), bsm, bS pre j,
   ih (pre ++ [j]) k _ (by rw [hx]; exact cE pre suf j) (by omega) (fun z hz => hj z (List.mem_cons_of_mem _ hz)), List.foldl_cons, show kc X.Chans j = cnt y from by unfold kc; rw [hy]; rfl]
theorem least3 (h : dQ p H d n e x D) (hk : okTab p tab) (suf : List ScopeRule) : ∀ (pre : List ScopeRule) (k : Nat) (acc : List Int), D.Rules = pre ++ suf → suf.length < k → acc.length = pre.length → uT F tab d D k pre.length acc = some (acc ++ suf.map fun r => dY (minJ (eK tab d) r.Joins)) := by
 obtain ⟨X, hX, ok1⟩ := kW hk h.hD
 have ho := dT h.ok
 have e1 : eK tab d = X.Chans := by unfold eK; rw [hX]; rfl
 induction suf with
 | nil =>
  intro pre k acc hx hkk _
  obtain _ | k := k
  ·omega
  rw [uT, if_neg (show ¬ (pre.length : Int) < (D.Rules.length : Int) from by rw [hx]; simp), List.map_nil, List.append_nil]
 | cons r suf ih =>
  intro pre k acc hx hkk ha
  obtain _ | k := k
  ·omega
  have hl := congrArg List.length hx
  rw [List.length_append, List.length_cons] at hl
  simp only [List.length_cons] at hkk
  have hr' : idx D.Rules (pre.length : Int) = some r := by rw [hx]; exact cA _ _ _
  obtain ⟨j1, j2⟩ := ho.2.2.2.2 r (dU hr')
  rw [uT, if_pos (show (pre.length : Int) < (D.Rules.length : Int) from by rw [hx]; exact cB _ _ _), show vI tab d D (pre.length : Int) F 2 0 = _ from least4 hX hr' j1 r.Joins [] F 2 rfl (by show _ < 4000000; omega) (fun j hj => by obtain ⟨y, hy, _⟩ := j2 j hj; have := eA hy; exact cH this.1 (by rw [ok1.chans]; exact this.2)), bsm, aCd, bsm,
   eO (by simp; omega), bsm, bsm, aP (by omega), bsm, bS pre r, ih (pre ++ [r]) k _ (by rw [hx]; exact cE _ _ _) (by omega) (by simp [ha]), List.map_cons, List.append_assoc, List.singleton_append, e1]
  rfl
theorem least_eq (S : bI p t L H) (hk : okTab p tab) (h : dQ p H d n e x D) (hL : idx L.Heads d = some n) : aA0 F L tab d = some (dZ p tab d x D e) := by
 have ho := dT h.ok
 rw [aA0, S.rprog, h.hD, bsm, least1 S h hk hL, bsm]
 dsimp only
 rw [show uT F tab d D F 0 [] = _ from least3 h hk D.Rules [] F [] rfl (by show _ < 4000000; omega) rfl, bsm, List.nil_append]
 rfl
noncomputable def cN (p : ScopeProg) (H : Nat) (tab : List UsageDef) : List UsageDef := (List.range p.Defs.length).map fun d : Nat => open Classical in if h : ∃ u : UsageDef, ∃ n e x D, dQ p H (d : Int) n e x D ∧ u = dZ p tab (d : Int) x D e then h.choose else ⟨[], [], []⟩
theorem aAM (S : bI p t L H) {d : Nat} {n : Int} (hd : d < p.Defs.length) (h : dQ p H (d : Int) n e x D) : idx (cN p H tab) (d : Int) = some (dZ p tab (d : Int) x D e) := by
 unfold cN
 rw [jL hd]
 congr 1
 have q : ∃ u : UsageDef, ∃ n e x D, dQ p H (d : Int) n e x D ∧ u = dZ p tab (d : Int) x D e := ⟨_, n, e, x, D, h, rfl⟩
 rw [dif_pos q]
 obtain ⟨n', e', x', D', h', e1⟩ := q.choose_spec
 obtain ⟨_, rfl, rfl, rfl⟩ := h'.uniq S h
 exact e1
theorem lR : (cN p H tab).length = p.Defs.length := by simp [cN]
theorem aEr (S : bI p t L H) (hk : okTab p tab) : sS F t tab = some (cN p H tab) ∧ aCv F L tab = some (cN p H tab) := by
 have dl := S.defs
 have step : ∀ i : Nat, i < p.Defs.length → ∃ u, vX F t tab (i : Int) = some u ∧ aA0 F L tab (i : Int) = some u ∧ idx (cN p H tab) (i : Int) = some u := fun i hi => by
  obtain ⟨n, e, x, D, h, a, b⟩ := S.headOf (d := (i : Int)) (by omega) (by omega)
  exact ⟨_, asks_eq S hk h a, least_eq S hk h b, aAM S hi h⟩
 have tk : ∀ i : Nat, i < p.Defs.length → ∀ u, idx (cN p H tab) (i : Int) = some u → (cN p H tab).take i ++ [u] = (cN p H tab).take (i + 1) := fun i hi u hu => by
  have := bB hu
  rw [Int.toNat_natCast] at this
  rw [List.take_add_one, this]; rfl
 have hlen : ∀ i : Nat, ((cN p H tab).take i).length ≤ 12 := fun i => by rw [List.length_take, lR]; omega
 constructor
 ·rw [sS, show oM F t tab F [] 0 = some (cN p H tab) from ?_, bsm]
  refine fO (fun k (s : List UsageDef × Int) => oM F t tab k s.1 s.2) p.Defs.length (fun i => ((cN p H tab).take i, (i : Int))) _ (fun k i hi => ?_) (fun k => ?_) (by show _ < 4000000; omega)
  ·dsimp only
   obtain ⟨u, u1, u2, u3⟩ := step i hi
   have := hlen i
   rw [oM, S.prog, if_pos (by omega), u1, bsm, eO (by simp; omega), bsm, aP (by omega), bsm]
   congr 1
   exact tk i hi u u3
  ·dsimp only
   rw [oM, S.prog, if_neg (by omega), List.take_of_length_le (by rw [lR]; omega)]
 ·rw [aCv, show uF F L tab F [] 0 = some (cN p H tab) from ?_, bsm]
  refine fO (fun k (s : List UsageDef × Int) => uF F L tab k s.1 s.2) p.Defs.length (fun i => ((cN p H tab).take i, (i : Int))) _ (fun k i hi => ?_) (fun k => ?_) (by show _ < 4000000; omega)
  ·dsimp only
   obtain ⟨u, u1, u2, u3⟩ := step i hi
   have := hlen i
   rw [uF, S.rprog, if_pos (by omega), u2, bsm, eO (by simp; omega), bsm, aP (by omega), bsm]
   congr 1
   exact tk i hi u u3
  ·dsimp only
   rw [uF, S.rprog, if_neg (by omega), List.take_of_length_le (by rw [lR]; omega)]
theorem jB (S : bI p t L H) : okTab p (cN p H tab) := by
 refine ⟨lR, fun i D' X hD hX => ?_⟩
 have hi := eA hD
 obtain ⟨c, rfl⟩ : ∃ c : Nat, i = (c : Int) := ⟨i.toNat, by omega⟩
 obtain ⟨n, e, x, D, h, _, _⟩ := S.headOf (d := (c : Int)) hi.1 hi.2
 have := h.hD; rw [hD] at this; cases this
 rw [aAM S (by omega) h] at hX; cases hX
 have ho := dT h.ok
 refine ⟨by simp [dZ], by simp [dZ], by simp [dZ], ?_⟩
 intro j ch a hc ha
 have := eA hc
 obtain ⟨c', rfl⟩ : ∃ c' : Nat, j = (c' : Int) := ⟨j.toNat, by omega⟩
 rw [dZ] at ha
 dsimp only at ha
 rw [jL (by omega)] at ha
 cases ha
 have := ho.2.2.2.1 ch (dU hc)
 rw [List.length_map, List.length_range, oY hc]; omega
end
end Go.Proofs.YtmnbfgeljmhekaaGreat
set_option maxRecDepth 100000
namespace Go.Proofs.YtmnbfgeljmhekaaGreat
open Go.SX Go.SW Go.Dt
theorem wM {R : Type} (L : Nat → Int → Option R) (n : Nat) (ok : Nat → Bool) (a b : R) (step : ∀ k (i : Nat), i < n → ok i = true → L (k + 1) (i : Int) = L k ((i : Int) + 1)) (bad : ∀ k (i : Nat), i < n → ok i = false → L (k + 1) (i : Int) = some b) (stop : ∀ k, L (k + 1) (n : Int) = some a) {K : Nat} (hK : n < K) : L K 0 = some (if (List.range n).all ok = true then a else b) := by
 have : ∀ (j i K : Nat), i + j = n → j < K → L K (i : Int) = some (if ((List.range j).all fun m => ok (i + m)) = true then a else b) := fun j => by
  induction j with
  | zero =>
   intro i K hi hK
   obtain _ | K := K
   ·omega
   obtain rfl : i = n := by omega
   exact stop K
  | succ j ih =>
   intro i K hi hK
   obtain _ | K := K
   ·omega
   have e : (List.range (j + 1)).all (fun m => ok (i + m)) = (ok i && (List.range j).all fun m => ok (i + 1 + m)) := by
    rw [List.range_succ_eq_map, List.all_cons, List.all_map]
    congr 1
    congr 1
    funext m
    show ok (i + (m + 1)) = _
    congr 1; omega
   rw [e]
   cases h : ok i with
   | false => exact bad K i (by omega) h
   | true => rw [step K i (by omega) h, Bool.true_and]; exact ih (i + 1) K (by omega) (by omega)
 have e := this n 0 K (by omega) hK
 simpa using e
def lA {α β : Type} (f : α → β → Bool) : Option α → Option β → Bool
 | some x, some y => f x y
 | _, _ => true
theorem qP {α β : Type} (f : α × β → Bool) : ∀ (a : List α) (b : List β), a.length = b.length → (a.zip b).all f = (List.range a.length).all fun i => lA (fun x y => f (x, y)) a[i]? b[i]?
 | [], [], _ => rfl
 | x :: a, y :: b, h => by
  rw [List.zip_cons_cons, List.all_cons, qP f a b (by simpa using h), List.length_cons, List.range_succ_eq_map, List.all_cons, List.all_map]
  rfl
def covP (x y : Int) (_ : Bool) : Bool := decide (cnt y ≤ cnt x)
def covB (a b : List Int) : Bool := (a.zip b).all fun q => decide (cnt q.2 ≤ cnt q.1)
theorem accepts1 (x : Int × Int × Bool) : sR x.1 x.2.1 x.2.2 = some (covP x.1 x.2.1 x.2.2) := by rw [sR, of_p, bsm, of_p, bsm]; rfl
section
variable {p : ScopeProg} {t : Usage_text} {L : bR} {H : Nat} {tab : List UsageDef} {d n : Int} {e : E} {x : ScopeNode} {D : ScopeDef}
noncomputable def kC (p : ScopeProg) (H : Nat) (d c : Int) : Int := open Classical in if h : ∃ v : Int, ∃ n e x D, dQ p H d n e x D ∧ v = mE x D e fun k => sur p k ((e.length : Int) + c) then h.choose else 0
theorem aBm (S : bI p t L H) (h : dQ p H d n e x D) (c : Int) : kC p H d c = mE x D e fun k => sur p k ((e.length : Int) + c) := by
 unfold kC
 have q : ∃ v : Int, ∃ n e x D, dQ p H d n e x D ∧ v = mE x D e fun k => sur p k ((e.length : Int) + c) := ⟨_, n, e, x, D, h, rfl⟩
 rw [dif_pos q]
 obtain ⟨n', e', x', D', h', e1⟩ := q.choose_spec
 obtain ⟨_, rfl, rfl, rfl⟩ := h'.uniq S h
 exact e1
theorem aAV (S : bI p t L H) (h : dQ p H d n e x D) {c : Nat} (hc : c < D.Chans.length) : lM F t n ((e.length : Int) + (c : Int)) = some (kC p H d c) ∧ vQ F L n ((e.length : Int) + (c : Int)) = some (kC p H d c) := by
 have e1 := pO (e := e) (m := d) (d := D)
 unfold own at e1
 obtain ⟨r, ⟨_, rfl⟩, a, b⟩ := S.begun h (v := (e.length : Int) + (c : Int)) ⟨by omega, by omega⟩
 rw [aBm S h]
 exact ⟨a, b⟩
noncomputable def oS (p : ScopeProg) (H : Nat) (X : UsageDef) (d : Int) (c : Nat) : Bool := (X.Chans[c]?).elim true fun y => !decide (y = 2) || decide (kC p H d (c : Int) = 1)
theorem acc2_p (S : bI p t L H) (h : dQ p H d n e x D) (ht : idx t.heads d = some n) {X : UsageDef} (ok1 : lX D X) : lY F t d X F 0 = some (if (List.range X.Chans.length).all (oS p H X d) = true then .inl () else .inr (.inr (false, 0))) := by
 have ho := dT h.ok
 refine wM (fun k i => lY F t d X k i) X.Chans.length (oS p H X d) _ _ (fun k i hi hok => ?_) (fun k i hi hok => ?_) (fun k => ?_) (by have := ok1.chans; show _ < 4000000; omega)
 ·have h1 : X.Chans[i]? = some (X.Chans[i]'hi) := List.getElem?_eq_getElem hi
  have hl := ok1.chans
  obtain ⟨b1, _⟩ := aAV S h (c := i) (by omega)
  unfold oS at hok
  rw [h1, Option.elim_some] at hok
  rw [lY, if_pos (by omega), bE h1, bsm]
  by_cases y2 : X.Chans[i]'hi = 2
  ·rw [if_pos y2, ht, bsm, yN S h ht (by omega), bsm, b1, bsm]
   have : kC p H d i = 1 := by simpa [y2] using hok
   rw [if_neg (fun q => q this), bsm]
   dsimp only
   rw [aP (by omega), bsm]
  ·rw [if_neg y2, bsm]
   dsimp only
   rw [aP (by omega), bsm]
 ·have h1 : X.Chans[i]? = some (X.Chans[i]'hi) := List.getElem?_eq_getElem hi
  have hl := ok1.chans
  obtain ⟨b1, _⟩ := aAV S h (c := i) (by omega)
  unfold oS at hok
  rw [h1, Option.elim_some] at hok
  simp only [Bool.or_eq_false_iff, Bool.not_eq_false', decide_eq_true_eq, decide_eq_false_iff_not] at hok
  rw [lY, if_pos (by omega), bE h1, bsm, if_pos hok.1, ht, bsm, yN S h ht (by omega), bsm, b1, bsm, if_pos hok.2, bsm, bsm, bsm, bsm]
 ·rw [lY, if_neg (by omega)]
noncomputable def accB (p : ScopeProg) (H : Nat) (X Y : UsageDef) (d : Int) : Bool := kz covP X Y && (List.range X.Chans.length).all (oS p H X d)
theorem kz_cov {X Y : UsageDef} (h : X.Args.length = Y.Args.length) : kz covP X Y = (covB X.Chans Y.Chans && (covB X.Rules Y.Rules && (List.range X.Args.length).all fun c => lA covB X.Args[c]? Y.Args[c]?)) := by
 unfold kz
 rw [qP _ X.Args Y.Args h]
 rfl
noncomputable def qO (p : ScopeProg) (H : Nat) (tab : List UsageDef) : Bool := (List.range tab.length).all fun i => lA (fun X Y => accB p H X Y (i : Int)) tab[i]? (cN p H tab)[i]?
theorem aFL {α : Type} {f g : α → Bool} : ∀ l : List α, (∀ x ∈ l, f x = g x) → l.all f = l.all g
 | [], _ => rfl
 | a :: l, h => by rw [List.all_cons, List.all_cons, h a (List.mem_cons_self ..), aFL l (fun x hx => h x (List.mem_cons_of_mem _ hx))]
theorem aDK {f g : Nat → Bool} : ∀ l : List Nat, l.all (fun i => f i && g i) = (l.all f && l.all g)
 | [] => rfl
 | a :: l => by rw [List.all_cons, List.all_cons, List.all_cons, aDK l]; cases f a <;> cases g a <;> cases l.all f <;> rfl
theorem aHj (S : bI p t L H) (hk : okTab p tab) (hm : ∀ a ∈ tab, SmU a) : ((pU F tab (cN p H tab) (fun x => sR x.1 x.2.1 x.2.2)).bind fun y5 => bif y5 then (lB F tab t F 0).bind fun o => match o with | Sum.inr r => some r | Sum.inl _ => some (true, 0) else some (false, 0)) = some (qO p H tab, 0) := by
 have dl := S.defs
 have tl := hk.1
 have al := (lR (p := p) (H := H) (tab := tab))
 have ok2 := jB (tab := tab) S
 have each : ∀ i : Nat, i < tab.length → ∃ X Y n e x D, tab[i]? = some X ∧ (cN p H tab)[i]? = some Y ∧ dQ p H (i : Int) n e x D ∧ idx t.heads (i : Int) = some n ∧ lX D X ∧ lX D Y := fun i hi => by
  obtain ⟨n, e, x, D, h, a, _⟩ := S.headOf (d := (i : Int)) (by omega) (by omega)
  obtain ⟨X, hX, o1⟩ := kW hk h.hD
  obtain ⟨Y, hY, o2⟩ := kW ok2 h.hD
  exact ⟨X, Y, n, e, x, D, by have := bB hX; rwa [Int.toNat_natCast] at this, by have := bB hY; rwa [Int.toNat_natCast] at this, h, a, o1, o2⟩
 have sh : ∀ q ∈ tab.zip (cN p H tab), Sh2 q.1 q.2 := fun q hq => by
  obtain ⟨A, B⟩ := q
  obtain ⟨i, hi, he⟩ := List.mem_iff_getElem.1 hq
  have hi' := hi
  rw [List.length_zip] at hi'
  obtain ⟨X, Y, n, e, x, D, e1, e2, h, _, o1, o2⟩ := each i (by omega)
  rw [List.getElem_zip] at he
  cases he
  rw [List.getElem?_eq_getElem (by omega)] at e1 e2
  dsimp only
  rw [Option.some.inj e1, Option.some.inj e2]
  refine ⟨by rw [o1.chans, o2.chans], by rw [o1.rules, o2.rules], by rw [o1.args, o2.args], fun q hq => ?_⟩
  obtain ⟨A, B⟩ := q
  obtain ⟨j, hj, he⟩ := List.mem_iff_getElem.1 hq
  have la := o1.args
  have lb := o2.args
  have hj' := hj
  rw [List.length_zip] at hj'
  rw [List.getElem_zip] at he
  cases he
  obtain ⟨ch, hc⟩ := kD (D := D) (c := j) (by omega)
  have m1 := o1.many _ _ _ hc (bE (List.getElem?_eq_getElem (by omega : j < X.Args.length)))
  have m2 := o2.many _ _ _ hc (bE (List.getElem?_eq_getElem (by omega : j < Y.Args.length)))
  dsimp only; omega
 have two_ : qO p H tab = (((tab.zip (cN p H tab)).all fun q => kz covP q.1 q.2) && (List.range tab.length).all fun i => (tab[i]?).elim true fun X => (List.range X.Chans.length).all (oS p H X (i : Int))) := by
  rw [qP _ _ _ (by omega), ← aDK, qO]
  refine aFL _ fun i hi => ?_
  obtain ⟨X, Y, n, e, x, D, e1, e2, _⟩ := each i (List.mem_range.1 hi)
  rw [e1, e2]; rfl
 rw [aC3 accepts1 (by omega) (by omega) sh hm, bsm, two_]
 cases (tab.zip (cN p H tab)).all fun q => kz covP q.1 q.2 with
 | false => rfl
 | true =>
  rw [cond_true, Bool.true_and]
  have e := wM (fun k i => lB F tab t k i) tab.length (fun i => (tab[i]?).elim true fun X => (List.range X.Chans.length).all (oS p H X (i : Int))) (.inl ()) (.inr (false, 0)) (fun k i hi hok => ?_) (fun k i hi hok => ?_) (fun k => ?_) (K := F) (by show _ < 4000000; omega)
  ·rw [show lB F tab t F 0 = _ from e, bsm]
   cases (List.range tab.length).all _ <;> rfl
  ·obtain ⟨X, Y, n, e, x, D, e1, e2, h, a, o1, _⟩ := each i hi
   rw [e1] at hok
   simp only [lA, Option.elim_some] at hok
   rw [lB, if_pos (by omega), bE e1, bsm, acc2_p S h a o1, hok, if_pos rfl, bsm]
   dsimp only
   rw [aP (by omega), bsm]
  ·obtain ⟨X, Y, n, e, x, D, e1, e2, h, a, o1, _⟩ := each i hi
   rw [e1] at hok
   simp only [lA, Option.elim_some] at hok
   rw [lB, if_pos (by omega), bE e1, bsm, acc2_p S h a o1, hok, if_neg (by decide), bsm]
  ·rw [lB, if_neg (by omega)]
end
end Go.Proofs.YtmnbfgeljmhekaaGreat
set_option maxRecDepth 100000
namespace Go.Proofs.YtmnbfgeljmhekaaGreat
open Go.SX Go.SW Go.Dt
variable {p : ScopeProg} {t : Usage_text} {L : bR} {H : Nat} {tab tab' : List UsageDef} {d n : Int} {e : E} {x : ScopeNode} {D : ScopeDef}
theorem nY {a : Int} (h : two a) : cnt (dY a) = a := by
 rcases aAl h with rfl | rfl | rfl <;> rfl
theorem aCn {f g : Int → Int} (hf : ∀ v, two (f v) ∧ two (g v) ∧ f v ≤ g v) {c i : Int} : ∀ (l : List Int) (a w w' : Int), two w → two w' → w ≤ w' → iQ f D c i l a w ≤ iQ g D c i l a w' ∧ two (iQ f D c i l a w) ∧ two (iQ g D c i l a w')
 | [], a, w, w', h1, h2, h3 => ⟨h3, h1, h2⟩
 | j :: l, a, w, w', h1, h2, h3 => by
  obtain ⟨q1, q2, q3⟩ := hf (a + i)
  rw [iQ, iQ]
  by_cases hj : j = c
  ·rw [if_pos hj, if_pos hj]; exact aCn hf l _ _ _ (by unfold two at *; omega) (by unfold two at *; omega) (by omega)
  ·rw [if_neg hj, if_neg hj]; exact aCn hf l _ _ _ h1 h2 h3
theorem aDc {f : Int → Int} (hf : ∀ v, two (f v)) {c i : Int} : ∀ (l : List Int) (a w : Int), two w → w ≤ iQ f D c i l a w
 | [], a, w, h1 => Int.le_refl _
 | j :: l, a, w, h1 => by
  have q := hf (a + i)
  rw [iQ]
  by_cases hj : j = c
  ·rw [if_pos hj]; exact Int.le_trans (by omega) (aDc hf l _ _ (by unfold two at *; omega))
  ·rw [if_neg hj]; exact aDc hf l _ _ h1
theorem yB {ru ru' : List Int} (hr : ∀ i, kc ru i ≤ kc ru' i) {f g : ScopeRule → Int → Int} {b c i : Int} : ∀ (l : List ScopeRule) (k w w' : Int), (∀ r ∈ l, ∀ v, two (f r v) ∧ two (g r v) ∧ f r v ≤ g r v) → two w → two w' → w ≤ w' → fB ru b f D c i l k w ≤ fB ru' b g D c i l k w' ∧ two (fB ru b f D c i l k w)
 | [], k, w, w', _, h1, h2, h3 => ⟨h3, h1⟩
 | r :: l, k, w, w', hf, h1, h2, h3 => by
  have hk := hr k
  have kt := wV (l := ru) (i := k)
  obtain ⟨m1, m2, m3⟩ := aCn (D := D) (c := c) (i := i) (hf r (List.mem_cons_self ..)) r.Joins b w w' h1 h2 h3
  have m4 := aDc (D := D) (c := c) (i := i) (fun v => (hf r (List.mem_cons_self ..) v).2.1) r.Joins b w' h2
  rw [fB, fB]
  refine yB hr l _ _ _ (fun r hr => hf r (List.mem_cons_of_mem _ hr)) ?_ ?_ ?_
  ·split <;> assumption
  ·split <;> assumption
  ·by_cases c1 : kc ru k = 0
   ·rw [if_pos c1]
    split
    ·exact h3
    ·omega
   ·rw [if_neg c1, if_neg (by unfold two at kt; omega)]; exact m1
theorem aBU {ch ch' : List Int} (hc : ∀ i, kc ch i ≤ kc ch' i) : ∀ (l : List Int) (w w' : Int), two w → w ≤ w' → l.foldl (fun w j => min w (kc ch j)) w ≤ l.foldl (fun w j => min w (kc ch' j)) w' ∧ two (l.foldl (fun w j => min w (kc ch j)) w)
 | [], w, w', h1, h2 => ⟨h2, h1⟩
 | j :: l, w, w', h1, h2 => by
  have := hc j
  have k2 := wV (l := ch) (i := j)
  rw [List.foldl_cons, List.foldl_cons]
  exact aBU hc l _ _ (by unfold two at *; omega) (by omega)
theorem snd_le (S : bI p t L H) (h : LeT tab tab') {q : Int × E} (hq : q ∈ LN p H (root p)) (v : Int) : two (snd p tab q v) ∧ two (snd p tab' q v) ∧ snd p tab q v ≤ snd p tab' q v :=
 ⟨iA 60 q (S.tr60 hq), iA 60 q (S.tr60 hq), aFz h 60 q (S.tr60 hq)⟩
theorem aBJ (S : bI p t L H) (h : LeT tab tab') (hh : dQ p H d n e x D) (v : Int) : gG tab x D e (fun k => snd p tab k v) ≤ gG tab' x D e (fun k => snd p tab' k v) ∧ two (gG tab x D e fun k => snd p tab k v) := by
 obtain ⟨_, hs⟩ := S.subs hh.ln hh.hx
 exact xI h hh.op (by rw [hh.hN]; exact hh.hD) hh.kid fun k hk => snd_le S h (hs k hk) v
theorem wW (S : bI p t L H) (hh : dQ p H d n e x D) {r : ScopeRule} (hr : r ∈ D.Rules) : (r.Node, ruE e d D r) ∈ LN p H (root p) := by
 have := (S.subs hh.ln hh.hx).2 _ (aAh (e := e) hh.op (by rw [hh.hN]; exact hh.hD) hr)
 rwa [hh.hN] at this
theorem LeT.of (ha : okTab p tab) (hb : okTab p tab') (k : ∀ (d : Int) D X Y, idx p.Defs d = some D → idx tab d = some X → idx tab' d = some Y → (∀ c : Nat, c < D.Chans.length → kc X.Chans c ≤ kc Y.Chans c) ∧ (∀ c : Nat, c < D.Rules.length → kc X.Rules c ≤ kc Y.Rules c) ∧ ∀ (c : Nat) a b, X.Args[c]? = some a → Y.Args[c]? = some b → ∀ i : Nat, i < a.length → kc a i ≤ kc b i) : LeT tab tab' := fun d i => by
 have out : ∀ {a b : List Int}, a.length = b.length → (∀ c : Nat, c < a.length → kc a c ≤ kc b c) → kc a i ≤ kc b i := fun {a b} hl hc => by
  by_cases hi : 0 ≤ i ∧ i < a.length
  ·have := hc i.toNat (by omega)
   rwa [show ((i.toNat : Nat) : Int) = i from by omega] at this
  ·unfold kc; rw [kJ hi, kJ (by omega)]; exact Int.le_refl _
 by_cases hd : 0 ≤ d ∧ d < p.Defs.length
 ·obtain ⟨D, hD⟩ := cH (xs := p.Defs) hd.1 hd.2
  obtain ⟨X, hX, o1⟩ := kW ha hD
  obtain ⟨Y, hY, o2⟩ := kW hb hD
  obtain ⟨k1, k2, k3⟩ := k d D X Y hD hX hY
  rw [show eK tab d = X.Chans from by unfold eK; rw [hX]; rfl, show eK tab' d = Y.Chans from by unfold eK; rw [hY]; rfl, show dR tab d = X.Rules from by unfold dR; rw [hX]; rfl, show dR tab' d = Y.Rules from by unfold dR; rw [hY]; rfl]
  refine ⟨out (by rw [o1.chans, o2.chans]) (by rw [o1.chans]; exact k1), out (by rw [o1.rules, o2.rules]) (by rw [o1.rules]; exact k2), fun c => ?_⟩
  rw [show jI tab (d, c) = (idx X.Args c).getD [] from by unfold jI; dsimp only; rw [hX, bsm], show jI tab' (d, c) = (idx Y.Args c).getD [] from by unfold jI; dsimp only; rw [hY, bsm]]
  by_cases hc : 0 ≤ c ∧ c < X.Args.length
  ·obtain ⟨a, h1⟩ := cH (xs := X.Args) hc.1 hc.2
   obtain ⟨b, h2⟩ := cH (xs := Y.Args) hc.1 (by rw [o2.args, ← o1.args]; exact hc.2)
   obtain ⟨ch, h3⟩ := cH (xs := D.Chans) hc.1 (by rw [← o1.args]; exact hc.2)
   have m1 := o1.many _ _ _ h3 h1
   have m2 := o2.many _ _ _ h3 h2
   rw [h1, h2]
   show kc a i ≤ kc b i
   exact out (by omega) (k3 c.toNat a b (bB h1) (bB h2))
  ·rw [kJ hc, kJ (by rw [o2.args, ← o1.args]; exact hc)]; exact Int.le_refl _
 ·have n1 : idx tab d = none := kJ (by rw [ha.1]; exact hd)
  have n2 : idx tab' d = none := kJ (by rw [hb.1]; exact hd)
  exact ⟨by unfold eK; rw [n1, n2]; exact Int.le_refl _, by unfold dR; rw [n1, n2]; exact Int.le_refl _, fun c => by unfold jI; dsimp only; rw [n1, n2]; exact Int.le_refl _⟩
theorem fM {a : List Int} {c : Nat} {y : Int} (h : a[c]? = some y) : kc a (c : Int) = cnt y := by unfold kc; rw [bE h]; rfl
theorem aF6 {α β : Type} {f : α → β} {l : List α} {i : Nat} (h : i < l.length) : (l.map f)[i]? = some (f (l[i]'h)) := by simp [h]
theorem iC {β : Type} {f : Nat → β} {n i : Nat} (h : i < n) : ((List.range n).map f)[i]? = some (f i) := by simp [h]
theorem ask_le (S : bI p t L H) (h : LeT tab tab') (hh : dQ p H d n e x D) : (∀ c : Nat, c < D.Chans.length → kc (dZ p tab d x D e).Chans c ≤ kc (dZ p tab' d x D e).Chans c) ∧ (∀ c : Nat, c < D.Rules.length → kc (dZ p tab d x D e).Rules c ≤ kc (dZ p tab' d x D e).Rules c) ∧
  ∀ (c : Nat) a b, (dZ p tab d x D e).Args[c]? = some a → (dZ p tab' d x D e).Args[c]? = some b → ∀ i : Nat, i < a.length → kc a i ≤ kc b i := by
 refine ⟨fun c hc => ?_, fun c hc => ?_, fun c a b h1 h2 i hi => ?_⟩
 ·obtain ⟨a, b⟩ := aBJ S h hh ((e.length : Int) + (c : Int))
  have b' := (aBJ S (LeT.rfl (t := tab')) hh ((e.length : Int) + (c : Int))).2
  rw [dZ, dZ, fM (iC hc), fM (iC hc), nY b, nY b']; exact a
 ·obtain ⟨a, b⟩ := aBU (fun i => (h d i).1) (D.Rules[c]'hc).Joins 2 2 (by unfold two; omega) (Int.le_refl _)
  obtain ⟨_, b'⟩ := aBU (fun i => (LeT.rfl (t := tab') d i).1) (D.Rules[c]'hc).Joins 2 2 (by unfold two; omega) (Int.le_refl _)
  rw [dZ, dZ, fM (aF6 hc), fM (aF6 hc), minJ, minJ, nY b, nY b']; exact a
 ·have hc : c < D.Chans.length := by have := (List.getElem?_eq_some_iff.1 h1).1; simpa [dZ] using this
  rw [dZ] at h1 h2
  dsimp only at h1 h2
  rw [iC hc] at h1 h2
  cases h1; cases h2
  rw [List.length_map, List.length_range] at hi
  obtain ⟨a, b⟩ := yB (D := D) (fun i => (h d i).2.1) (b := (e.length : Int) + (D.Chans.length : Int) + (D.Spots.length : Int)) (c := (c : Int)) (i := (i : Int)) (f := fun r v => snd p tab (r.Node, ruE e d D r) v) (g := fun r v => snd p tab' (r.Node, ruE e d D r) v) D.Rules 0 0 0 (fun r hr v => snd_le S h (wW S hh hr) v) (by unfold two; omega) (by unfold two; omega) (Int.le_refl _)
  obtain ⟨_, b'⟩ := yB (D := D) (fun i => (LeT.rfl (t := tab') d i).2.1) (b := (e.length : Int) + (D.Chans.length : Int) + (D.Spots.length : Int)) (c := (c : Int)) (i := (i : Int)) (f := fun r v => snd p tab' (r.Node, ruE e d D r) v) (g := fun r v => snd p tab' (r.Node, ruE e d D r) v) D.Rules 0 0 0 (fun r hr v => snd_le S LeT.rfl (wW S hh hr) v) (by unfold two; omega) (by unfold two; omega) (Int.le_refl _)
  rw [fM (iC hi), fM (iC hi), nY b, nY b']; exact a
theorem rF (S : bI p t L H) {d : Int} {D : ScopeDef} (hD : idx p.Defs d = some D) : ∃ n e x, dQ p H d n e x D ∧ ∀ tab, idx (cN p H tab) d = some (dZ p tab d x D e) := by
 have hd := eA hD
 obtain ⟨c, rfl⟩ : ∃ c : Nat, d = (c : Int) := ⟨d.toNat, by omega⟩
 obtain ⟨n, e, x, D', h, _, _⟩ := S.headOf (d := (c : Int)) hd.1 hd.2
 have := h.hD; rw [hD] at this; cases this
 exact ⟨n, e, x, h, fun tab => aAM S (by omega) h⟩
theorem aAW (S : bI p t L H) (h : LeT tab tab') : LeT (cN p H tab) (cN p H tab') := by
 refine LeT.of (jB S) (jB S) fun d D X Y hD hX hY => ?_
 obtain ⟨n, e, x, hh, ha⟩ := rF S hD
 rw [ha] at hX hY
 cases hX; cases hY
 exact ask_le S h hh
def kK (k : Int) : Prop := k = 1 ∨ k = 3 ∨ k = 4
theorem aCE (a : Int) : kK (dY a) := by unfold dY kK; split; omega; split <;> omega
theorem kK_inj {a b : Int} (ha : kK a) (hb : kK b) (h : cnt a = cnt b) : a = b := by
 rcases ha with rfl | rfl | rfl <;> rcases hb with rfl | rfl | rfl <;> first | rfl | (exact absurd h (by decide))
def jM : List Int → Int
 | [] => 0
 | a :: l => cnt a + jM l
theorem aAK : ∀ l : List Int, 0 ≤ jM l ∧ jM l ≤ 2 * l.length
 | [] => by simp [jM]
 | a :: l => by have := aAK l; have := iN a; unfold two at this; simp only [jM, List.length_cons]; omega
theorem aAQ : ∀ {a b : List Int}, a.length = b.length → (∀ i : Nat, i < a.length → kc a i ≤ kc b i) → jM a ≤ jM b ∧ (jM b ≤ jM a → (∀ x ∈ a, kK x) → (∀ x ∈ b, kK x) → a = b)
 | [], [], _, _ => ⟨Int.le_refl _, fun _ _ _ => rfl⟩
 | x :: a, y :: b, hl, h => by
  obtain ⟨i1, i2⟩ := aAQ (a := a) (b := b) (by simpa using hl) (fun i hi => by
   have := h (i + 1) (by simp; omega)
   unfold kc idx at this ⊢
   rw [if_pos (by omega), if_pos (by omega)] at this ⊢
   simpa using this)
  have h0 : cnt x ≤ cnt y := h 0 (by simp)
  simp only [jM]
  refine ⟨by omega, fun hs ka kb => ?_⟩
  rw [kK_inj (ka x (List.mem_cons_self ..)) (kb y (List.mem_cons_self ..)) (by omega), i2 (by omega) (fun z hz => ka z (List.mem_cons_of_mem _ hz)) (fun z hz => kb z (List.mem_cons_of_mem _ hz))]
def lK : List (List Int) → Int
 | [] => 0
 | a :: l => jM a + lK l
theorem aEk {m : Nat} : ∀ l : List (List Int), (∀ a ∈ l, a.length ≤ m) → 0 ≤ lK l ∧ lK l ≤ (2 * m * l.length : Nat)
 | [], _ => by simp [lK]
 | a :: l, h => by
  have i := aEk (m := m) l (fun a ha => h a (List.mem_cons_of_mem _ ha))
  have j := aAK a
  have k := h a (List.mem_cons_self ..)
  simp only [lK, List.length_cons, Nat.mul_add, Nat.mul_one, Int.natCast_add] at *; omega
theorem aER : ∀ {a b : List (List Int)}, a.length = b.length → (∀ (i : Nat) x y, a[i]? = some x → b[i]? = some y → x.length = y.length ∧ ∀ j : Nat, j < x.length → kc x j ≤ kc y j) → lK a ≤ lK b ∧ (lK b ≤ lK a → (∀ x ∈ a, ∀ k ∈ x, kK k) → (∀ x ∈ b, ∀ k ∈ x, kK k) → a = b)
 | [], [], _, _ => ⟨Int.le_refl _, fun _ _ _ => rfl⟩
 | x :: a, y :: b, hl, h => by
  obtain ⟨i1, i2⟩ := aER (a := a) (b := b) (by simpa using hl) (fun i u v hu hv => h (i + 1) u v (by simpa using hu) (by simpa using hv))
  obtain ⟨l0, h0⟩ := h 0 x y rfl rfl
  obtain ⟨j1, j2⟩ := aAQ l0 h0
  simp only [lK]
  refine ⟨by omega, fun hs ka kb => ?_⟩
  rw [j2 (by omega) (ka x (List.mem_cons_self ..)) (kb y (List.mem_cons_self ..)), i2 (by omega) (fun z hz => ka z (List.mem_cons_of_mem _ hz)) (fun z hz => kb z (List.mem_cons_of_mem _ hz))]
def wtU (X : UsageDef) : Int := jM X.Chans + jM X.Rules + lK X.Args
def wtT : List UsageDef → Int
 | [] => 0
 | X :: l => wtU X + wtT l
structure KU (X : UsageDef) : Prop where
 chans : ∀ k ∈ X.Chans, kK k
 rules : ∀ k ∈ X.Rules, kK k
 args : ∀ a ∈ X.Args, ∀ k ∈ a, kK k
theorem wtU_le {X Y : UsageDef} (o1 : lX D X) (o2 : lX D Y) (k1 : ∀ c : Nat, c < D.Chans.length → kc X.Chans c ≤ kc Y.Chans c) (k2 : ∀ c : Nat, c < D.Rules.length → kc X.Rules c ≤ kc Y.Rules c) (k3 : ∀ (c : Nat) a b, X.Args[c]? = some a → Y.Args[c]? = some b → ∀ i : Nat, i < a.length → kc a i ≤ kc b i) :
  wtU X ≤ wtU Y ∧ (wtU Y ≤ wtU X → KU X → KU Y → X = Y) := by
 obtain ⟨a1, a2⟩ := aAQ (a := X.Chans) (b := Y.Chans) (by rw [o1.chans, o2.chans]) (by rw [o1.chans]; exact k1)
 obtain ⟨b1, b2⟩ := aAQ (a := X.Rules) (b := Y.Rules) (by rw [o1.rules, o2.rules]) (by rw [o1.rules]; exact k2)
 obtain ⟨c1, c2⟩ := aER (a := X.Args) (b := Y.Args) (by rw [o1.args, o2.args]) (fun i u v hu hv => by
  have hi := (List.getElem?_eq_some_iff.1 hu).1
  obtain ⟨ch, h3⟩ := kD (D := D) (c := i) (by rw [← o1.args]; exact hi)
  have m1 := o1.many _ _ _ h3 (bE hu)
  have m2 := o2.many _ _ _ h3 (bE hv)
  exact ⟨by omega, k3 i u v hu hv⟩)
 unfold wtU
 refine ⟨by omega, fun h u v => ?_⟩
 have e1 := a2 (by omega) u.chans v.chans
 have e2 := b2 (by omega) u.rules v.rules
 have e3 := c2 (by omega) u.args v.args
 cases X; cases Y
 simp only at e1 e2 e3
 rw [e1, e2, e3]
theorem wtT_le : ∀ {A B : List UsageDef}, A.length = B.length → (∀ (i : Nat) X Y, A[i]? = some X → B[i]? = some Y → wtU X ≤ wtU Y ∧ (wtU Y ≤ wtU X → KU X → KU Y → X = Y)) → wtT A ≤ wtT B ∧ (wtT B ≤ wtT A → (∀ X ∈ A, KU X) → (∀ X ∈ B, KU X) → A = B)
 | [], [], _, _ => ⟨Int.le_refl _, fun _ _ _ => rfl⟩
 | x :: a, y :: b, hl, h => by
  obtain ⟨i1, i2⟩ := wtT_le (A := a) (B := b) (by simpa using hl) (fun i u v hu hv => h (i + 1) u v (by simpa using hu) (by simpa using hv))
  obtain ⟨j1, j2⟩ := h 0 x y rfl rfl
  simp only [wtT]
  refine ⟨by omega, fun hs ka kb => ?_⟩
  rw [j2 (by omega) (ka x (List.mem_cons_self ..)) (kb y (List.mem_cons_self ..)), i2 (by omega) (fun z hz => ka z (List.mem_cons_of_mem _ hz)) (fun z hz => kb z (List.mem_cons_of_mem _ hz))]
theorem LeT.weigh (ha : okTab p tab) (hb : okTab p tab') (h : LeT tab tab') : wtT tab ≤ wtT tab' ∧ (wtT tab' ≤ wtT tab → (∀ X ∈ tab, KU X) → (∀ X ∈ tab', KU X) → tab = tab') := by
 refine wtT_le (by rw [ha.1, hb.1]) fun i X Y hX hY => ?_
 have hi := (List.getElem?_eq_some_iff.1 hX).1
 obtain ⟨D, hD⟩ := cH (xs := p.Defs) (i := (i : Int)) (by omega) (by rw [← ha.1]; omega)
 have o1 := ha.2 _ _ _ hD (bE hX)
 have o2 := hb.2 _ _ _ hD (bE hY)
 have a1 : eK tab (i : Int) = X.Chans := by unfold eK; rw [bE hX]; rfl
 have a2 : eK tab' (i : Int) = Y.Chans := by unfold eK; rw [bE hY]; rfl
 have b1 : dR tab (i : Int) = X.Rules := by unfold dR; rw [bE hX]; rfl
 have b2 : dR tab' (i : Int) = Y.Rules := by unfold dR; rw [bE hY]; rfl
 refine wtU_le o1 o2 (fun c _ => ?_) (fun c _ => ?_) (fun c a b hca hcb j _ => ?_)
 ·have := (h (i : Int) (c : Int)).1; rwa [a1, a2] at this
 ·have := (h (i : Int) (c : Int)).2.1; rwa [b1, b2] at this
 ·have := (h (i : Int) (j : Int)).2.2 (c : Int)
  unfold jI at this
  dsimp only at this
  rw [bE hX, bE hY, bsm, bsm, bE hca, bE hcb] at this
  exact this
theorem aCm : ∀ (A : List UsageDef), (∀ X ∈ A, X.Chans.length ≤ 30 ∧ X.Rules.length ≤ 30 ∧ X.Args.length ≤ 30 ∧ ∀ a ∈ X.Args, a.length ≤ 3) → 0 ≤ wtT A ∧ wtT A ≤ 400 * A.length
 | [], _ => by simp [wtT]
 | X :: A, h => by
  have i := aCm A (fun X hX => h X (List.mem_cons_of_mem _ hX))
  obtain ⟨h1, h2, h3, h4⟩ := h X (List.mem_cons_self ..)
  have j1 := aAK X.Chans
  have j2 := aAK X.Rules
  have j3 := aEk (m := 3) X.Args h4
  simp only [wtT, wtU, List.length_cons]; omega
theorem okTab.bd (S : bI p t L H) (hk : okTab p tab) : ∀ X ∈ tab, X.Chans.length ≤ 30 ∧ X.Rules.length ≤ 30 ∧ X.Args.length ≤ 30 ∧ ∀ a ∈ X.Args, a.length ≤ 3 := fun X hX => by
 obtain ⟨i, hi, rfl⟩ := List.mem_iff_getElem.1 hX
 have hl := hk.1
 obtain ⟨D, hD⟩ := cH (xs := p.Defs) (i := (i : Int)) (by omega) (by omega)
 obtain ⟨n, e, x, hh, _⟩ := rF S hD
 have ho := dT hh.ok
 have o := hk.2 _ _ _ hD (bE (List.getElem?_eq_getElem hi))
 have c1 := o.chans
 have c2 := o.rules
 have c3 := o.args
 refine ⟨by omega, by omega, by omega, fun a ha => ?_⟩
 obtain ⟨j, hj, rfl⟩ := List.mem_iff_getElem.1 ha
 obtain ⟨ch, h3⟩ := kD (D := D) (c := j) (by omega)
 have m := o.many _ _ _ h3 (bE (List.getElem?_eq_getElem hj))
 have := ho.2.2.2.1 ch (dU h3)
 omega
theorem zA (S : bI p t L H) : ∀ X ∈ cN p H tab, KU X := fun X hX => by
 obtain ⟨i, hi, rfl⟩ := List.mem_iff_getElem.1 hX
 rw [lR] at hi
 obtain ⟨D, hD⟩ := cH (xs := p.Defs) (i := (i : Int)) (by omega) (by omega)
 obtain ⟨n, e, x, hh, ha⟩ := rF S hD
 have := bB (ha tab)
 rw [Int.toNat_natCast, List.getElem?_eq_getElem (by rw [lR]; exact hi)] at this
 rw [Option.some.inj this]
 refine ⟨fun k hk => ?_, fun k hk => ?_, fun a ha k hk => ?_⟩
 ·obtain ⟨c, _, rfl⟩ := List.mem_map.1 hk; exact aCE _
 ·obtain ⟨c, _, rfl⟩ := List.mem_map.1 hk; exact aCE _
 ·obtain ⟨c, _, rfl⟩ := List.mem_map.1 ha
  obtain ⟨i, _, rfl⟩ := List.mem_map.1 hk; exact aCE _
end Go.Proofs.YtmnbfgeljmhekaaGreat
set_option maxRecDepth 100000
namespace Go.Proofs.YtmnbfgeljmhekaaGreat
open Go.SX Go.SW Go.Dt
variable {p : ScopeProg} {t : Usage_text} {L : bR} {H : Nat} {tab tab' : List UsageDef} {d n : Int} {e : E} {x : ScopeNode} {D : ScopeDef}
def kR (D : ScopeDef) : UsageDef := ⟨List.replicate D.Chans.length 1, List.replicate D.Rules.length 1, (List.range D.Chans.length).map fun c : Nat => List.replicate (mny D (c : Int)).toNat 1⟩
def fX (p : ScopeProg) : List UsageDef := p.Defs.map kR
theorem rep_all : ((List.range 31).all fun n : Nat => decide (sA 4000000 [1] (n : Int) = some (List.replicate n 1))) = true := by kernel_rfl
theorem aBG {n : Nat} (h : n ≤ 30) : sA F [1] (n : Int) = some (List.replicate n 1) := of_decide_eq_true (List.all_eq_true.1 rep_all n (List.mem_range.2 (by omega)))
theorem aBY {α : Type} {a : α} {i : Nat} : List.replicate i a ++ [a] = List.replicate (i + 1) a := List.replicate_succ'.symm
theorem aDM {α : Type} {l : List α} {i : Nat} {u : α} (h : idx l (i : Int) = some u) : l.take i ++ [u] = l.take (i + 1) := by
 have := bB h
 rw [Int.toNat_natCast] at this
 rw [List.take_add_one, this]; rfl
theorem bI.okD (S : bI p t L H) {d : Int} {D : ScopeDef} (hD : idx p.Defs d = some D) : okD D = true := by
 obtain ⟨n, e, x, hh, _⟩ := rF S hD
 exact hh.ok
theorem none_p (S : bI p t L H) : uS F t = some (fX p) := by
 have dl := S.defs
 rw [uS, show mI F t F [] 0 = some (fX p) from ?_, bsm]
 refine fO (fun k (s : List UsageDef × Int) => mI F t k s.1 s.2) p.Defs.length (fun i => ((fX p).take i, (i : Int))) _ (fun k i hi => ?_) (fun k => ?_) (by show _ < 4000000; omega)
 ·dsimp only
  obtain ⟨D, hD⟩ := cH (xs := p.Defs) (i := (i : Int)) (by omega) (by omega)
  have ho := dT (S.okD hD)
  have inner : nX F D F 0 [] = some ((List.range D.Chans.length).map fun c : Nat => List.replicate (mny D (c : Int)).toNat 1) := by
   refine fO (fun k (s : Int × List (List Int)) => nX F D k s.1 s.2) D.Chans.length (fun i => ((i : Int), (List.range i).map fun c : Nat => List.replicate (mny D (c : Int)).toNat 1)) _ (fun k i hi => ?_) (fun k => ?_) (by show _ < 4000000; omega)
   ·dsimp only
    obtain ⟨y, hy⟩ := kD hi
    have hm := ho.2.2.2.1 y (dU hy)
    rw [nX, if_pos (by omega), hy, bsm, show y.Many = ((y.Many.toNat : Nat) : Int) from by omega, aBG (by omega), bsm, eO (by simp; omega), bsm, aP (by omega), bsm]
    congr 1
    rw [← qH, oY hy]
   ·dsimp only
    rw [nX, if_neg (by omega)]
  have len : ((fX p).take i).length ≤ 12 := by rw [List.length_take, fX, List.length_map]; omega
  rw [mI, S.prog, if_pos (by omega), hD, bsm, aBG (by omega), bsm, aBG (by omega), bsm, inner, bsm, eO (by simp at len ⊢; omega), bsm, bsm, aP (by omega), bsm]
  congr 1
  refine aDM (l := fX p) (i := i) ?_
  exact wY (f := kR) hD
 ·dsimp only
  rw [mI, S.prog, if_neg (by omega), List.take_of_length_le (by simp [fX])]
theorem none_r (S : bI p t L H) : aBS F p = some (fX p) := by
 have dl := S.defs
 rw [aBS, show wJ F p F [] 0 = some (fX p) from ?_, bsm]
 refine fO (fun k (s : List UsageDef × Int) => wJ F p k s.1 s.2) p.Defs.length (fun i => ((fX p).take i, (i : Int))) _ (fun k i hi => ?_) (fun k => ?_) (by show _ < 4000000; omega)
 ·dsimp only
  obtain ⟨D, hD⟩ := cH (xs := p.Defs) (i := (i : Int)) (by omega) (by omega)
  have ho := dT (S.okD hD)
  have in2 : vY F p (i : Int) F 0 [] [] = some (List.replicate D.Chans.length 1, (List.range D.Chans.length).map fun c : Nat => List.replicate (mny D (c : Int)).toNat 1) := by
   refine fO (fun k (s : Int × List Int × List (List Int)) => vY F p (i : Int) k s.1 s.2.1 s.2.2) D.Chans.length (fun i => ((i : Int), List.replicate i 1, (List.range i).map fun c : Nat => List.replicate (mny D (c : Int)).toNat 1)) _ (fun k j hj => ?_) (fun k => ?_) (by show _ < 4000000; omega)
   ·dsimp only
    obtain ⟨y, hy⟩ := kD hj
    have hm := ho.2.2.2.1 y (dU hy)
    have in3 : wI p (i : Int) (j : Int) F [] 0 = some (List.replicate y.Many.toNat 1) := by
     refine fO (fun k (s : List Int × Int) => wI p (i : Int) (j : Int) k s.1 s.2) y.Many.toNat (fun i => (List.replicate i 1, (i : Int))) _ (fun k l hl => ?_) (fun k => ?_) (by show _ < 4000000; omega)
     ·dsimp only
      rw [wI, hD, bsm, hy, bsm, if_pos (by omega), eO (by simp; omega), bsm, aP (by omega), bsm, aBY]
      rfl
     ·dsimp only
      rw [wI, hD, bsm, hy, bsm, if_neg (by omega)]
    rw [vY, hD, bsm, if_pos (by omega), eO (by simp; omega), bsm, in3, bsm, eO (by simp; omega), bsm, bsm]
    dsimp only
    rw [aP (by omega), bsm, aBY]
    congr 1
    rw [← qH, oY hy]
   ·dsimp only
    rw [vY, hD, bsm, if_neg (by omega)]
  have in4 : uW p (i : Int) F 0 [] = some (List.replicate D.Rules.length 1) := by
   refine fO (fun k (s : Int × List Int) => uW p (i : Int) k s.1 s.2) D.Rules.length (fun i => ((i : Int), List.replicate i 1)) _ (fun k l hl => ?_) (fun k => ?_) (by show _ < 4000000; omega)
   ·dsimp only
    rw [uW, hD, bsm, if_pos (by omega), eO (by simp; omega), bsm, aP (by omega), bsm, aBY]
    rfl
   ·dsimp only
    rw [uW, hD, bsm, if_neg (by omega)]
  have len : ((fX p).take i).length ≤ 12 := by rw [List.length_take, fX, List.length_map]; omega
  rw [wJ, if_pos (by omega), in2, bsm]
  dsimp only
  rw [in4, bsm, eO (by simp at len ⊢; omega), bsm, bsm, aP (by omega), bsm]
  congr 1
  refine aDM (l := fX p) (i := i) ?_
  exact wY (f := kR) hD
 ·dsimp only
  rw [wJ, if_neg (by omega), List.take_of_length_le (by simp [fX])]
theorem aEp {d : Int} {D : ScopeDef} (hD : idx p.Defs d = some D) : idx (fX p) d = some (kR D) := wY hD
theorem aC2 (S : bI p t L H) : okTab p (fX p) := by
 refine ⟨by simp [fX], fun i D X hD hX => ?_⟩
 rw [aEp hD] at hX; cases hX
 have ho := dT (S.okD hD)
 refine ⟨by simp [kR], by simp [kR], by simp [kR], fun j ch a hc ha => ?_⟩
 have := eA hc
 obtain ⟨c', rfl⟩ : ∃ c' : Nat, j = (c' : Int) := ⟨j.toNat, by omega⟩
 rw [kR] at ha
 dsimp only at ha
 rw [jL (by omega)] at ha
 cases ha
 have := ho.2.2.2.1 ch (dU hc)
 rw [List.length_replicate, oY hc]; omega
theorem noneM_KU : ∀ X ∈ fX p, KU X := fun X hX => by
 obtain ⟨D, _, rfl⟩ := List.mem_map.1 hX
 refine ⟨fun k hk => .inl (List.eq_of_mem_replicate hk), fun k hk => .inl (List.eq_of_mem_replicate hk), fun a ha k hk => ?_⟩
 obtain ⟨c, _, rfl⟩ := List.mem_map.1 ha
 exact .inl (List.eq_of_mem_replicate hk)
theorem aB8 {n i : Nat} (h : i < n) : (List.replicate n (1 : Int))[i]? = some 1 := by simp [h]
theorem aFV (S : bI p t L H) (hk : okTab p tab) : LeT (fX p) tab := by
 refine LeT.of (aC2 S) hk fun d D X Y hD hX hY => ?_
 rw [aEp hD] at hX; cases hX
 refine ⟨fun c hc => ?_, fun c hc => ?_, fun c a b ha hb i hi => ?_⟩
 ·rw [kR, fM (aB8 hc)]; exact wV.1
 ·rw [kR, fM (aB8 hc)]; exact wV.1
 ·have hc : c < D.Chans.length := by have := (List.getElem?_eq_some_iff.1 ha).1; simpa [kR] using this
  rw [kR] at ha
  dsimp only at ha
  rw [iC hc] at ha
  cases ha
  rw [List.length_replicate] at hi
  rw [fM (aB8 hi)]; exact wV.1
theorem sh_of (S : bI p t L H) (ha : okTab p tab) (hb : okTab p tab') : ∀ q ∈ tab.zip tab', Sh2 q.1 q.2 := fun q hq => by
 obtain ⟨A, B⟩ := q
 obtain ⟨i, hi, he⟩ := List.mem_iff_getElem.1 hq
 have hi' := hi
 rw [List.length_zip] at hi'
 rw [List.getElem_zip] at he
 cases he
 have l1 := ha.1
 have l2 := hb.1
 obtain ⟨D, hD⟩ := cH (xs := p.Defs) (i := (i : Int)) (by omega) (by omega)
 have o1 := ha.2 _ _ _ hD (bE (List.getElem?_eq_getElem (by omega)))
 have o2 := hb.2 _ _ _ hD (bE (List.getElem?_eq_getElem (by omega)))
 refine ⟨by rw [o1.chans, o2.chans], by rw [o1.rules, o2.rules], by rw [o1.args, o2.args], fun q hq => ?_⟩
 obtain ⟨A, B⟩ := q
 obtain ⟨j, hj, he⟩ := List.mem_iff_getElem.1 hq
 have la := o1.args
 have lb := o2.args
 have hj' := hj
 rw [List.length_zip] at hj'
 rw [List.getElem_zip] at he
 cases he
 dsimp only at hj'
 obtain ⟨ch, hc⟩ := kD (D := D) (c := j) (by omega)
 have m1 := o1.many _ _ _ hc (bE (List.getElem?_eq_getElem (by omega)))
 have m2 := o2.many _ _ _ hc (bE (List.getElem?_eq_getElem (by omega)))
 dsimp only; omega
theorem qD {α : Type} {f : α × α → Bool} : ∀ {a b : List α}, a.length = b.length → (∀ q ∈ a.zip b, f q = true ↔ q.1 = q.2) → ((a.zip b).all f = true ↔ a = b)
 | [], [], _, _ => by simp
 | x :: a, y :: b, hl, h => by
  rw [List.zip_cons_cons, List.all_cons, Bool.and_eq_true, h (x, y) (List.mem_cons_self ..), qD (a := a) (b := b) (by simpa using hl) (fun q hq => h q (List.mem_cons_of_mem _ hq)), List.cons.injEq]
def eqP (x y : Int) (_ : Bool) : Bool := decide (x = y)
theorem kz_eqs {X Y : UsageDef} (s : Sh2 X Y) : kz eqP X Y = true ↔ X = Y := by
 unfold kz eqP
 rw [Bool.and_eq_true, Bool.and_eq_true, qD s.chans (fun q _ => decide_eq_true_iff), qD s.rules (fun q _ => decide_eq_true_iff), qD s.args (fun q hq => qD (s.each q hq) fun q _ => decide_eq_true_iff)]
 cases X; cases Y
 simp only [UsageDef.mk.injEq]
theorem aHo (S : bI p t L H) (ha : okTab p tab) (hb : okTab p tab') (hm : ∀ a ∈ tab, SmU a) : ∃ b, pU F tab tab' (fun x => yH x.1 x.2.1 x.2.2) = some b ∧ (b = true ↔ tab = tab') := by
 have l1 := ha.1
 have l2 := hb.1
 have dl := S.defs
 refine ⟨_, aC3 (P := eqP) (fun x => rfl) (by omega) (by omega) (sh_of S ha hb) hm, qD (by omega) fun q hq => kz_eqs (sh_of S ha hb q hq)⟩
theorem vE {a b : List Int} (hB : a.length ≤ 2000000) : rV F a b = some (decide (a = b)) := by
 rw [rV]
 by_cases h : (a.length : Int) = (b.length : Int)
 ·rw [if_neg (fun q => q h)]
  have hl : a.length = b.length := by omega
  have e := wM (fun k i => nZ a b k i) a.length (fun i => lA (fun x y => decide (x = y)) a[i]? b[i]?) (.inl ()) (.inr false) (fun k i hi hok => ?_) (fun k i hi hok => ?_) (fun k => ?_) (K := F) (by show _ < 4000000; omega)
  ·have e2 : (List.range a.length).all (fun i => lA (fun x y => decide (x = y)) a[i]? b[i]?) = decide (a = b) := by
    rw [← qP (fun q => decide (q.1 = q.2)) a b hl]
    have := qD (f := fun q : Int × Int => decide (q.1 = q.2)) hl (fun q _ => decide_eq_true_iff)
    by_cases h' : a = b
    ·rw [decide_eq_true h']; exact this.2 h'
    ·rw [decide_eq_false h']; cases hz : (a.zip b).all _ with
     | false => rfl
     | true => exact absurd (this.1 hz) h'
   rw [e, e2, bsm]
   cases decide (a = b) <;> rfl
  ·have h1 : a[i]? = some (a[i]'hi) := List.getElem?_eq_getElem hi
   have h2 : b[i]? = some (b[i]'(by omega)) := List.getElem?_eq_getElem (by omega)
   rw [h1, h2] at hok
   have := of_decide_eq_true hok
   rw [nZ, if_pos (by omega), bE h1, bsm, bE h2, bsm, if_neg (fun q => q this), aP (by omega), bsm]
  ·have h1 : a[i]? = some (a[i]'hi) := List.getElem?_eq_getElem hi
   have h2 : b[i]? = some (b[i]'(by omega)) := List.getElem?_eq_getElem (by omega)
   rw [h1, h2] at hok
   have := of_decide_eq_false hok
   rw [nZ, if_pos (by omega), bE h1, bsm, bE h2, bsm, if_pos this, bsm]
  ·rw [nZ, if_neg (by omega)]
 ·rw [if_pos h, decide_eq_false (fun q => h (by rw [q]))]
def eqU (X Y : UsageDef) : Bool := decide (X.Chans = Y.Chans) && (decide (X.Rules = Y.Rules) && (List.range X.Args.length).all fun i => lA (fun a b => decide (a = b)) X.Args[i]? Y.Args[i]?)
theorem same_r (S : bI p t L H) (ha : okTab p tab) (hb : okTab p tab') : ∃ b, wG F tab tab' = some b ∧ (b = true ↔ tab = tab') := by
 have l1 := ha.1
 have l2 := hb.1
 have dl := S.defs
 have hl : tab.length = tab'.length := by omega
 have sh := sh_of S ha hb
 have eqs : ∀ q ∈ tab.zip tab', (eqU q.1 q.2 = true ↔ q.1 = q.2) := fun q hq => by
  have s := sh q hq
  unfold eqU
  rw [← qP (fun q => decide (q.1 = q.2)) _ _ s.args, Bool.and_eq_true, Bool.and_eq_true, qD s.args (fun q _ => decide_eq_true_iff), decide_eq_true_iff, decide_eq_true_iff]
  obtain ⟨X, Y⟩ := q
  cases X; cases Y
  simp only [UsageDef.mk.injEq]
 refine ⟨(tab.zip tab').all fun q => eqU q.1 q.2, ?_, qD hl eqs⟩
 have bd := okTab.bd S ha
 have bd' := okTab.bd S hb
 have each : ∀ i : Nat, i < tab.length → ∃ X Y, tab[i]? = some X ∧ tab'[i]? = some Y ∧ Sh2 X Y ∧ X ∈ tab ∧ Y ∈ tab' := fun i hi => by
  have h1 : tab[i]? = some (tab[i]'hi) := List.getElem?_eq_getElem hi
  have h2 : tab'[i]? = some (tab'[i]'(by omega)) := List.getElem?_eq_getElem (by omega)
  exact ⟨_, _, h1, h2, sh _ (zE h1 h2), List.mem_of_getElem? h1, List.mem_of_getElem? h2⟩
 have in2 : ∀ (i : Nat) X Y, tab[i]? = some X → tab'[i]? = some Y → Sh2 X Y → X ∈ tab → lJ F tab tab' (i : Int) F 0 = some (if (List.range X.Args.length).all (fun i => lA (fun a b => decide (a = b)) X.Args[i]? Y.Args[i]?) = true then .inl () else .inr (.inr false)) := fun i X Y h1 h2 s hX => by
  obtain ⟨_, _, b3, b4⟩ := bd X hX
  have la := s.args
  refine wM (fun k j => lJ F tab tab' (i : Int) k j) X.Args.length _ _ _ (fun k j hj hok => ?_) (fun k j hj hok => ?_) (fun k => ?_) (by show _ < 4000000; omega)
  ·have g1 : X.Args[j]? = some (X.Args[j]'hj) := List.getElem?_eq_getElem hj
   have g2 : Y.Args[j]? = some (Y.Args[j]'(by omega)) := List.getElem?_eq_getElem (by omega)
   have := b4 _ (List.mem_of_getElem? g1)
   rw [g1, g2] at hok
   rw [lJ, bE h1, bsm, if_pos (by omega), bsm, bE g1, bsm, bE h2, bsm, bE g2, bsm, vE (by omega), bsm, show decide (X.Args[j]'hj = Y.Args[j]'(by omega)) = true from hok, cond_true, aP (by omega), bsm]
  ·have g1 : X.Args[j]? = some (X.Args[j]'hj) := List.getElem?_eq_getElem hj
   have g2 : Y.Args[j]? = some (Y.Args[j]'(by omega)) := List.getElem?_eq_getElem (by omega)
   have := b4 _ (List.mem_of_getElem? g1)
   rw [g1, g2] at hok
   rw [lJ, bE h1, bsm, if_pos (by omega), bsm, bE g1, bsm, bE h2, bsm, bE g2, bsm, vE (by omega), bsm, show decide (X.Args[j]'hj = Y.Args[j]'(by omega)) = false from hok, cond_false, bsm, bsm]
  ·rw [lJ, bE h1, bsm, if_neg (by omega)]
 rw [wG, if_neg (show ¬ ((tab.length : Int) ≠ (tab'.length : Int)) from fun q => q (by omega))]
 have e := wM (fun k i => lT F tab tab' k i) tab.length (fun i => lA eqU tab[i]? tab'[i]?) (.inl ()) (.inr false) (fun k i hi hok => ?_) (fun k i hi hok => ?_) (fun k => ?_) (K := F) (by show _ < 4000000; omega)
 ·rw [show lT F tab tab' F 0 = _ from e, bsm, qP _ _ _ hl]
  show _ = some ((List.range tab.length).all fun i => lA eqU tab[i]? tab'[i]?)
  cases (List.range tab.length).all fun i => lA eqU tab[i]? tab'[i]? <;> rfl
 ·obtain ⟨X, Y, h1, h2, s, hX, hY⟩ := each i hi
  obtain ⟨b1, b2, _⟩ := bd X hX
  rw [h1, h2] at hok
  have hok : eqU X Y = true := hok
  simp only [eqU, Bool.and_eq_true] at hok
  have la := s.args
  rw [lT, if_pos (by omega), bE h1, bsm, bE h2, bsm, vE (by omega), bsm, hok.1, Bool.not_true, cond_false, bsm, bsm, vE (by omega), bsm, hok.2.1, Bool.not_true, cond_false, bsm, bsm, if_neg (fun q => q (by omega)), in2 i X Y h1 h2 s hX, hok.2.2, if_pos rfl, bsm]
  dsimp only
  rw [aP (by omega), bsm]
 ·obtain ⟨X, Y, h1, h2, s, hX, hY⟩ := each i hi
  obtain ⟨b1, b2, _⟩ := bd X hX
  rw [h1, h2] at hok
  have hok : eqU X Y = false := hok
  rw [eqU] at hok
  have la := s.args
  rw [lT, if_pos (by omega), bE h1, bsm, bE h2, bsm, vE (by omega), bsm]
  cases c1 : decide (X.Chans = Y.Chans) with
  | false => rw [Bool.not_false, cond_true, bsm, bsm, bsm]
  | true =>
   rw [c1, Bool.true_and] at hok
   rw [Bool.not_true, cond_false, bsm, bsm, vE (by omega), bsm]
   cases c2 : decide (X.Rules = Y.Rules) with
   | false => rw [Bool.not_false, cond_true, bsm, bsm, bsm]
   | true =>
    rw [c2, Bool.true_and] at hok
    rw [Bool.not_true, cond_false, bsm, bsm, if_neg (fun q => q (by omega)), in2 i X Y h1 h2 s hX, hok, if_neg (by decide), bsm]
 ·rw [lT, if_neg (by omega)]
theorem okTab.sm (S : bI p t L H) (hk : okTab p tab) : ∀ a ∈ tab, SmU a := fun a ha => by
 obtain ⟨b1, b2, b3, b4⟩ := okTab.bd S hk a ha
 exact ⟨by omega, by omega, by omega, fun z hz => by have := b4 z hz; omega⟩
structure pG (p : ScopeProg) (H : Nat) (T : List UsageDef) : Prop where
 ok : okTab p T
 ku : ∀ X ∈ T, KU X
 up : LeT T (cN p H T)
 low : ∀ U, okTab p U → LeT (cN p H U) U → LeT T U
theorem grow (S : bI p t L H) : ∀ (j k : Nat) (T : List UsageDef), pG p H T → 4800 - wtT T ≤ (j : Int) → j < k → ∃ R, pG p H R ∧ cN p H R = R ∧ nB F t k T = some R ∧ xD F L k T = some R
 | j, 0, T, _, _, hk => absurd hk (by omega)
 | j, k + 1, T, g, hw, hk => by
  obtain ⟨a1, a2⟩ := aEr S g.ok
  obtain ⟨b, b1, b2⟩ := aHo S g.ok (jB S (tab := T)) (g.ok.sm S)
  obtain ⟨c, c1, c2⟩ := same_r S g.ok (jB S (tab := T))
  rw [nB, a1, bsm, b1, bsm, xD, a2, bsm, c1, bsm]
  by_cases h : T = cN p H T
  ·rw [b2.2 h, c2.2 h, cond_true, cond_true]
   exact ⟨T, g, h.symm, rfl, rfl⟩
  ·have hb : b = false := by cases b with | false => rfl | true => exact absurd (b2.1 rfl) h
   have hc : c = false := by cases c with | false => rfl | true => exact absurd (c2.1 rfl) h
   rw [hb, hc, cond_false, cond_false]
   have ok' := jB S (tab := T)
   obtain ⟨w1, w2⟩ := g.up.weigh g.ok ok'
   have bd := (aCm _ (okTab.bd S ok')).2
   have dl := S.defs
   have al := lR (p := p) (H := H) (tab := T)
   have lt : wtT T < wtT (cN p H T) := by
    apply Classical.byContradiction
    intro q
    exact h (w2 (by omega) g.ku (zA S))
   obtain _ | j := j
   ·omega
   exact grow S j k (cN p H T) ⟨ok', zA S, aAW S g.up, fun U hU hl => (aAW S (g.low U hU hl)).trans hl⟩ (by omega) (by omega)
theorem aIk (S : bI p t L H) : ∃ R, pG p H R ∧ cN p H R = R ∧ nB F t F (fX p) = some R ∧ xD F L F (fX p) = some R := by
 have w := (aCm _ (okTab.bd S (aC2 S))).1
 exact grow S 4800 F (fX p) ⟨aC2 S, noneM_KU, aFV S (jB S), fun U hU _ => aFV S hU⟩ (by omega) (by show _ < 4000000; omega)
end Go.Proofs.YtmnbfgeljmhekaaGreat
namespace Go.Proofs.YtmnbfgeljmhekaaGreat
open Go.SX Go.SW
theorem aGA {W : World} {a : Addr} {c : Value} (h : W.cell? a = some c) : (iZ W).cell a = some c := by
 unfold World.cell? at h
 unfold Mem.cell uC iZ
 cases hb : W.heap[a.block]? with
 | none => rw [hb] at h; cases h
 | some o =>
  rw [hb] at h
  cases o with
  | cells c t fr =>
   dsimp only at h ⊢
   first
    | exact h
    | (cases hs : a.spot with
      | none => rw [hs] at h; simpa using h
      | some s => rw [hs] at h; simp at h)
  | _ => cases h
theorem aDC {H : Type} {d : DataW H} {l : List (DataW H)} (h : d ∈ l) : Rows.uptoBulk d ≤ Rows.uptoBulkAll l := by
 induction l with
 | nil => cases h
 | cons x r ih =>
  simp only [Rows.uptoBulkAll]
  cases h with
  | head => omega
  | tail _ e => have := ih e; omega
theorem bulk_one {H : Type} (d : DataW H) : 1 ≤ Rows.uptoBulk d := by
 cases d with
 | lit l => cases l <;> simp [Rows.uptoBulk]
 | _ => simp [Rows.uptoBulk]
section
variable {H : Type} {enc : TypeId × Value → H} {P : Program} {W : World}
def Rd (enc : TypeId × Value → H) (P : Program) (W : World) (n : Nat) {α : Type} (T : Ty α) (t : TypeId) (μ : α → Nat) (S : α → Prop) : Prop :=
 ∀ cs x, DataW.trod enc P W 0 (fun _ => true) true n t cs = some x → Rows.uptoBulk x.1 ≤ 1048576 → ∃ a, aX (T.leafs a) (iZ W) cs ∧ μ a ≤ Rows.uptoBulk x.1 ∧ S a
def RdF (enc : TypeId × Value → H) (P : Program) (W : World) (n : Nat) (fs : List Field) (o e : Nat) {β : Type} (L : β → List Fact) (μ : β → Nat) (S : β → Prop) : Prop :=
 ∀ (cs : List Value) xs, cs.length = e → (fs.mapM fun f => DataW.trod enc P W 0 (fun _ => true) true n f.type ((cs.drop f.offset).take (P.cellsOf f.type))) = some xs → Rows.uptoBulkAll (xs.map (·.1)) ≤ 1048576 → ∃ b, aX (L b) (iZ W) (cs.drop o) ∧ μ b ≤ Rows.uptoBulkAll (xs.map (·.1)) ∧ S b
theorem pT {α : Type} {T : Ty α} {t : TypeId} {μ : α → Nat} {S : α → Prop} : Rd enc P W 0 T t μ S := fun cs x h => by cases h
theorem qZ {n e : Nat} : RdF enc P W n [] e e (β := Unit) (fun _ => []) (fun _ => 0) (fun _ => True) := fun cs xs hl h hb => ⟨(), by rw [List.drop_of_length_le (by omega)]; rfl, Nat.zero_le _, trivial⟩
theorem aFY {α β : Type} {f : α → Option β} {x : α} {l : List α} {ys : List β} (h : (x :: l).mapM f = some ys) : ∃ y r, f x = some y ∧ l.mapM f = some r ∧ ys = y :: r := by
 rw [List.mapM_cons] at h
 cases hx : f x with
 | none => rw [hx] at h; cases h
 | some y =>
  cases hl : l.mapM f with
  | none => rw [hx, hl] at h; cases h
  | some r => rw [hx, hl] at h; cases h; exact ⟨y, r, rfl, rfl, rfl⟩
theorem fH {n o e : Nat} {f : Field} {fs : List Field} {α β : Type} {T : Ty α} {μ : α → Nat} {S : α → Prop} {L : β → List Fact} {ν : β → Nat} {R : β → Prop} (h : Rd enc P W n T f.type μ S) (ho : f.offset = o) (hz : P.cellsOf f.type = T.sz) (k : RdF enc P W n fs (o + T.sz) e L ν R) :
  RdF enc P W n (f :: fs) o e (fun x : α × β => T.leafs x.1 ++ L x.2) (fun x => μ x.1 + ν x.2) (fun x => S x.1 ∧ R x.2) := fun cs xs hl hm hb => by
 obtain ⟨y, r, h1, h2, rfl⟩ := aFY hm
 simp only [List.map_cons, Rows.uptoBulkAll] at hb
 obtain ⟨a, a1, a2, a3⟩ := h _ _ h1 (by omega)
 obtain ⟨b, b1, b2, b3⟩ := k cs r hl h2 (by omega)
 refine ⟨(a, b), ?_, by simp only [List.map_cons, Rows.uptoBulkAll]; omega, a3, b3⟩
 have := a1.append b1
 rw [ho, hz, ← List.drop_drop, List.take_append_drop] at this
 exact this
theorem qI {n e : Nat} {α β : Type} {T : Ty α} {t : TypeId} {fs : Array Field} {μ : α → Nat} {S : α → Prop} {L : β → List Fact} {ν : β → Nat} {R : β → Prop} (mk : β → α) (ht : P.underlying t = some (.struct fs)) (hc : P.cellsOf t = e) (k : RdF enc P W n fs.toList 0 e L ν R)
  (hL : ∀ b, T.leafs (mk b) = L b) (hμ : ∀ b, μ (mk b) ≤ ν b + 1) (hS : ∀ b, R b → ν b + 1 ≤ 1048576 → S (mk b)) : Rd enc P W (n + 1) T t μ S := fun cs x h hb => by
 rw [DataW.trod_step] at h
 unfold DataW.trodStep at h
 rw [ht] at h
 dsimp only at h
 split at h
 ·rename_i hcs
  cases hm : (fs.toList.mapM fun f => DataW.trod enc P W 0 (fun _ => true) true n f.type ((cs.drop f.offset).take (P.cellsOf f.type))) with
  | none => rw [hm] at h; cases h
  | some xs =>
   rw [hm] at h
   cases h
   simp only [Rows.uptoBulk] at hb
   obtain ⟨b, b1, b2, b3⟩ := k cs xs (by omega) hm (by omega)
   rw [List.drop_zero] at b1
   have := hμ b
   refine ⟨mk b, by rw [hL]; exact b1, by simp only [Rows.uptoBulk]; omega, hS b b3 (by omega)⟩
 ·cases h
theorem rd_int {n : Nat} {t : TypeId} {k : IntKind} (ht : P.underlying t = some (.int k)) : Rd enc P W n (aB k) t (fun _ => 1) (fun i => (Lit.int k i).wf = true) := fun cs x h hb => by
 obtain _ | n := n
 ·cases h
 rw [DataW.trod_step] at h
 unfold DataW.trodStep at h
 rw [ht] at h
 match cs, h with
 | [.int k' i], h =>
  dsimp only at h
  split at h
  ·rename_i hc
   obtain ⟨rfl, hw⟩ := hc
   cases h
   exact ⟨i, ⟨_, [], rfl, rfl, rfl⟩, Nat.le_refl _, hw⟩
  ·cases h
theorem rd_str {n : Nat} {t : TypeId} (ht : P.underlying t = some .string) : Rd enc P W n aM t (fun s => s.size + 1) (fun s => s.size ≤ 1048576) := fun cs x h hb => by
 obtain _ | n := n
 ·cases h
 rw [DataW.trod_step] at h
 unfold DataW.trodStep at h
 rw [ht] at h
 match cs, h with
 | [.string s], h =>
  dsimp only at h
  split at h
  ·cases h
   have e : s.data.toList.length = s.size := rfl
   simp only [Rows.uptoBulk] at hb
   exact ⟨s, ⟨_, [], rfl, rfl, rfl⟩, by simp only [Rows.uptoBulk]; omega, by omega⟩
  ·cases h
def msum {α : Type} (μ : α → Nat) : List α → Nat
 | [] => 0
 | a :: l => μ a + msum μ l
theorem aEe {α : Type} {f : Nat → Option α} {n : Nat} {l : List α} (h : (List.range n).mapM f = some l) : l.length = n ∧ ∀ i, i < n → ∃ y, l[i]? = some y ∧ f i = some y := by
 have g : ∀ (ks : List Nat) (l : List α), ks.mapM f = some l → l.length = ks.length ∧ ∀ (i k : Nat), ks[i]? = some k → ∃ y, l[i]? = some y ∧ f k = some y := fun ks => by
  induction ks with
  | nil => intro l h; cases h; exact ⟨rfl, fun i k h => by simp at h⟩
  | cons k ks ih =>
   intro l h
   obtain ⟨y, r, h1, h2, rfl⟩ := aFY h
   obtain ⟨a, b⟩ := ih r h2
   refine ⟨by simp [a], fun i q hq => ?_⟩
   cases i with
   | zero => simp at hq; subst hq; exact ⟨y, rfl, h1⟩
   | succ i => exact b i q (by simpa using hq)
 obtain ⟨a, b⟩ := g _ _ h
 exact ⟨by simpa using a, fun i hi => b i i (by simp [hi])⟩
theorem aHA {W : World} {b z : Nat} {a : Addr} {cs : List Value} (h : W.cells? b a z = some cs) : ∀ (j : Nat) c, cs[j]? = some c → W.cell? (a.add j) = some c := by
 unfold World.cells? at h
 split at h
 ·obtain ⟨h1, h2⟩ := aEe h
  intro j c hj
  have := (List.getElem?_eq_some_iff.1 hj).1
  obtain ⟨y, y1, y2⟩ := h2 j (by omega)
  rw [hj] at y1; cases y1; exact y2
 ·cases h
theorem aFl {α γ : Type} {Q : γ → α → Prop} : ∀ (l : List γ), (∀ c ∈ l, ∃ a, Q c a) → ∃ r : List α, r.length = l.length ∧ ∀ (i : Nat) c, l[i]? = some c → ∃ a, r[i]? = some a ∧ Q c a
 | [], _ => ⟨[], rfl, fun i c h => by simp at h⟩
 | c :: l, h => by
  obtain ⟨a, ha⟩ := h c (.head _)
  obtain ⟨r, h1, h2⟩ := aFl l (fun c hc => h c (.tail _ hc))
  refine ⟨a :: r, by simp [h1], fun i q hq => ?_⟩
  cases i with
  | zero => simp at hq; subst hq; exact ⟨a, rfl, ha⟩
  | succ i => exact h2 i q (by simpa using hq)
theorem aEH {α : Type} {μ : α → Nat} : ∀ {r : List α} {ds : List (DataW H)}, r.length = ds.length → (∀ (i : Nat) d a, ds[i]? = some d → r[i]? = some a → μ a ≤ Rows.uptoBulk d) → msum μ r ≤ Rows.uptoBulkAll ds ∧ r.length ≤ Rows.uptoBulkAll ds
 | [], [], _, _ => ⟨Nat.zero_le _, Nat.zero_le _⟩
 | a :: r, d :: ds, hl, h => by
  obtain ⟨h1, h2⟩ := aEH (r := r) (ds := ds) (by simpa using hl) (fun i d a hd ha => h (i + 1) d a (by simpa using hd) (by simpa using ha))
  have := h 0 d a rfl rfl
  have := bulk_one d
  simp only [msum, Rows.uptoBulkAll, List.length_cons]; omega
theorem rd_sl {n : Nat} {t e : TypeId} {α : Type} {T : Ty α} {μ : α → Nat} {S : α → Prop} (ht : P.underlying t = some (.slice e)) (hz : P.cellsOf e = T.sz) (h : Rd enc P W n T e μ S) : Rd enc P W (n + 1) (tSl T) t (fun l => msum μ l + 1) (fun l => l.length ≤ 1048576 ∧ ∀ a ∈ l, S a) := fun cs x hx hb => by
 rw [DataW.trod_step] at hx
 unfold DataW.trodStep at hx
 rw [ht] at hx
 match cs, hx with
 | [.slice none 0 0], hx =>
  cases hx
  exact ⟨[], ⟨_, [], rfl, eG (iZ W) _ rfl, rfl⟩, Nat.le_refl _, by simp, fun a ha => by cases ha⟩
 | [.slice (some p) len cap], hx =>
  dsimp only at hx
  split at hx
  ·rename_i hc
   cases h1 : ((List.range len).mapM fun i => (W.cells? 0 (p.add (i * P.cellsOf e)) (P.cellsOf e)).bind (DataW.trod enc P W 0 (fun _ => true) true n e)) with
   | none => rw [h1] at hx; cases hx
   | some es =>
    rw [h1] at hx
    obtain ⟨aU, _, rfl⟩ := Option.map_eq_some_iff.1 hx
    obtain ⟨l1, l2⟩ := aEe h1
    simp only [Rows.uptoBulk] at hb
    have each : ∀ y ∈ es, ∃ a, (μ a ≤ Rows.uptoBulk y.1 ∧ S a) ∧ ∀ i cs', W.cells? 0 (p.add (i * P.cellsOf e)) (P.cellsOf e) = some cs' → DataW.trod enc P W 0 (fun _ => true) true n e cs' = some y → True := fun y hy => by
     obtain ⟨i, hi, rfl⟩ := List.mem_iff_getElem.1 hy
     obtain ⟨y, y1, y2⟩ := l2 i (by omega)
     obtain ⟨cs', c1, c2⟩ := Option.bind_eq_some_iff.1 y2
     have e1 : es[i] = y := by rw [List.getElem?_eq_getElem hi] at y1; exact Option.some.inj y1
     have m1 : Rows.uptoBulk y.1 ≤ Rows.uptoBulkAll (es.map (·.1)) := aDC (List.mem_map_of_mem (by rw [← e1]; exact List.getElem_mem _))
     obtain ⟨a, a1, a2, a3⟩ := h _ _ c2 (by omega)
     exact ⟨a, ⟨by rw [e1]; exact a2, a3⟩, fun _ _ _ _ => trivial⟩
    have each2 : ∀ i ∈ List.range len, ∃ a, (∃ y, es[i]? = some y ∧ μ a ≤ Rows.uptoBulk y.1) ∧ S a ∧ T.at (iZ W) (p.add (i * T.sz)) a := fun i hi => by
     obtain ⟨y, y1, y2⟩ := l2 i (by simpa using hi)
     obtain ⟨cs', c1, c2⟩ := Option.bind_eq_some_iff.1 y2
     have m1 : Rows.uptoBulk y.1 ≤ Rows.uptoBulkAll (es.map (·.1)) := aDC (List.mem_map_of_mem (List.mem_of_getElem? y1))
     obtain ⟨a, a1, a2, a3⟩ := h _ _ c2 (by omega)
     exact ⟨a, ⟨y, y1, a2⟩, a3, cs', a1, fun j c hj => by rw [← hz]; exact aGA (aHA c1 j c hj)⟩
    obtain ⟨r, r1, r2⟩ := aFl (List.range len) each2
    have rl : r.length = len := by simpa using r1
    have r3 : ∀ i, i < len → ∃ a, r[i]? = some a ∧ (∃ y, es[i]? = some y ∧ μ a ≤ Rows.uptoBulk y.1) ∧ S a ∧ T.at (iZ W) (p.add (i * T.sz)) a := fun i hi => r2 i i (by simp [hi])
    obtain ⟨m1, m2⟩ := aEH (μ := μ) (r := r) (ds := es.map (·.1)) (by simp [rl, l1]) (fun i d a hd ha => by
     obtain ⟨a', a1, ⟨y, y1, y2⟩, _⟩ := r3 i (by have := (List.getElem?_eq_some_iff.1 ha).1; omega)
     rw [ha] at a1; cases a1
     rw [List.getElem?_map, y1] at hd; cases hd
     exact y2)
    refine ⟨r, ⟨_, [], rfl, ⟨fun i => p.add (i * T.sz), ⟨some p, cap, by rw [rl], by rw [rl]; exact hc.2.1, fun i _ => ⟨p, rfl, rfl⟩⟩, by omega, fun i a ha => ?_⟩, rfl⟩, by simp only [Rows.uptoBulk]; omega, by omega, fun a ha => ?_⟩
    ·obtain ⟨a', a1, _, _, a2⟩ := r3 i (by have := (List.getElem?_eq_some_iff.1 ha).1; omega)
     rw [ha] at a1; cases a1; exact a2
    ·obtain ⟨i, hi, rfl⟩ := List.mem_iff_getElem.1 ha
     obtain ⟨a', a1, _, a2, _⟩ := r3 i (by omega)
     rw [List.getElem?_eq_getElem hi] at a1; cases a1; exact a2
  ·cases hx
theorem Rd.mono {n : Nat} {α : Type} {T : Ty α} {t : TypeId} {μ ν : α → Nat} {S R : α → Prop} (h : Rd enc P W n T t μ S) (hμ : ∀ a, ν a ≤ μ a) (hS : ∀ a, S a → μ a ≤ 1048576 → R a) : Rd enc P W n T t ν R := fun cs x hx hb => by
 obtain ⟨a, a1, a2, a3⟩ := h cs x hx hb
 exact ⟨a, a1, Nat.le_trans (hμ a) a2, hS a a3 (by omega)⟩
theorem arg_st {α : Type} {T : Ty α} {t : TypeId} {μ : α → Nat} {S : α → Prop} {fs : Array Field} {r : Reach} {b0 : Nat} {v : Value} {d : DataW H} {ps : List MemPlace} (h : ∀ n, Rd enc P W n T t μ S) (ht : P.underlying t = some (.struct fs)) (hval : Value.okWide P W r b0 t v)
  (hd : DataW.Trod enc P W 0 (fun _ => true) true t v d ps) (hb : Rows.uptoBulk d ≤ 1048576) : ∃ a, (fSt T a).p (iZ W) v ∧ S a := by
 unfold Value.okWide at hval
 rw [ht] at hval
 obtain ⟨cs, rfl, _⟩ := hval
 obtain ⟨n, hn⟩ := hd
 obtain ⟨a, a1, _, a2⟩ := h n _ _ hn hb
 exact ⟨a, ⟨cs.toList, by simp, a1⟩, a2⟩
theorem arg_sl {α : Type} {T : Ty α} {t e : TypeId} {μ : List α → Nat} {S : List α → Prop} {r : Reach} {b0 : Nat} {v : Value} {d : DataW H} {ps : List MemPlace} (h : ∀ n, Rd enc P W n (tSl T) t μ S) (ht : P.underlying t = some (.slice e)) (hval : Value.okWide P W r b0 t v)
  (hd : DataW.Trod enc P W 0 (fun _ => true) true t v d ps) (hb : Rows.uptoBulk d ≤ 1048576) : ∃ a, (fSl T a).p (iZ W) v ∧ S a := by
 have hc : v.cells = #[v] := by
  cases v with
  | agg cs => simp [Value.okWide, ht, Cell.okWide, Cell.ok] at hval
  | _ => rfl
 obtain ⟨n, hn⟩ := hd
 rw [hc] at hn
 obtain ⟨a, ⟨c, l, e1, a1, _⟩, _, a2⟩ := h n _ _ hn hb
 cases e1
 exact ⟨a, a1, a2⟩
end
end Go.Proofs.YtmnbfgeljmhekaaGreat
namespace Go.Proofs.YtmnbfgeljmhekaaGreat
open Go.SX Go.SW Go.Dt
section
variable {H : Type} {enc : TypeId × Value → H} {W : World}
abbrev RdP (enc : TypeId × Value → H) (W : World) (n : Nat) {α : Type} (T : Ty α) (t : TypeId) (μ : α → Nat) (S : α → Prop) : Prop := Rd enc Tryz.prog W n T t μ S
theorem jE (n : Nat) {t : TypeId} (ht : Tryz.prog.underlying t = some (.int .i64)) : RdP enc W n (aB .i64) t (fun _ => 1) (fun _ => True) := (rd_int ht).mono (fun _ => Nat.le_refl _) (fun _ _ _ => trivial)
theorem pA {n : Nat} {t e : TypeId} {α : Type} {T : Ty α} {μ : α → Nat} {S : α → Prop} (ht : Tryz.prog.underlying t = some (.slice e)) (hz : Tryz.prog.cellsOf e = T.sz) (h : ∀ k, RdP enc W k T e μ S) : RdP enc W n (tSl T) t (fun l => msum μ l + 1) (fun l => l.length ≤ 1048576 ∧ ∀ a ∈ l, S a) := by
 cases n with
 | zero => exact pT
 | succ n => exact rd_sl ht hz (h n)
theorem aDo (n : Nat) {t e : TypeId} (ht : Tryz.prog.underlying t = some (.slice e)) (he : Tryz.prog.underlying e = some (.int .i64)) (hz : Tryz.prog.cellsOf e = 1) : RdP enc W n (tSl (aB .i64)) t (fun _ => 0) (fun l => l.length ≤ 1048576) :=
 (pA ht hz (fun k => jE k he)).mono (fun _ => Nat.zero_le _) (fun _ h _ => h.1)
theorem yT : ∀ l : List ScopeExp, nL l = msum nE l
 | [] => rfl
 | a :: l => by simp only [nL, msum, yT l]
theorem aEf (a b : Int) (c : List ScopeExp) : bA.leafs ⟨a, b, c⟩ = [aA .i64 a, aA .i64 b, fSl bA c] := by
 show [_, _, gE c] = _
 rw [iO]
theorem rd_exp : ∀ n : Nat, RdP enc W n bA 56 nE (fun e => nE e ≤ 1048576)
 | 0 => pT
 | 1 => fun cs x h hb => (qI (μ := nE) (S := fun e => nE e ≤ 1048576) (T := bA) (fun b : Int × Int × List ScopeExp × Unit => ⟨b.1, b.2.1, b.2.2.1⟩) Tryz.underlying56 (e := 3) (by kernel_rfl)
   (fH (jE 0 Tryz.underlying54) rfl (by kernel_rfl) (fH (jE 0 Tryz.underlying3) rfl (by kernel_rfl) (fH (T := tSl bA) (μ := fun l => msum nE l + 1) (S := fun _ => True) pT rfl (by kernel_rfl) qZ)))
   (fun b => aEf b.1 b.2.1 b.2.2.1) (fun b => by simp only [nE, yT]; omega) (fun b _ hb => by simp only [nE, yT] at *; omega)) cs x h hb
 | n + 2 => fun cs x h hb => (qI (μ := nE) (S := fun e => nE e ≤ 1048576) (T := bA) (fun b : Int × Int × List ScopeExp × Unit => ⟨b.1, b.2.1, b.2.2.1⟩) Tryz.underlying56 (e := 3) (by kernel_rfl)
   (fH (jE _ Tryz.underlying54) rfl (by kernel_rfl) (fH (jE _ Tryz.underlying3) rfl (by kernel_rfl) (fH (rd_sl Tryz.underlying48 (by kernel_rfl) (rd_exp n)) rfl (by kernel_rfl) qZ)))
   (fun b => aEf b.1 b.2.1 b.2.2.1) (fun b => by simp only [nE, yT]; omega) (fun b _ hb => by simp only [nE, yT] at *; omega)) cs x h hb
theorem aGv : ∀ n : Nat, RdP enc W n aL 51 (fun _ => 0) (fun x => x.Args.length ≤ 2000000 ∧ x.Kids.length ≤ 2000000 ∧ ∀ e ∈ x.Args, nE e ≤ 2000000)
 | 0 => pT
 | n + 1 => qI (T := aL) (fun b : Int × Int × List ScopeExp × List Int × Unit => ⟨b.1, b.2.1, b.2.2.1, b.2.2.2.1⟩) Tryz.underlying51 (e := 4) (by kernel_rfl)
   (fH (jE n Tryz.underlying47) rfl (by kernel_rfl) (fH (jE n Tryz.underlying3) rfl (by kernel_rfl) (fH (pA Tryz.underlying48 (by kernel_rfl) rd_exp) rfl (by kernel_rfl) (fH (aDo n Tryz.underlying49 Tryz.underlying3 (by kernel_rfl)) rfl (by kernel_rfl) qZ))))
   (fun _ => rfl) (fun _ => Nat.zero_le _) (fun b h _ => ⟨by have := h.2.2.1.1; show b.2.2.1.length ≤ _; omega, by have := h.2.2.2.1; show b.2.2.2.1.length ≤ _; omega, fun e he => Nat.le_trans (h.2.2.1.2 e he) (by omega)⟩)
theorem aHN : ∀ n : Nat, RdP enc W n bF 110 (fun _ => 0) (fun _ => True)
 | 0 => pT
 | n + 1 => qI (T := bF) (fun b : Int × Int × Unit => ⟨b.1, b.2.1⟩) Tryz.underlying110 (e := 2) (by kernel_rfl)
   (fH (jE n Tryz.underlying3) rfl (by kernel_rfl) (fH (jE n Tryz.underlying3) rfl (by kernel_rfl) qZ))
   (fun _ => rfl) (fun _ => Nat.zero_le _) (fun _ _ _ => trivial)
theorem aGP : ∀ n : Nat, RdP enc W n bW 102 (fun _ => 0) (fun _ => True)
 | 0 => pT
 | n + 1 => qI (T := bW) (fun b : Int × Int × Unit => ⟨b.1, b.2.1⟩) Tryz.underlying102 (e := 2) (by kernel_rfl)
   (fH (jE n Tryz.underlying3) rfl (by kernel_rfl) (fH (jE n Tryz.underlying3) rfl (by kernel_rfl) qZ))
   (fun _ => rfl) (fun _ => Nat.zero_le _) (fun _ _ _ => trivial)
theorem aHD : ∀ n : Nat, RdP enc W n bK 105 (fun _ => 0) (fun x => x.Joins.length ≤ 2000000)
 | 0 => pT
 | n + 1 => qI (T := bK) (fun b : Int × List Int × Int × Unit => ⟨b.1, b.2.1, b.2.2.1⟩) Tryz.underlying105 (e := 3) (by kernel_rfl)
   (fH (jE n Tryz.underlying3) rfl (by kernel_rfl) (fH (aDo n Tryz.underlying49 Tryz.underlying3 (by kernel_rfl)) rfl (by kernel_rfl) (fH (jE n Tryz.underlying3) rfl (by kernel_rfl) qZ)))
   (fun _ => rfl) (fun _ => Nat.zero_le _) (fun b h _ => by have := h.2.1; show b.2.1.length ≤ _; omega)
theorem aIC : ∀ n : Nat, RdP enc W n aJ 99 (fun _ => 0) (smD)
 | 0 => pT
 | n + 1 => qI (T := aJ) (fun b : List ScopeChan × List ScopeSpot × List ScopeRule × Unit => ⟨b.1, b.2.1, b.2.2.1⟩) Tryz.underlying99 (e := 3) (by kernel_rfl)
   (fH (pA Tryz.underlying95 (by kernel_rfl) aHN) rfl (by kernel_rfl) (fH (pA Tryz.underlying96 (by kernel_rfl) aGP) rfl (by kernel_rfl) (fH (pA Tryz.underlying97 (by kernel_rfl) aHD) rfl (by kernel_rfl) qZ)))
   (fun _ => rfl) (fun _ => Nat.zero_le _) (fun b h _ => ⟨by have := h.1.1; show b.1.length ≤ _; omega, by have := h.2.1.1; show b.2.1.length ≤ _; omega, by have := h.2.2.1.1; show b.2.2.1.length ≤ _; omega, h.2.2.1.2⟩)
theorem aHB : ∀ n : Nat, RdP enc W n dO 26 (fun _ => 0) (SmP)
 | 0 => pT
 | n + 1 => qI (T := dO) (fun b : List ByteArray × List ScopeNode × List ScopeDef × Int × Unit => ⟨b.1, b.2.1, b.2.2.1, b.2.2.2.1⟩) Tryz.underlying26 (e := 4) (by kernel_rfl)
   (fH (pA (S := fun s : ByteArray => s.size ≤ 1048576) Tryz.underlying22 (by kernel_rfl) (fun k => (rd_str (n := k) Tryz.underlying9))) rfl (by kernel_rfl) (fH (pA Tryz.underlying23 (by kernel_rfl) aGv) rfl (by kernel_rfl) (fH (pA Tryz.underlying24 (by kernel_rfl) aIC) rfl (by kernel_rfl) (fH (jE n Tryz.underlying3) rfl (by kernel_rfl) qZ))))
   (fun _ => rfl) (fun _ => Nat.zero_le _) (fun b h _ => ⟨by have := h.2.1.1; show b.2.1.length ≤ _; omega, by have := h.2.2.1.1; show b.2.2.1.length ≤ _; omega, by have := h.1.1; show b.1.length ≤ _; omega, fun x hx => Nat.le_trans (h.1.2 x hx) (by omega), h.2.1.2, h.2.2.1.2⟩)
end
end Go.Proofs.YtmnbfgeljmhekaaGreat
set_option maxRecDepth 100000
namespace Go.Proofs.YtmnbfgeljmhekaaGreat
open Go.SX Go.SW Go.Dt
theorem works_ev : uX 4000000 = some true := by kernel_rfl
theorem aFc : uX F = some true := works_ev
end Go.Proofs.YtmnbfgeljmhekaaGreat
set_option maxRecDepth 100000
namespace Go.Proofs.YtmnbfgeljmhekaaGreat
open Go.SX Go.SW Go.Dt
variable {p : ScopeProg} {t : Usage_text} {L : bR} {H : Nat} {tab tab' : List UsageDef} {d n : Int} {e : E} {x : ScopeNode} {D : ScopeDef}
def eW (R : List UsageDef) (j : Nat) : UsageDef := (R[j]?).getD ⟨[], [], []⟩
def iV (X : UsageDef) (c : Nat) : Int := (X.Chans[c]?).getD 0
noncomputable def gH (p : ScopeProg) (H : Nat) (X : UsageDef) (d : Int) (c : Nat) : Int := if iV X c = 3 ∧ kC p H d (c : Int) = 1 then 2 else iV X c
noncomputable def fC (p : ScopeProg) (H : Nat) (X : UsageDef) (d : Int) : UsageDef := { X with Chans := (List.range X.Chans.length).map (gH p H X d) }
noncomputable def gA (p : ScopeProg) (H : Nat) (R : List UsageDef) : List UsageDef := (List.range R.length).map fun j => fC p H (eW R j) (j : Int)
theorem tO {α : Type} {z : α} (l : List α) : (List.range l.length).map (fun j => (l[j]?).getD z) = l := by
 apply List.ext_getElem?
 intro j
 by_cases hj : j < l.length
 ·rw [iC hj, List.getElem?_eq_getElem hj]; rfl
 ·rw [List.getElem?_eq_none (by simp; omega), List.getElem?_eq_none (by omega)]
theorem yJ {α : Type} {f g : Nat → α} {n : Nat} : (List.range n).map (fun c => if c < 0 then f c else g c) = (List.range n).map g := List.map_congr_left fun c _ => if_neg (by omega)
theorem xQ {α : Type} {f g : Nat → α} {n : Nat} : (List.range n).map (fun c => if c < n then f c else g c) = (List.range n).map f := List.map_congr_left fun c hc => if_pos (List.mem_range.1 hc)
theorem xL {α : Type} {f g : Nat → α} {n i : Nat} : ((List.range n).map fun c => if c < i then f c else g c).set i (f i) = (List.range n).map fun c => if c < i + 1 then f c else g c := by
 rw [xP]
 apply List.map_congr_left
 intro c _
 by_cases q : c = i
 ·subst q; rw [if_pos rfl, if_pos (by omega)]
 ·rw [if_neg q]
  by_cases q2 : c < i
  ·rw [if_pos q2, if_pos (by omega)]
  ·rw [if_neg q2, if_neg (by omega)]
theorem aBi {α : Type} {f g : Nat → α} {n i : Nat} (h : f i = g i) : ((List.range n).map fun c => if c < i then f c else g c) = (List.range n).map fun c => if c < i + 1 then f c else g c := by
 apply List.map_congr_left
 intro c _
 by_cases q : c = i
 ·subst q; rw [if_neg (by omega), if_pos (by omega), h]
 ·by_cases q2 : c < i
  ·rw [if_pos q2, if_pos (by omega)]
  ·rw [if_neg q2, if_neg (by omega)]
theorem fin3_p (S : bI p t L H) (hh : dQ p H d n e x D) (ht : idx t.heads d = some n) {X : UsageDef} (ok1 : lX D X) {T : List UsageDef} (hT : ∃ z, idx T d = some z) : mM F t T d X F X.Chans 0 = some (T.set d.toNat (fC p H X d)) := by
 have ho := dT hh.ok
 have hl := ok1.chans
 obtain ⟨z, hz⟩ := hT
 have e0 : X.Chans = (List.range X.Chans.length).map fun c => if c < 0 then gH p H X d c else iV X c := by rw [yJ]; exact (tO X.Chans).symm
 conv => lhs; rw [e0]
 rw [show fC p H X d = { X with Chans := (List.range X.Chans.length).map fun c => if c < X.Chans.length then gH p H X d c else iV X c } from by rw [xQ]; rfl]
 refine fO (fun k (s : List Int × Int) => mM F t T d X k s.1 s.2) X.Chans.length (fun i => ((List.range X.Chans.length).map fun c => if c < i then gH p H X d c else iV X c, (i : Int))) _ (fun k i hi => ?_) (fun k => ?_) (by show _ < 4000000; omega)
 ·dsimp only
  obtain ⟨b1, _⟩ := aAV S hh (c := i) (by omega)
  rw [mM, if_pos (by omega), jL hi, bsm, if_neg (show ¬ i < i from by omega)]
  by_cases y3 : iV X i = 3
  ·rw [if_pos y3, ht, bsm, yN S hh ht (by omega), bsm, b1, bsm]
   by_cases b : kC p H d i = 1
   ·rw [if_pos b, hz, bsm, bsm, bsm, aP (by omega), bsm, Int.toNat_natCast]
    congr 1
    rw [show (2 : Int) = gH p H X d i from by unfold gH; rw [if_pos ⟨y3, b⟩]]
    exact xL
   ·rw [if_neg b, bsm, aP (by omega), bsm]
    congr 1
    exact aBi (by unfold gH; rw [if_neg (fun q => b q.2)])
  ·rw [if_neg y3, bsm, aP (by omega), bsm]
   congr 1
   exact aBi (by unfold gH; rw [if_neg (fun q => y3 q.1)])
 ·dsimp only
  rw [mM, if_neg (by omega)]
theorem aBI {α : Type} {T : List α} {d : Int} {z y : α} (h : idx T d = some z) : idx (T.set d.toNat y) d = some y := by
 have := eA h
 obtain ⟨j, rfl⟩ : ∃ j : Nat, d = (j : Int) := ⟨d.toNat, by omega⟩
 rw [Int.toNat_natCast]
 exact bE (by rw [List.getElem?_set_self (by omega)])
theorem qX {α : Type} {T : List α} {d : Int} {z : α} (h : idx T d = some z) : T.set d.toNat z = T := by
 apply List.ext_getElem?
 intro j
 rw [List.getElem?_set]
 have g := bB h
 split
 ·rename_i q; subst q; rw [if_pos (List.getElem?_eq_some_iff.1 g).1, g]
 ·rfl
theorem fin3_r (S : bI p t L H) (hh : dQ p H d n e x D) (hL : idx L.Heads d = some n) {X : UsageDef} (ok1 : lX D X) {T : List UsageDef} (hT : idx T d = some X) : vU F L d F T 0 = some (T.set d.toNat (fC p H X d)) := by
 have ho := dT hh.ok
 have hl := ok1.chans
 have e0 : T = T.set d.toNat { X with Chans := (List.range X.Chans.length).map fun c => if c < 0 then gH p H X d c else iV X c } := by
  rw [yJ, show (List.range X.Chans.length).map (iV X) = X.Chans from tO X.Chans]
  exact (qX hT).symm
 conv => lhs; rw [e0]
 rw [show fC p H X d = { X with Chans := (List.range X.Chans.length).map fun c => if c < X.Chans.length then gH p H X d c else iV X c } from by rw [xQ]; rfl]
 refine fO (fun k (s : List UsageDef × Int) => vU F L d k s.1 s.2) X.Chans.length (fun i => (T.set d.toNat { X with Chans := (List.range X.Chans.length).map fun c => if c < i then gH p H X d c else iV X c }, (i : Int))) _ (fun k i hi => ?_) (fun k => ?_) (by show _ < 4000000; omega)
 ·dsimp only
  obtain ⟨_, b1⟩ := aAV S hh (c := i) (by omega)
  rw [vU, aBI hT, bsm, if_pos (by simp; omega), bsm, jL hi, bsm, if_neg (show ¬ i < i from by omega)]
  by_cases y3 : iV X i = 3
  ·rw [if_pos y3, hL, bsm, aEi S hh hL (by omega), bsm, b1, bsm]
   by_cases b : kC p H d i = 1
   ·rw [if_pos b, bsm, bsm, bsm, aP (by omega), bsm, Int.toNat_natCast, List.set_set]
    congr 3
    rw [show (2 : Int) = gH p H X d i from by unfold gH; rw [if_pos ⟨y3, b⟩]]
    exact xL
   ·rw [if_neg b, bsm, aP (by omega), bsm, List.set_set]
    congr 3
    exact aBi (by unfold gH; rw [if_neg (fun q => b q.2)])
  ·rw [if_neg y3, bsm, aP (by omega), bsm, List.set_set]
   congr 3
   exact aBi (by unfold gH; rw [if_neg (fun q => y3 q.1)])
 ·dsimp only
  rw [vU, aBI hT, bsm, if_neg (by simp), List.set_set]
theorem fin_p (S : bI p t L H) (hk : okTab p tab) : kX F t tab F tab 0 = some (gA p H tab) := by
 have dl := S.defs
 have tl := hk.1
 have e0 : tab = (List.range tab.length).map fun j => if j < 0 then fC p H (eW tab j) (j : Int) else eW tab j := by rw [yJ]; exact (tO tab).symm
 rw [show gA p H tab = (List.range tab.length).map fun j => if j < tab.length then fC p H (eW tab j) (j : Int) else eW tab j from by rw [xQ]; rfl]
 refine (congrArg (kX F t tab F · 0) e0).trans (fO (fun k (s : List UsageDef × Int) => kX F t tab k s.1 s.2) tab.length (fun i => ((List.range tab.length).map fun j => if j < i then fC p H (eW tab j) (j : Int) else eW tab j, (i : Int))) _ (fun k i hi => ?_) (fun k => ?_) (by show _ < 4000000; omega))
 ·dsimp only
  obtain ⟨n, e, x, D, hh, ht, _⟩ := S.headOf (d := (i : Int)) (by omega) (by omega)
  have hX : idx tab (i : Int) = some (eW tab i) := bE (by unfold eW; rw [List.getElem?_eq_getElem hi]; rfl)
  have ok1 := hk.2 _ _ _ hh.hD hX
  have hT : idx ((List.range tab.length).map fun j => if j < i then fC p H (eW tab j) (j : Int) else eW tab j) (i : Int) = some (eW tab i) := by rw [jL hi, if_neg (by omega)]
  rw [kX, if_pos (by omega), hT, bsm, fin3_p S hh ht ok1 ⟨_, hT⟩, bsm, aP (by omega), bsm, Int.toNat_natCast]
  congr 1
  exact xL (f := fun j => fC p H (eW tab j) (j : Int))
 ·dsimp only
  rw [kX, if_neg (by omega)]
theorem fin_r (S : bI p t L H) (hk : okTab p tab) : rN F L F tab 0 = some (gA p H tab) := by
 have dl := S.defs
 have tl := hk.1
 have e0 : tab = (List.range tab.length).map fun j => if j < 0 then fC p H (eW tab j) (j : Int) else eW tab j := by rw [yJ]; exact (tO tab).symm
 rw [show gA p H tab = (List.range tab.length).map fun j => if j < tab.length then fC p H (eW tab j) (j : Int) else eW tab j from by rw [xQ]; rfl]
 refine (congrArg (rN F L F · 0) e0).trans (fO (fun k (s : List UsageDef × Int) => rN F L k s.1 s.2) tab.length (fun i => ((List.range tab.length).map fun j => if j < i then fC p H (eW tab j) (j : Int) else eW tab j, (i : Int))) _ (fun k i hi => ?_) (fun k => ?_) (by show _ < 4000000; omega))
 ·dsimp only
  obtain ⟨n, e, x, D, hh, _, hL⟩ := S.headOf (d := (i : Int)) (by omega) (by omega)
  have hX : idx tab (i : Int) = some (eW tab i) := bE (by unfold eW; rw [List.getElem?_eq_getElem hi]; rfl)
  have ok1 := hk.2 _ _ _ hh.hD hX
  have hT : idx ((List.range tab.length).map fun j => if j < i then fC p H (eW tab j) (j : Int) else eW tab j) (i : Int) = some (eW tab i) := by rw [jL hi, if_neg (by omega)]
  rw [rN, if_pos (by simp; omega), fin3_r S hh hL ok1 hT, bsm, aP (by omega), bsm, Int.toNat_natCast]
  congr 1
  exact xL (f := fun j => fC p H (eW tab j) (j : Int))
 ·dsimp only
  rw [rN, if_neg (by simp)]
theorem zG {i : Nat} {X : UsageDef} (h : tab[i]? = some X) : (gA p H tab)[i]? = some (fC p H X (i : Int)) := by
 have := (List.getElem?_eq_some_iff.1 h).1
 rw [gA, iC this, eW, h]; rfl
theorem aBV : (gA p H tab).length = tab.length := by simp [gA]
theorem tI (hk : okTab p tab) : okTab p (gA p H tab) := by
 refine ⟨by rw [aBV]; exact hk.1, fun i D X hD hX => ?_⟩
 have hi := eA hD
 obtain ⟨X0, h0, o⟩ := kW hk hD
 have := zG (p := p) (H := H) (bB h0)
 rw [bB hX] at this
 cases this
 exact ⟨by rw [fC]; simp [o.chans], o.rules, o.args, o.many⟩
theorem aGx (S : bI p t L H) : ∃ R, pG p H R ∧ cN p H R = R ∧ ((uS F t).bind fun y3 => (nB F t F y3).bind fun x1 => (kX F t x1 F x1 0).bind fun x4 => some (x4, (0 : Int))) = some (gA p H R, 0) ∧
  ((aBS F p).bind fun y2 => (xD F L F y2).bind fun x1 => (rN F L F x1 0).bind fun x4 => some x4) = some (gA p H R) := by
 obtain ⟨R, g, hR, a, b⟩ := aIk S
 exact ⟨R, g, hR, by rw [none_p S, bsm, a, bsm, fin_p S g.ok, bsm], by rw [none_r S, bsm, b, bsm, fin_r S g.ok, bsm]⟩
end Go.Proofs.YtmnbfgeljmhekaaGreat
set_option maxRecDepth 100000
namespace Go.Proofs.YtmnbfgeljmhekaaGreat
open Go.SX Go.SW Go.Dt
variable {p : ScopeProg} {t : Usage_text} {L : bR} {H : Nat} {tab tab' : List UsageDef} {d n : Int} {e : E} {x : ScopeNode} {D : ScopeDef}
theorem aFF {X : UsageDef} {c : Nat} : cnt (gH p H X d c) = cnt (iV X c) := by
 unfold gH
 split
 ·rename_i h; rw [h.1]; rfl
 ·rfl
theorem zR {X : UsageDef} {c : Nat} (hc : c < X.Chans.length) : X.Chans[c]? = some (iV X c) := by unfold iV; rw [List.getElem?_eq_getElem hc]; rfl
theorem aC4 (hk : okTab p tab) : LeT tab (gA p H tab) ∧ LeT (gA p H tab) tab := by
 have key : ∀ (d : Int) D X Y, idx p.Defs d = some D → idx tab d = some X → idx (gA p H tab) d = some Y → Y = fC p H X d ∧ X.Chans.length = D.Chans.length := fun d D X Y hD hX hY => by
  have := eA hD
  have q := zG (p := p) (H := H) (bB hX)
  rw [bB hY, show ((d.toNat : Nat) : Int) = d from by omega] at q
  exact ⟨Option.some.inj q, (hk.2 _ _ _ hD hX).chans⟩
 constructor
 ·refine LeT.of hk (tI hk) fun d D X Y hD hX hY => ?_
  obtain ⟨rfl, hl⟩ := key d D X Y hD hX hY
  refine ⟨fun c hc => ?_, fun c _ => Int.le_refl _, fun c a b ha hb i _ => ?_⟩
  ·rw [fM (zR (by omega)), fC, fM (iC (by omega)), aFF]; exact Int.le_refl _
  ·rw [fC] at hb; dsimp only at hb; rw [ha] at hb; cases hb; exact Int.le_refl _
 ·refine LeT.of (tI hk) hk fun d D X Y hD hX hY => ?_
  obtain ⟨rfl, hl⟩ := key d D Y X hD hY hX
  refine ⟨fun c hc => ?_, fun c _ => Int.le_refl _, fun c a b ha hb i _ => ?_⟩
  ·rw [fM (zR (X := Y) (by omega)), fC, fM (iC (by omega)), aFF]; exact Int.le_refl _
  ·rw [fC] at ha; dsimp only at ha; rw [hb] at ha; cases ha; exact Int.le_refl _
theorem aIb (S : bI p t L H) (h : LeT tab tab') (k : LeT tab' tab) : cN p H tab = cN p H tab' :=
 ((aAW S h).weigh (jB S) (jB S)).2 ((aAW S k).weigh (jB S) (jB S)).1 (zA S) (zA S)
theorem aCr {a b : List Int} (hl : a.length = b.length) (h : ∀ i : Nat, i < a.length → kc b i ≤ kc a i) : covB a b = true := by
 unfold covB
 rw [qP _ _ _ hl]
 refine List.all_eq_true.2 fun i hi => ?_
 have hi := List.mem_range.1 hi
 have h1 : a[i]? = some (a[i]'hi) := List.getElem?_eq_getElem hi
 have h2 : b[i]? = some (b[i]'(by omega)) := List.getElem?_eq_getElem (by omega)
 have := h i hi
 rw [fM h1, fM h2] at this
 rw [h1, h2]
 exact decide_eq_true this
theorem aCo {a b : List Int} (hl : a.length = b.length) (h : covB a b = true) : ∀ i : Nat, i < a.length → kc b i ≤ kc a i := fun i hi => by
 unfold covB at h
 rw [qP _ _ _ hl] at h
 have := List.all_eq_true.1 h i (List.mem_range.2 hi)
 have h1 : a[i]? = some (a[i]'hi) := List.getElem?_eq_getElem hi
 have h2 : b[i]? = some (b[i]'(by omega)) := List.getElem?_eq_getElem (by omega)
 rw [h1, h2] at this
 rw [fM h1, fM h2]
 exact of_decide_eq_true this
theorem aDa (S : bI p t L H) (hk : okTab p tab) : qO p H tab = true ↔ LeT (cN p H tab) tab ∧ ∀ (i : Nat) X (c : Nat), tab[i]? = some X → X.Chans[c]? = some 2 → kC p H (i : Int) (c : Int) = 1 := by
 have ok2 := jB (tab := tab) S
 have tl := hk.1
 have al := lR (p := p) (H := H) (tab := tab)
 have each : ∀ i : Nat, i < tab.length → ∃ X Y D, tab[i]? = some X ∧ (cN p H tab)[i]? = some Y ∧ idx p.Defs (i : Int) = some D ∧ lX D X ∧ lX D Y := fun i hi => by
  obtain ⟨D, hD⟩ := cH (xs := p.Defs) (i := (i : Int)) (by omega) (by omega)
  obtain ⟨X, hX, o1⟩ := kW hk hD
  obtain ⟨Y, hY, o2⟩ := kW ok2 hD
  exact ⟨X, Y, D, by have := bB hX; rwa [Int.toNat_natCast] at this, by have := bB hY; rwa [Int.toNat_natCast] at this, hD, o1, o2⟩
 unfold qO
 rw [List.all_eq_true]
 constructor
 ·intro h
  have at_ : ∀ i : Nat, i < tab.length → ∀ X Y, tab[i]? = some X → (cN p H tab)[i]? = some Y → accB p H X Y (i : Int) = true := fun i hi X Y h1 h2 => by
   have := h i (List.mem_range.2 hi)
   rwa [h1, h2] at this
  refine ⟨LeT.of ok2 hk fun d D Y X hD hY hX => ?_, fun i X c hX hc => ?_⟩
  ·have hd := eA hD
   have o1 := hk.2 _ _ _ hD hX
   have o2 := ok2.2 _ _ _ hD hY
   have q := at_ d.toNat (by omega) X Y (bB hX) (bB hY)
   unfold accB at q
   rw [Bool.and_eq_true, kz_cov (by rw [o1.args, o2.args]), Bool.and_eq_true, Bool.and_eq_true] at q
   obtain ⟨⟨q1, q2, q3⟩, _⟩ := q
   refine ⟨by rw [← o1.chans]; exact aCo (by rw [o1.chans, o2.chans]) q1, by rw [← o1.rules]; exact aCo (by rw [o1.rules, o2.rules]) q2, fun c a b ha hb i hi => ?_⟩
   have hc := (List.getElem?_eq_some_iff.1 hb).1
   have := List.all_eq_true.1 q3 c (List.mem_range.2 hc)
   rw [hb, ha] at this
   obtain ⟨ch, hch⟩ := kD (D := D) (c := c) (by rw [← o1.args]; exact hc)
   have m1 := o1.many _ _ _ hch (bE hb)
   have m2 := o2.many _ _ _ hch (bE ha)
   exact aCo (by omega) this i (by omega)
  ·have hi := (List.getElem?_eq_some_iff.1 hX).1
   obtain ⟨X', Y, D, h1, h2, hD, o1, o2⟩ := each i hi
   have q := at_ i hi X Y hX h2
   unfold accB at q
   rw [Bool.and_eq_true] at q
   have := List.all_eq_true.1 q.2 c (List.mem_range.2 (List.getElem?_eq_some_iff.1 hc).1)
   unfold oS at this
   rw [hc, Option.elim_some] at this
   simpa using this
 ·rintro ⟨hle, hon⟩ i hi
  have hi := List.mem_range.1 hi
  obtain ⟨X, Y, D, h1, h2, hD, o1, o2⟩ := each i hi
  rw [h1, h2]
  show accB p H X Y (i : Int) = true
  unfold accB
  rw [Bool.and_eq_true, kz_cov (by rw [o1.args, o2.args]), Bool.and_eq_true, Bool.and_eq_true]
  have a1 : eK tab (i : Int) = X.Chans := by unfold eK; rw [bE h1]; rfl
  have a2 : eK (cN p H tab) (i : Int) = Y.Chans := by unfold eK; rw [bE h2]; rfl
  have b1 : dR tab (i : Int) = X.Rules := by unfold dR; rw [bE h1]; rfl
  have b2 : dR (cN p H tab) (i : Int) = Y.Rules := by unfold dR; rw [bE h2]; rfl
  refine ⟨⟨aCr (by rw [o1.chans, o2.chans]) fun c _ => ?_, aCr (by rw [o1.rules, o2.rules]) fun c _ => ?_, ?_⟩, ?_⟩
  ·have := (hle (i : Int) (c : Int)).1; rwa [a1, a2] at this
  ·have := (hle (i : Int) (c : Int)).2.1; rwa [b1, b2] at this
  ·refine List.all_eq_true.2 fun c hc => ?_
   have hc := List.mem_range.1 hc
   have la := o1.args
   have lb := o2.args
   have g1 : X.Args[c]? = some (X.Args[c]'hc) := List.getElem?_eq_getElem hc
   have g2 : Y.Args[c]? = some (Y.Args[c]'(by omega)) := List.getElem?_eq_getElem (by omega)
   obtain ⟨ch, hch⟩ := kD (D := D) (c := c) (by omega)
   have m1 := o1.many _ _ _ hch (bE g1)
   have m2 := o2.many _ _ _ hch (bE g2)
   rw [g1, g2]
   refine aCr (by omega) fun j _ => ?_
   have := (hle (i : Int) (j : Int)).2.2 (c : Int)
   unfold jI at this
   dsimp only at this
   rw [bE h1, bE h2, bsm, bsm, bE g1, bE g2] at this
   exact this
  ·refine List.all_eq_true.2 fun c hc => ?_
   have hc := List.mem_range.1 hc
   have g1 : X.Chans[c]? = some (X.Chans[c]'hc) := List.getElem?_eq_getElem hc
   unfold oS
   rw [g1, Option.elim_some]
   by_cases y2 : X.Chans[c]'hc = 2
   ·rw [y2] at g1
    have := hon i X c h1 g1
    simp [this]
   ·simp [y2]
theorem aIf (S : bI p t L H) {R : List UsageDef} (g : pG p H R) (hR : cN p H R = R) : qO p H (gA p H R) = true := by
 obtain ⟨l1, l2⟩ := aC4 (H := H) g.ok
 refine (aDa S (tI g.ok)).2 ⟨?_, fun i X c hX hc => ?_⟩
 ·rw [aIb S l2 l1, hR]; exact l1
 ·have hi := (List.getElem?_eq_some_iff.1 hX).1
  rw [aBV] at hi
  have h1 : R[i]? = some (R[i]'hi) := List.getElem?_eq_getElem hi
  rw [zG h1] at hX
  cases hX
  have hc' := (List.getElem?_eq_some_iff.1 hc).1
  rw [fC] at hc hc'
  dsimp only at hc hc'
  rw [List.length_map, List.length_range] at hc'
  rw [iC hc'] at hc
  have e := Option.some.inj hc
  unfold gH at e
  split at e
  ·rename_i q; exact q.2
  ·have := (g.ku _ (List.mem_of_getElem? h1)).chans _ (List.mem_of_getElem? (zR hc'))
   rw [e] at this
   unfold kK at this; omega
end Go.Proofs.YtmnbfgeljmhekaaGreat
set_option maxRecDepth 100000
namespace Go.Proofs.YtmnbfgeljmhekaaGreat
open Go.SX Go.SW Go.Dt
variable {p : ScopeProg} {t : Usage_text} {L : bR} {H : Nat} {tab tab' : List UsageDef} {d n : Int} {e : E} {x : ScopeNode} {D : ScopeDef}
def cnW (k : Int) : Int := if k = 1 then 0 else if k = 2 ∨ k = 3 then 1 else 1000
theorem aFW (k : Int) : tS k = some (cnW k) := by
 unfold tS cnW
 by_cases h1 : k = 1
 ·rw [if_pos h1, if_pos h1]
 ·rw [if_neg h1, if_neg h1]
  by_cases h2 : k = 2
  ·rw [if_pos h2, bsm, decide_eq_true h2, cond_true, if_pos (.inl h2)]
  ·rw [if_neg h2, bsm]
   by_cases h3 : k = 3
   ·rw [decide_eq_true h3, cond_true, if_pos (.inr h3)]
   ·rw [decide_eq_false h3, cond_false, if_neg (by omega)]
theorem cn_mono {a b : Int} (ha : okK true a = true) (hb : okK true b = true) (h : cnt a ≤ cnt b) : cnW a ≤ cnW b := by
 simp only [okK, Bool.true_or, Bool.and_true, decide_eq_true_eq] at ha hb
 unfold cnt at h
 unfold cnW
 repeat' split
 all_goals first | omega | (split at h <;> split at h <;> omega) | (split at h <;> omega)
theorem okK_up {b : Bool} {k : Int} (h : okK b k = true) : okK true k = true := by
 unfold okK at *
 rw [Bool.and_eq_true] at h
 rw [h.1]; rfl
theorem ef_kind {a b : List Int} {w : Int × Int → Option Bool} (hl : a.length = b.length) (hB : a.length ≤ 2000000) (h : ∀ (i : Nat) x y, a[i]? = some x → b[i]? = some y → w (x, y) = some true) : wQ F a b w = some true := by
 rw [wQ, if_neg (fun q => q (by omega)), show nO a b w F 0 = some (.inl ()) from ?_, bsm]
 refine fO (fun k (s : Int) => nO a b w k s) a.length (fun i => (i : Int)) _ (fun k i hi => ?_) (fun k => ?_) (by show _ < 4000000; omega)
 ·have h1 : a[i]? = some (a[i]'hi) := List.getElem?_eq_getElem hi
  have h2 : b[i]? = some (b[i]'(by omega)) := List.getElem?_eq_getElem (by omega)
  rw [nO, if_pos (by omega), bE h1, bsm, bE h2, bsm, h i _ _ h1 h2, bsm, cond_true, aP (by omega), bsm]; rfl
 ·rw [nO, if_neg (by omega)]
theorem ef_args {a b : List (List Int)} {w : List Int × List Int → Option Bool} (hl : a.length = b.length) (hB : a.length ≤ 2000000) (h : ∀ (i : Nat) x y, a[i]? = some x → b[i]? = some y → w (x, y) = some true) : wS F a b w = some true := by
 rw [wS, if_neg (fun q => q (by omega)), show nA a b w F 0 = some (.inl ()) from ?_, bsm]
 refine fO (fun k (s : Int) => nA a b w k s) a.length (fun i => (i : Int)) _ (fun k i hi => ?_) (fun k => ?_) (by show _ < 4000000; omega)
 ·have h1 : a[i]? = some (a[i]'hi) := List.getElem?_eq_getElem hi
  have h2 : b[i]? = some (b[i]'(by omega)) := List.getElem?_eq_getElem (by omega)
  rw [nA, if_pos (by omega), bE h1, bsm, bE h2, bsm, h i _ _ h1 h2, bsm, cond_true, aP (by omega), bsm]; rfl
 ·rw [nA, if_neg (by omega)]
theorem ef_defs {a b : List UsageDef} {w : UsageDef × UsageDef → Option Bool} (hl : a.length = b.length) (hB : a.length ≤ 2000000) (h : ∀ (i : Nat) x y, a[i]? = some x → b[i]? = some y → w (x, y) = some true) : xS F a b w = some true := by
 rw [xS, if_neg (fun q => q (by omega)), show mW a b w F 0 = some (.inl ()) from ?_, bsm]
 refine fO (fun k (s : Int) => mW a b w k s) a.length (fun i => (i : Int)) _ (fun k i hi => ?_) (fun k => ?_) (by show _ < 4000000; omega)
 ·have h1 : a[i]? = some (a[i]'hi) := List.getElem?_eq_getElem hi
  have h2 : b[i]? = some (b[i]'(by omega)) := List.getElem?_eq_getElem (by omega)
  rw [mW, if_pos (by omega), bE h1, bsm, bE h2, bsm, h i _ _ h1 h2, bsm, cond_true, aP (by omega), bsm]; rfl
 ·rw [mW, if_neg (by omega)]
theorem aDb {a b : List Int} (hl : a.length = b.length) (hB : a.length ≤ 2000000) (ha : ∀ k ∈ a, okK true k = true) (hb : ∀ k ∈ b, okK true k = true) (h : ∀ i : Nat, i < a.length → kc a i ≤ kc b i) : pX F a b = some true := by
 rw [pX, ef_kind hl hB fun i x y hx hy => ?_, bsm]
 have := h i (List.getElem?_eq_some_iff.1 hx).1
 rw [fM hx, fM hy] at this
 show tY x y = _
 rw [tY, aFW, bsm, aFW, bsm, decide_eq_true (cn_mono (ha _ (List.mem_of_getElem? hx)) (hb _ (List.mem_of_getElem? hy)) this)]
theorem aD5 {X : UsageDef} (h : kin X = true) : (∀ k ∈ X.Chans, okK true k = true) ∧ (∀ k ∈ X.Rules, okK true k = true) ∧ ∀ a ∈ X.Args, ∀ k ∈ a, okK true k = true := by
 unfold kin at h
 rw [Bool.and_eq_true, Bool.and_eq_true] at h
 exact ⟨List.all_eq_true.1 h.1, fun k hk => okK_up (List.all_eq_true.1 h.2.1 k hk), fun a ha k hk => okK_up (List.all_eq_true.1 (List.all_eq_true.1 h.2.2 a ha) k hk)⟩
theorem aD8 (S : bI p t L H) (ha : okTab p tab) (hb : okTab p tab') (ka : ∀ X ∈ tab, kin X = true) (kb : ∀ X ∈ tab', kin X = true) (h : LeT tab tab') : vG F tab tab' = some true := by
 have l1 := ha.1
 have l2 := hb.1
 have dl := S.defs
 rw [vG, ef_defs (by omega) (by omega) fun i X Y hX hY => ?_, bsm]
 have hi := (List.getElem?_eq_some_iff.1 hX).1
 obtain ⟨D, hD⟩ := cH (xs := p.Defs) (i := (i : Int)) (by omega) (by omega)
 have ho := dT (S.okD hD)
 have o1 := ha.2 _ _ _ hD (bE hX)
 have o2 := hb.2 _ _ _ hD (bE hY)
 obtain ⟨k1, k2, k3⟩ := aD5 (ka _ (List.mem_of_getElem? hX))
 obtain ⟨k4, k5, k6⟩ := aD5 (kb _ (List.mem_of_getElem? hY))
 have a1 : eK tab (i : Int) = X.Chans := by unfold eK; rw [bE hX]; rfl
 have a2 : eK tab' (i : Int) = Y.Chans := by unfold eK; rw [bE hY]; rfl
 have b1 : dR tab (i : Int) = X.Rules := by unfold dR; rw [bE hX]; rfl
 have b2 : dR tab' (i : Int) = Y.Rules := by unfold dR; rw [bE hY]; rfl
 have c1 := o1.chans
 have c2 := o2.chans
 have c3 := o1.rules
 have c4 := o2.rules
 have c5 := o1.args
 have c6 := o2.args
 show tL F X Y = some true
 rw [tL, aDb (by omega) (by omega) k1 k4 (fun j _ => by have := (h (i : Int) (j : Int)).1; rwa [a1, a2] at this), bsm, cond_true, aDb (by omega) (by omega) k2 k5 (fun j _ => by have := (h (i : Int) (j : Int)).2.1; rwa [b1, b2] at this), bsm, cond_true,
  ef_args (by omega) (by omega) fun c a b hca hcb => ?_, bsm, bsm]
 have hc := (List.getElem?_eq_some_iff.1 hca).1
 obtain ⟨ch, hch⟩ := kD (D := D) (c := c) (by omega)
 have m1 := o1.many _ _ _ hch (bE hca)
 have m2 := o2.many _ _ _ hch (bE hcb)
 have m3 := ho.2.2.2.1 ch (dU hch)
 show pX F a b = some true
 refine aDb (by omega) (by omega) (k3 a (List.mem_of_getElem? hca)) (k6 b (List.mem_of_getElem? hcb)) fun j _ => ?_
 have := (h (i : Int) (j : Int)).2.2 (c : Int)
 unfold jI at this
 dsimp only at this
 rw [bE hX, bE hY, bsm, bsm, bE hca, bE hcb] at this
 exact this
theorem kK_ok {b : Bool} {k : Int} (h : kK k) : okK b k = true := by
 rcases h with rfl | rfl | rfl <;> cases b <;> rfl
theorem aF5 {R : List UsageDef} (hk : ∀ X ∈ R, KU X) : ∀ X ∈ gA p H R, kin X = true := fun X hX => by
 obtain ⟨i, hi, rfl⟩ := List.mem_iff_getElem.1 hX
 have hi' : i < R.length := by rwa [aBV] at hi
 have h1 : R[i]? = some (R[i]'hi') := List.getElem?_eq_getElem hi'
 have h2 := zG (p := p) (H := H) h1
 rw [List.getElem?_eq_getElem hi] at h2
 rw [Option.some.inj h2]
 have ku := hk _ (List.mem_of_getElem? h1)
 unfold kin
 rw [Bool.and_eq_true, Bool.and_eq_true]
 refine ⟨List.all_eq_true.2 fun k hk => ?_, List.all_eq_true.2 fun k hk => kK_ok (ku.rules k hk), List.all_eq_true.2 fun a ha => List.all_eq_true.2 fun k hk => kK_ok (ku.args a ha k hk)⟩
 rw [fC] at hk
 obtain ⟨c, hc, rfl⟩ := List.mem_map.1 hk
 have := ku.chans _ (List.mem_of_getElem? (zR (List.mem_range.1 hc)))
 unfold gH
 split
 ·rfl
 ·exact kK_ok this
theorem good_of (hk : okTab p tab) (ka : ∀ X ∈ tab, kin X = true) : jW p tab = true := by
 unfold jW
 have tl := hk.1
 rw [Bool.and_eq_true, Bool.and_eq_true]
 refine ⟨decide_eq_true tl, List.all_eq_true.2 fun q hq => ?_, List.all_eq_true.2 ka⟩
 obtain ⟨D, X⟩ := q
 obtain ⟨i, hi, he⟩ := List.mem_iff_getElem.1 hq
 have hi' := hi
 rw [List.length_zip] at hi'
 rw [List.getElem_zip] at he
 cases he
 have o := hk.2 _ _ _ (bE (List.getElem?_eq_getElem (by omega : i < p.Defs.length))) (bE (List.getElem?_eq_getElem (by omega : i < tab.length)))
 show iD _ _ = true
 unfold iD
 rw [Bool.and_eq_true]
 refine ⟨decide_eq_true ⟨o.chans, o.rules, o.args⟩, List.all_eq_true.2 fun q hq => ?_⟩
 obtain ⟨ch, a⟩ := q
 obtain ⟨j, hj, he⟩ := List.mem_iff_getElem.1 hq
 have hj' := hj
 rw [List.length_zip] at hj'
 dsimp only at hj'
 rw [List.getElem_zip] at he
 cases he
 exact decide_eq_true (o.many _ _ _ (bE (List.getElem?_eq_getElem (by omega))) (bE (List.getElem?_eq_getElem (by omega))))
theorem aGF (hp : SmP p) {s : VS} (h : eC p = some s) (t1 : oF F p = some t) (S : bI p t L p.Nodes.length) (hm : ∀ a ∈ tab, SmU a) : qY F p tab = some (if jW p tab = true then (qO p p.Nodes.length tab, 0) else (false, 2)) := by
 have hpp : (⟨p.Free, p.Nodes, p.Defs, p.Main⟩ : ScopeProg) = p := rfl
 rw [qY, hpp, aEs hp, h, show (if (some s : Option VS).isSome = true then (0 : Int) else 2) = 0 from rfl, bsm (a := (0 : Int)), if_neg (show ¬ (0 : Int) ≠ 0 from fun q => q rfl), t1, bsm (a := t), fine_eq (by rw [S.prog]; exact hp.defs) hm, S.prog, bsm (a := jW p tab)]
 cases hg : jW p tab with
 | false => rfl
 | true =>
  have hk := good_ok hg
  obtain ⟨a1, _⟩ := aEr S hk
  rw [cond_true, a1, bsm, if_pos rfl]
  exact aHj S hk hm
theorem aDi (hp : SmP p) {s : VS} (h : eC p = some s) (t1 : oF F p = some t) (S : bI p t L p.Nodes.length) : ∃ R, pG p p.Nodes.length R ∧ cN p p.Nodes.length R = R ∧ qT F p = some (gA p p.Nodes.length R, 0) := by
 have hpp : (⟨p.Free, p.Nodes, p.Defs, p.Main⟩ : ScopeProg) = p := rfl
 obtain ⟨R, g, hR, a, _⟩ := aGx S
 refine ⟨R, g, hR, ?_⟩
 rw [qT, hpp, aEs hp, h, show (if (some s : Option VS).isSome = true then (0 : Int) else 2) = 0 from rfl, bsm (a := (0 : Int)), if_neg (show ¬ (0 : Int) ≠ 0 from fun q => q rfl), t1, bsm (a := t)]
 exact a
end Go.Proofs.YtmnbfgeljmhekaaGreat
set_option maxRecDepth 100000
namespace Go.Proofs.YtmnbfgeljmhekaaGreat
open Go.SX Go.SW Go.Dt
variable {p q : ScopeProg}
def fG (x y : ScopeNode) : Prop := y.Op = x.Op ∧ y.N = x.N ∧ y.Args = x.Args ∧ (y.Kids = x.Kids ∨ (x.Op = 3 ∨ x.Op = 5) ∧ ∃ a b, x.Kids = [a, b] ∧ y.Kids = [b, a])
structure Rel (p q : ScopeProg) : Prop where
 free : q.Free = p.Free
 defs : q.Defs = p.Defs
 main : q.Main = p.Main
 len : q.Nodes.length = p.Nodes.length
 at_ : ∀ (i : Int) x, idx p.Nodes i = some x → ∃ y, idx q.Nodes i = some y ∧ fG x y
theorem fG.refl {x : ScopeNode} : fG x x := ⟨rfl, rfl, rfl, .inl rfl⟩
theorem fG.symm {x y : ScopeNode} (h : fG x y) : fG y x := by
 obtain ⟨a, b, c, d⟩ := h
 refine ⟨a.symm, b.symm, c.symm, ?_⟩
 rcases d with d | ⟨d, u, v, e, f⟩
 ·exact .inl d.symm
 ·exact .inr ⟨by rw [a]; exact d, v, u, f, e⟩
theorem fG.kids {x y : ScopeNode} (h : fG x y) : y.Kids.length = x.Kids.length := by
 rcases h.2.2.2 with d | ⟨_, u, v, e, f⟩
 ·rw [d]
 ·rw [e, f]; rfl
theorem fG.kid4 {x y : ScopeNode} (h : fG x y) (h3 : ¬ x.Op = 3) (h5 : ¬ x.Op = 5) : y.Kids = x.Kids := by
 rcases h.2.2.2 with d | ⟨d, _⟩
 ·exact d
 ·omega
theorem fG.same4 {x y : ScopeNode} (h : fG x y) (h4 : x.Op = 4) : y = x := by
 have k := h.kid4 (by omega) (by omega)
 obtain ⟨a, b, c, _⟩ := h
 cases x; cases y
 dsimp only at a b c k
 rw [a, b, c, k]
theorem Rel.symm (r : Rel p q) : Rel q p := ⟨r.free.symm, r.defs.symm, r.main.symm, r.len.symm, fun i y hy => by
 obtain ⟨x, hx⟩ := cH (xs := p.Nodes) (eA hy).1 (by have := (eA hy).2; have := r.len; omega)
 obtain ⟨y', hy', h⟩ := r.at_ i x hx
 rw [hy] at hy'; cases hy'
 exact ⟨x, hx, h.symm⟩⟩
theorem Rel.subs (r : Rel p q) {x y : ScopeNode} (h : fG x y) (e : E) : (Go.Proofs.YtmnbfgeljmhekaaGreat.subs q y e).Perm (Go.Proofs.YtmnbfgeljmhekaaGreat.subs p x e) := by
 unfold Go.Proofs.YtmnbfgeljmhekaaGreat.subs
 rw [h.1, h.2.1, r.defs]
 by_cases h4 : x.Op = 4
 ·rw [if_pos h4, if_pos h4, h.kid4 (by omega) (by omega)]
 ·rw [if_neg h4, if_neg h4]
  rcases h.2.2.2 with d | ⟨_, a, b, e1, e2⟩
  ·rw [d]
  ·rw [e1, e2]; exact List.Perm.swap _ _ _
theorem okT_rel (r : Rel p q) {x y : ScopeNode} (h : fG x y) {z : Int} (k : okT p x z) : okT q y z := by
 unfold okT at *
 rw [h.1, h.2.1, h.2.2.1, h.kids, r.defs]; exact k
theorem Rel.tr (r : Rel p q) : ∀ (h : Nat) (c : Int × E), Tr p h c → Tr q h c
 | 0, _, hT => hT.elim
 | h + 1, c, ⟨x, hx, h0, hO, hK⟩ => by
  obtain ⟨y, hy, hr⟩ := r.at_ _ x hx
  exact ⟨y, hy, h0, okT_rel r hr hO, fun k hk => r.tr h k (hK k ((r.subs hr c.2).mem_iff.1 hk))⟩
theorem aCx {α β : Type} {f g : α → List β} : ∀ l : List α, (∀ a ∈ l, (f a).Perm (g a)) → (l.flatMap f).Perm (l.flatMap g)
 | [], _ => List.Perm.refl _
 | a :: l, h => by
  rw [List.flatMap_cons, List.flatMap_cons]
  exact (h a (List.mem_cons_self ..)).append (aCx l fun b hb => h b (List.mem_cons_of_mem _ hb))
theorem Rel.ln (r : Rel p q) : ∀ (h : Nat) (c : Int × E), Tr p h c → (LN q h c).Perm (LN p h c)
 | 0, _, hT => hT.elim
 | h + 1, c, ⟨x, hx, h0, hO, hK⟩ => by
  obtain ⟨y, hy, hr⟩ := r.at_ _ x hx
  rw [LN, LN, hx, hy]
  exact ((r.subs hr c.2).flatMap_right _ |>.trans (aCx _ fun k hk => r.ln h k (hK k hk))).cons c
theorem Rel.hn (r : Rel p q) : ∀ (h : Nat) (c : Int × E), Tr p h c → (HN q h c).Perm (HN p h c)
 | 0, _, hT => hT.elim
 | h + 1, c, ⟨x, hx, h0, hO, hK⟩ => by
  obtain ⟨y, hy, hr⟩ := r.at_ _ x hx
  rw [HN, HN, hx, hy]
  dsimp only
  rw [hr.1, hr.2.1]
  exact (List.Perm.refl _).append ((r.subs hr c.2).flatMap_right _ |>.trans (aCx _ fun k hk => r.hn h k (hK k hk)))
theorem Rel.root (r : Rel p q) : Go.Proofs.YtmnbfgeljmhekaaGreat.root q = Go.Proofs.YtmnbfgeljmhekaaGreat.root p := by unfold Go.Proofs.YtmnbfgeljmhekaaGreat.root; rw [r.main, r.free]
theorem aIL {s : VS} {x : ScopeNode} {z : Int} (h : okN p s x z) : okN p (start p) x z := by
 obtain ⟨⟨k, c, h1, h2, h3⟩, h4⟩ := h
 refine ⟨⟨k, c, h1, h2, ?_⟩, h4⟩
 match c, h3 with
 | 0, h3 => exact h3
 | 1, h3 => exact h3
 | 2, h3 => exact h3
 | 3, h3 => exact h3
 | c + 4, h3 =>
  obtain ⟨⟨a, b, _⟩, d⟩ := h3
  refine ⟨⟨a, b, ?_⟩, d⟩
  obtain ⟨v, hv⟩ := cH (xs := (start p).dfs) a (by simp [start]; exact b)
  have := dU hv
  simp only [start, List.mem_replicate] at this
  rw [hv, this.2]
theorem shp4 {op : Int} {k c : Nat} (h : shp op = some (k, c + 4)) : op = 4 := by
 unfold shp at h
 repeat' split at h
 all_goals first | (cases h; done) | skip
 all_goals first | assumption | (cases h; done) | (cases h; assumption)
theorem okN_at {s : VS} {x : ScopeNode} {z : Int} (h : okN p (start p) x z) (hd : x.Op = 4 → idx s.dfs x.N = some false) : okN p s x z := by
 obtain ⟨⟨k, c, h1, h2, h3⟩, h4⟩ := h
 refine ⟨⟨k, c, h1, h2, ?_⟩, h4⟩
 match c, h1, h3 with
 | 0, _, h3 => exact h3
 | 1, _, h3 => exact h3
 | 2, _, h3 => exact h3
 | 3, _, h3 => exact h3
 | c + 4, h1, h3 => exact ⟨⟨h3.1.1, h3.1.2.1, hd (shp4 h1)⟩, h3.2⟩
theorem okN_rel (r : Rel p q) {x y : ScopeNode} (h : fG x y) {z : Int} (k : okN p (start p) x z) : okN q (start q) y z := by
 obtain ⟨⟨k, c, h1, h2, h3⟩, h4⟩ := k
 refine ⟨⟨k, c, by rw [h.1]; exact h1, by rw [h.kids]; exact h2, ?_⟩, by rw [h.2.2.1]; exact h4⟩
 have e : (start q).dfs = (start p).dfs := by unfold start; rw [r.defs]
 match c, h3 with
 | 0, h3 => unfold okM at *; rw [h.2.1, h.2.2.1]; exact h3
 | 1, h3 => unfold okM at *; rw [h.2.1, h.2.2.1]; exact h3
 | 2, h3 => unfold okM at *; rw [h.2.1, h.2.2.1]; exact h3
 | 3, h3 => unfold okM at *; rw [h.2.1, h.2.2.1]; exact h3
 | c + 4, h3 => unfold okM at *; rw [h.2.1, h.2.2.1, e, r.defs]; exact h3
theorem vis_okn {f : Nat} {s s' : VS} {n z : Int} (h : vis p (f + 1) s n z = some s') : ∃ x, idx p.Nodes n = some x ∧ okN p (start p) x z := by
 simp only [vis] at h
 split at h
 ·cases hx : idx p.Nodes n with
  | none => rw [hx] at h; cases h
  | some x =>
   rw [hx, bsm] at h
   split at h
   ·rename_i h2; exact ⟨x, rfl, aIL h2⟩
   ·cases h
 ·cases h
theorem aFf {f : Nat} (ih : ∀ (s s' : VS) (c : Int × E), vis p f s c.1 c.2.length = some s' → ∀ a ∈ LN p f c, ∃ x, idx p.Nodes a.1 = some x ∧ okN p (start p) x a.2.length) : ∀ (l : List (Int × E)) (s s' : VS), cJ (vis p f) s (l.map fun q => (q.1, (q.2.length : Int))) = some s' → ∀ a ∈ l.flatMap (LN p f), ∃ x, idx p.Nodes a.1 = some x ∧ okN p (start p) x a.2.length
 | [], _, _, _, a, ha => by cases ha
 | c :: l, s, s', h, a, ha => by
  simp only [List.map_cons, cJ] at h
  obtain ⟨s1, h1, h2⟩ := bind_some h
  rw [List.flatMap_cons] at ha
  rcases List.mem_append.1 ha with ha | ha
  ·exact ih s s1 c h1 a ha
  ·exact aFf ih l s1 s' h2 a ha
theorem aEZ : ∀ (f : Nat) (s s' : VS) (c : Int × E), vis p f s c.1 c.2.length = some s' → ∀ a ∈ LN p f c, ∃ x, idx p.Nodes a.1 = some x ∧ okN p (start p) x a.2.length
 | 0, s, s', c, h, a, ha => by cases ha
 | f + 1, s, s', c, h, a, ha => by
  obtain ⟨x, hx, ho⟩ := vis_okn h
  obtain ⟨x', hx', _, _, _, _, hv⟩ := aFq h
  rw [hx] at hx'; cases hx'
  rw [LN, hx] at ha
  cases ha with
  | head => exact ⟨x, hx, ho⟩
  | tail _ ha => exact aFf (aEZ f) _ _ _ hv a ha
theorem vis_make {f : Nat} {s : VS} {n : Int} {e : E} {x : ScopeNode} (hx : idx p.Nodes n = some x) (hm : idx s.met n = some false) (ho : okN p s x e.length) (hT : okT p x e.length) : vis p (f + 1) s n e.length = cJ (vis p f) (mark s n e.length x) ((subs p x e).map fun q => (q.1, (q.2.length : Int))) := by
 have l := eA hx
 simp only [vis]
 rw [if_pos ⟨l.1, l.2, hm⟩, hx, bsm, if_pos ho]
 by_cases h4 : x.Op = 4
 ·obtain ⟨_, _, d, hd, h5⟩ := pI hT h4
  rw [if_pos h4, hd, bsm, if_pos h5, subs, if_pos h4, hd, mark, if_pos h4]
  dsimp only
  rw [List.map_append, List.map_append, xO]
  have e1 : (d.Rules.map (fun r => (r.Node, ruE e x.N d r))).map (fun q => (q.1, (q.2.length : Int))) = d.Rules.map fun r => (r.Node, (e.length : Int) + own d + brs d.Chans r.Joins) := by
   rw [List.map_map]; exact List.map_congr_left fun r hr => by show (r.Node, ((ruE e x.N d r).length : Int)) = _; rw [zP h5 hr]
  have e2 : (d.Spots.map (fun y => (y.Node, inE e x.N d))).map (fun q => (q.1, (q.2.length : Int))) = d.Spots.map fun y => (y.Node, (e.length : Int) + own d) := by
   rw [List.map_map]; exact List.map_congr_left fun r hr => by show (r.Node, ((inE e x.N d).length : Int)) = _; rw [pO]
  have e3 : (x.Kids.map (fun y => (y, inE e x.N d))).map (fun q => (q.1, (q.2.length : Int))) = x.Kids.map fun y => (y, (e.length : Int) + own d) := by
   rw [List.map_map]; exact List.map_congr_left fun r hr => by show (r, ((inE e x.N d).length : Int)) = _; rw [pO]
  rw [e1, e2, e3]
  congr 1
  funext s1
  rw [xO]
 ·rw [if_neg h4, subs, if_neg h4, mark, if_neg h4, List.map_map]; rfl
structure mQ (s : VS) (N : List (Int × E)) (D : List (Int × Int)) : Prop where
 met : ∀ a ∈ N, idx s.met a.1 = some false
 dfs : ∀ a ∈ D, idx s.dfs a.1 = some false
 nn : (N.map (·.1)).Nodup
 dn : (D.map (·.1)).Nodup
theorem mQ.left {s : VS} {N N' : List (Int × E)} {D D' : List (Int × Int)} (h : mQ s (N ++ N') (D ++ D')) : mQ s N D := by
 have a := h.nn
 have b := h.dn
 rw [List.map_append, List.nodup_append] at a b
 exact ⟨fun x hx => h.met x (List.mem_append_left _ hx), fun x hx => h.dfs x (List.mem_append_left _ hx), a.1, b.1⟩
theorem mQ.after {s s1 : VS} {N N' : List (Int × E)} {D D' : List (Int × Int)} (h : mQ s (N ++ N') (D ++ D')) (c : Chg s s1 N D) : mQ s1 N' D' := by
 have a := h.nn
 have b := h.dn
 rw [List.map_append, List.nodup_append] at a b
 refine ⟨fun x hx => ?_, fun x hx => ?_, a.2.1, b.2.1⟩
 ·rw [(c.old x.1 fun q => a.2.2 _ q _ (List.mem_map.2 ⟨x, hx, rfl⟩) rfl).1]; exact h.met x (List.mem_append_right _ hx)
 ·rw [c.oldd x.1 fun q => b.2.2 _ q _ (List.mem_map.2 ⟨x, hx, rfl⟩) rfl]; exact h.dfs x (List.mem_append_right _ hx)
theorem aEU {h : Nat} (ih : ∀ (s : VS) (c : Int × E), Tr p h c → (∀ a ∈ LN p h c, ∃ x, idx p.Nodes a.1 = some x ∧ okN p (start p) x a.2.length) → mQ s (LN p h c) (HN p h c) → s.sz.length = s.met.length → ∃ s', vis p h s c.1 c.2.length = some s') : ∀ (l : List (Int × E)) (s : VS), (∀ k ∈ l, Tr p h k) → (∀ a ∈ l.flatMap (LN p h), ∃ x, idx p.Nodes a.1 = some x ∧ okN p (start p) x a.2.length) → mQ s (l.flatMap (LN p h)) (l.flatMap (HN p h)) → s.sz.length = s.met.length → ∃ s', cJ (vis p h) s (l.map fun q => (q.1, (q.2.length : Int))) = some s'
 | [], s, _, _, _, _ => ⟨s, rfl⟩
 | c :: l, s, hT, ho, hf, w => by
  rw [List.flatMap_cons] at ho hf
  rw [List.flatMap_cons] at hf
  obtain ⟨s1, e1⟩ := ih s c (hT c (List.mem_cons_self ..)) (fun a ha => ho a (List.mem_append_left _ ha)) hf.left w
  obtain ⟨ch, _⟩ := wR h s s1 c e1 w
  obtain ⟨s2, e2⟩ := aEU ih l s1 (fun k hk => hT k (List.mem_cons_of_mem _ hk)) (fun a ha => ho a (List.mem_append_right _ ha)) (hf.after ch) (by rw [ch.ls, ch.lm, w])
  exact ⟨s2, by simp only [List.map_cons, cJ]; rw [e1, bsm]; exact e2⟩
theorem aEv : ∀ (h : Nat) (s : VS) (c : Int × E), Tr p h c → (∀ a ∈ LN p h c, ∃ x, idx p.Nodes a.1 = some x ∧ okN p (start p) x a.2.length) → mQ s (LN p h c) (HN p h c) → s.sz.length = s.met.length → ∃ s', vis p h s c.1 c.2.length = some s'
 | 0, _, _, hT, _, _, _ => hT.elim
 | h + 1, s, (n, e), ⟨x, hx, h0, hO, hK⟩, ho, hf, w => by
  dsimp only at hx h0 hO hK
  have e1 : LN p (h + 1) (n, e) = [(n, e)] ++ (subs p x e).flatMap (LN p h) := by rw [LN]; dsimp only; rw [hx]; rfl
  have e2 : HN p (h + 1) (n, e) = (if x.Op = 4 then [(x.N, n)] else []) ++ (subs p x e).flatMap (HN p h) := by rw [HN]; dsimp only; rw [hx]
  rw [e1] at ho hf
  rw [e2] at hf
  have hm : idx s.met n = some false := hf.met _ (List.mem_append_left _ (List.mem_cons_self ..))
  have hd : x.Op = 4 → idx s.dfs x.N = some false := fun h4 => hf.dfs (x.N, n) (List.mem_append_left _ (by rw [if_pos h4]; exact List.mem_cons_self ..))
  obtain ⟨x', hx', hN⟩ := ho _ (List.mem_append_left _ (List.mem_cons_self ..))
  dsimp only at hx' hN
  rw [hx] at hx'; cases hx'
  have c := aDI (e := e) h0 hm hd w
  rw [vis_make hx hm (okN_at hN hd) hO]
  exact aEU (aEv h) _ _ hK (fun a ha => ho a (List.mem_append_right _ ha)) (hf.after c) (by rw [c.ls, c.lm, w])
theorem Rel.chk (r : Rel p q) {s : VS} (h : eC p = some s) : ∃ s', eC q = some s' := by
 obtain ⟨H, h1, h2, h3, h4, hT, hl, hn, hd, hz, hall, hdef⟩ := yF h
 unfold eC at h
 split at h
 ·rename_i hb
  obtain ⟨s1, v1, h⟩ := bind_some h
  have e1 : (p.Free.length : Int) = ((Go.Proofs.YtmnbfgeljmhekaaGreat.root p).2.length : Int) := by simp [Go.Proofs.YtmnbfgeljmhekaaGreat.root]
  rw [e1, h1] at v1
  have al := aEZ _ _ _ (Go.Proofs.YtmnbfgeljmhekaaGreat.root p) v1
  obtain ⟨cp, _⟩ := wR H (start p) s1 (Go.Proofs.YtmnbfgeljmhekaaGreat.root p) v1 (by simp [start])
  have pl := r.ln H _ hT
  have ph := r.hn H _ hT
  have tq := r.tr H _ hT
  have fr : mQ (start q) (LN q H (Go.Proofs.YtmnbfgeljmhekaaGreat.root p)) (HN q H (Go.Proofs.YtmnbfgeljmhekaaGreat.root p)) := by
   refine ⟨fun a ha => ?_, fun a ha => ?_, (pl.map _).nodup_iff.2 hn, (ph.map _).nodup_iff.2 hd⟩
   ·rw [show (start q).met = (start p).met from by unfold start; rw [r.len]]; exact (cp.new a (pl.mem_iff.1 ha)).1
   ·rw [show (start q).dfs = (start p).dfs from by unfold start; rw [r.defs]]; exact (cp.newd a (ph.mem_iff.1 ha)).1
  obtain ⟨s', v2⟩ := aEv H (start q) _ tq (fun a ha => by
   obtain ⟨x, hx, ho⟩ := al a (pl.mem_iff.1 ha)
   obtain ⟨y, hy, hr⟩ := r.at_ _ x hx
   exact ⟨y, hy, okN_rel r hr ho⟩) fr (by simp [start])
  obtain ⟨c, _⟩ := wR H (start q) s' _ v2 (by simp [start])
  refine ⟨s', ?_⟩
  unfold eC
  rw [r.free, r.len, r.defs, if_pos hb, r.main, h1, e1, show vis q H (start q) p.Main ((Go.Proofs.YtmnbfgeljmhekaaGreat.root p).2.length : Int) = some s' from v2, bsm, if_pos]
  constructor
  ·refine List.all_eq_true.2 fun b hb' => ?_
   obtain ⟨i, hi, rfl⟩ := List.mem_iff_getElem.1 hb'
   have li : i < p.Nodes.length := by have := c.lm; simp [start, r.len] at this; omega
   obtain ⟨e, he⟩ := hall (i : Int) (by omega) (by omega)
   have := (c.new _ (pl.mem_iff.2 he)).2.1
   rw [bE (List.getElem?_eq_getElem hi)] at this
   rw [Option.some.inj this]; rfl
  ·refine List.all_eq_true.2 fun b hb' => ?_
   obtain ⟨i, hi, rfl⟩ := List.mem_iff_getElem.1 hb'
   have at_ : idx s'.dfs (i : Int) = some (s'.dfs[i]'hi) := bE (List.getElem?_eq_getElem hi)
   by_cases hm : (i : Int) ∈ (HN q H (Go.Proofs.YtmnbfgeljmhekaaGreat.root p)).map (·.1)
   ·obtain ⟨a, ha, e⟩ := List.mem_map.1 hm
    have := (c.newd a ha).2
    rw [e, at_] at this
    rw [Option.some.inj this]; rfl
   ·have o := c.oldd _ hm
    rw [at_] at o
    have := eA o.symm
    simp only [start, List.length_replicate, r.defs] at this
    obtain ⟨n, hn'⟩ := hdef (i : Int) this.1 this.2
    exact absurd (List.mem_map.2 ⟨_, ph.mem_iff.2 hn', rfl⟩) hm
 ·cases h
end Go.Proofs.YtmnbfgeljmhekaaGreat
set_option maxRecDepth 100000
namespace Go.Proofs.YtmnbfgeljmhekaaGreat
open Go.SX Go.SW Go.Dt
variable {p q : ScopeProg} {t t' : Usage_text} {L L' : bR} {H : Nat} {tab : List UsageDef}
theorem fG.kid0 {x y : ScopeNode} (h : fG x y) : eS y 0 = eS x 0 ∧ eS y 1 = eS x 1 ∨ (x.Op = 3 ∨ x.Op = 5) ∧ eS y 0 = eS x 1 ∧ eS y 1 = eS x 0 := by
 rcases h.2.2.2 with d | ⟨h1, a, b, e1, e2⟩
 ·left; unfold eS; rw [d]; exact ⟨rfl, rfl⟩
 ·right; unfold eS; rw [e1, e2]; exact ⟨h1, rfl, rfl⟩
theorem aHU (r : Rel p q) {x y : ScopeNode} (h : fG x y) (f : Int × E → Int) (e : E) (v : Int) : gW q tab f y e v = gW p tab f x e v := by
 unfold gW
 rw [h.1]
 by_cases h2 : x.Op = 2
 ·rw [if_pos h2, if_pos h2]; unfold pL mB; rw [h.2.1, h.2.2.1, r.defs]
 rw [if_neg h2, if_neg h2]
 by_cases h3 : x.Op = 3
 ·rw [if_pos h3, if_pos h3]
  rcases h.kid0 with ⟨a, b⟩ | ⟨_, a, b⟩ <;> rw [a, b]
  rw [Int.add_comm]
 rw [if_neg h3, if_neg h3]
 by_cases h5 : x.Op = 5
 ·rw [if_pos h5, if_pos h5]
  rcases h.kid0 with ⟨a, b⟩ | ⟨_, a, b⟩ <;> rw [a, b]
  rw [Int.max_comm]
 rw [if_neg h5, if_neg h5, r.defs, h.2.1]
 have k := h.kid4 h3 h5
 unfold gG eS
 rw [h.2.1, k]
theorem Rel.snd_le (r : Rel p q) {v : Int} : ∀ (h : Nat) (c : Int × E), Tr p h c → dB p tab v h c ≤ dB q tab v h c
 | 0, _, hT => hT.elim
 | h + 1, c, ⟨x, hx, h0, hO, hK⟩ => by
  obtain ⟨y, hy, hr⟩ := r.at_ _ x hx
  rw [dB, dB, hx, hy]
  dsimp only
  rw [aHU r hr]
  exact (tK LeT.rfl hO fun k hk => ⟨iA h k (hK k hk), iA h k (r.tr h k (hK k hk)), r.snd_le h k (hK k hk)⟩).1
theorem Rel.snd (r : Rel p q) {v : Int} (h : Nat) (c : Int × E) (hT : Tr p h c) : dB q tab v h c = dB p tab v h c := Int.le_antisymm (r.symm.snd_le h c (r.tr h c hT)) (r.snd_le h c hT)
theorem aJs {x : ScopeNode} {D : ScopeDef} {e : E} {f g : Int × E → Int} (h4 : x.Op = 4) (hd : idx p.Defs x.N = some D) (h1 : x.Kids.length = 1) (hs : ∀ k ∈ subs p x e, two (f k) ∧ g k = f k) : gG tab x D e g = gG tab x D e f :=
 Int.le_antisymm (xI LeT.rfl h4 hd h1 fun k hk => ⟨by rw [(hs k hk).2]; exact (hs k hk).1, (hs k hk).1, by rw [(hs k hk).2]; exact Int.le_refl _⟩).1 (xI LeT.rfl h4 hd h1 fun k hk => ⟨(hs k hk).1, by rw [(hs k hk).2]; exact (hs k hk).1, by rw [(hs k hk).2]; exact Int.le_refl _⟩).1
theorem aFC {ru : List Int} {f g : ScopeRule → Int → Int} {b c i : Int} {D : ScopeDef} : ∀ (l : List ScopeRule) (k w : Int), (∀ r ∈ l, f r = g r) → fB ru b f D c i l k w = fB ru b g D c i l k w
 | [], _, _, _ => rfl
 | r :: l, k, w, h => by
  rw [fB, fB, h r (List.mem_cons_self ..)]
  exact aFC l _ _ fun z hz => h z (List.mem_cons_of_mem _ hz)
theorem aG3 (r : Rel p q) {x y : ScopeNode} (h : fG x y) (f : Int × E → Int) (e : E) (v : Int) : iW q f y e v = iW p f x e v := by
 unfold iW
 rw [h.1]
 by_cases h2 : x.Op = 2
 ·rw [if_pos h2, if_pos h2]
  unfold surW mB
  rw [h.2.1, h.2.2.1, r.defs]
 rw [if_neg h2, if_neg h2]
 by_cases h3 : x.Op = 3
 ·rw [if_pos h3, if_pos h3]
  rcases h.kid0 with ⟨a, b⟩ | ⟨_, a, b⟩ <;> rw [a, b]
  rw [Int.add_comm]
 rw [if_neg h3, if_neg h3]
 by_cases h5 : x.Op = 5
 ·rw [if_pos h5, if_pos h5]
  rcases h.kid0 with ⟨a, b⟩ | ⟨_, a, b⟩ <;> rw [a, b]
  rw [Int.min_comm]
 rw [if_neg h5, if_neg h5, r.defs, h.2.1]
 have k := h.kid4 h3 h5
 unfold mE eS
 rw [h.2.1, k]
theorem Rel.sur (r : Rel p q) {v : Int} : ∀ (h : Nat) (c : Int × E), Tr p h c → iK q v h c = iK p v h c
 | 0, _, hT => hT.elim
 | h + 1, c, ⟨x, hx, h0, hO, hK⟩ => by
  obtain ⟨y, hy, hr⟩ := r.at_ _ x hx
  rw [iK, iK, hx, hy]
  dsimp only
  rw [aG3 r hr]
  exact aDO hO fun k hk => r.sur h k (hK k hk)
theorem Rel.head (r : Rel p q) (S : bI p t L H) {d m : Int} {e : E} {x : ScopeNode} {D : ScopeDef} (h : dQ p H d m e x D) : dQ q H d m e x D := by
 obtain ⟨y, hy, hr⟩ := r.at_ _ x h.hx
 obtain rfl := hr.same4 h.op
 exact ⟨by rw [r.root]; exact (r.ln H _ S.tr).mem_iff.2 h.ln, by rw [r.root]; exact (r.hn H _ S.tr).mem_iff.2 h.hn, hy, h.op, h.hN, by rw [r.defs]; exact h.hD, h.ok, h.kid⟩
theorem Rel.all (r : Rel p q) (S : bI p t L H) (S' : bI q t' L' H) : cN q H tab = cN p H tab := by
 have l1 := lR (p := p) (H := H) (tab := tab)
 have l2 := lR (p := q) (H := H) (tab := tab)
 rw [r.defs] at l2
 apply List.ext_getElem?
 intro i
 by_cases hi : i < p.Defs.length
 ·obtain ⟨D, hD⟩ := cH (xs := p.Defs) (i := (i : Int)) (by omega) (by omega)
  obtain ⟨m, e, x, hh, ha⟩ := rF S hD
  have hq := r.head S hh
  have b := aAM (tab := tab) S' (d := i) (by rw [r.defs]; exact hi) hq
  have a := ha tab
  have eq : dZ q tab (i : Int) x D e = dZ p tab (i : Int) x D e := by
   obtain ⟨_, hs⟩ := S.subs hh.ln hh.hx
   have sm : ∀ k ∈ LN p H (Go.Proofs.YtmnbfgeljmhekaaGreat.root p), ∀ v, Go.Proofs.YtmnbfgeljmhekaaGreat.snd q tab k v = Go.Proofs.YtmnbfgeljmhekaaGreat.snd p tab k v := fun k hk v => r.snd 60 k (S.tr60 hk)
   have e1 : (fun c : Nat => dY (gG tab x D e fun k => Go.Proofs.YtmnbfgeljmhekaaGreat.snd q tab k ((e.length : Int) + (c : Int)))) = fun c : Nat => dY (gG tab x D e fun k => Go.Proofs.YtmnbfgeljmhekaaGreat.snd p tab k ((e.length : Int) + (c : Int))) :=
    funext fun c => congrArg dY (aJs hh.op (by rw [hh.hN]; exact hh.hD) hh.kid fun k hk => ⟨iA 60 k (S.tr60 (hs k hk)), sm k (hs k hk) _⟩)
   have e3 : (fun c : Nat => (List.range (mny D (c : Int)).toNat).map fun i' : Nat => dY (fB (dR tab (i : Int)) ((e.length : Int) + (D.Chans.length : Int) + (D.Spots.length : Int)) (fun r v => Go.Proofs.YtmnbfgeljmhekaaGreat.snd q tab (r.Node, ruE e (i : Int) D r) v) D (c : Int) (i' : Int) D.Rules 0 0)) = fun c : Nat => (List.range (mny D (c : Int)).toNat).map fun i' : Nat => dY (fB (dR tab (i : Int)) ((e.length : Int) + (D.Chans.length : Int) + (D.Spots.length : Int)) (fun r v => Go.Proofs.YtmnbfgeljmhekaaGreat.snd p tab (r.Node, ruE e (i : Int) D r) v) D (c : Int) (i' : Int) D.Rules 0 0) :=
    funext fun c => congrArg (fun g => (List.range (mny D (c : Int)).toNat).map g) (funext fun i' => congrArg dY (aFC _ _ _ fun r' hr' => funext fun v => sm _ (wW S hh hr') v))
   unfold dZ
   rw [e1, e3]
  rw [eq] at b
  have a' := bB a
  have b' := bB b
  rw [Int.toNat_natCast] at a' b'
  rw [a', b']
 ·rw [List.getElem?_eq_none (by omega), List.getElem?_eq_none (by omega)]
theorem Rel.beg (r : Rel p q) (S : bI p t L H) (S' : bI q t' L' H) {d m c : Int} {e : E} {x : ScopeNode} {D : ScopeDef} (hh : dQ p H d m e x D) : kC q H d c = kC p H d c := by
 obtain ⟨_, hs⟩ := S.subs hh.ln hh.hx
 rw [aBm S' (r.head S hh), aBm S hh]
 exact aCu hh.op (by rw [hh.hN]; exact hh.hD) hh.kid fun k hk => r.sur 60 k (S.tr60 (hs k hk))
theorem Rel.okTab (r : Rel p q) (k : Go.Proofs.YtmnbfgeljmhekaaGreat.okTab p tab) : Go.Proofs.YtmnbfgeljmhekaaGreat.okTab q tab := by unfold Go.Proofs.YtmnbfgeljmhekaaGreat.okTab at *; rwa [r.defs]
theorem Rel.low (r : Rel p q) (S : bI p t L H) (S' : bI q t' L' H) {R R' : List UsageDef} (g : pG p H R) (g' : pG q H R') (e' : cN q H R' = R') : LeT (gA p H R) (gA q H R') := by
 have low : LeT R R' := g.low R' (r.symm.okTab g'.ok) (by rw [← r.all S S', e']; exact LeT.rfl)
 obtain ⟨_, l2⟩ := aC4 (H := H) g.ok
 obtain ⟨l3, _⟩ := aC4 (H := H) g'.ok
 exact (l2.trans low).trans l3
theorem Rel.accepted (r : Rel p q) (S : bI p t L H) (S' : bI q t' L' H) {R : List UsageDef} (g : pG p H R) (hR : cN p H R = R) : qO q H (gA p H R) = true := by
 have ok := tI (H := H) g.ok
 obtain ⟨a, b⟩ := (aDa S ok).1 (aIf S g hR)
 refine (aDa S' (r.okTab ok)).2 ⟨by rw [r.all S S']; exact a, fun i X c hX hc => ?_⟩
 have hi := (List.getElem?_eq_some_iff.1 hX).1
 have l := ok.1
 obtain ⟨D, hD⟩ := cH (xs := p.Defs) (i := (i : Int)) (by omega) (by omega)
 obtain ⟨m, e, x, hh, _⟩ := rF S hD
 rw [r.beg S S' hh]
 exact b i X c hX hc
end Go.Proofs.YtmnbfgeljmhekaaGreat
set_option maxRecDepth 100000
namespace Go.Proofs.YtmnbfgeljmhekaaGreat
open Go.SX Go.SW Go.Dt
variable {p q : ScopeProg} {t t' : Usage_text} {L L' : bR} {H H' : Nat} {tab tab' : List UsageDef}
structure iL (p q : ScopeProg) (n : Int) (y : ScopeNode) (N : Int) : Prop where
 defs : q.Defs = p.Defs
 main : q.Main = p.Main
 free : q.Free = p.Free
 at_ : idx p.Nodes n = some y
 copy : idx q.Nodes N = some y
 par : idx q.Nodes n = some ⟨3, 0, [], [N, N + 1]⟩
 same : ∀ m, m ≠ n → ∀ x, idx p.Nodes m = some x → idx q.Nodes m = some x
theorem aCi (h : q.Defs = p.Defs) (x : ScopeNode) (e : E) : subs q x e = subs p x e := by unfold subs; rw [h]
theorem aHV (h : q.Defs = p.Defs) (f : Int × E → Int) (x : ScopeNode) (e : E) (v : Int) : gW q tab f x e v = gW p tab f x e v := by unfold gW pL mB; rw [h]
variable {n N : Int} {y : ScopeNode}
theorem iL.kids (b : iL p q n y N) {h : Nat} {e : E} (hT : Tr q (h + 1) (n, e)) : Tr q h (N, e) ∧ Tr q h (N + 1, e) ∧ (N, e) ∈ subs q (⟨3, 0, [], [N, N + 1]⟩ : ScopeNode) e := by
 obtain ⟨x, hx, _, _, hK⟩ := hT
 dsimp only at hx hK
 rw [b.par] at hx; cases hx
 have e1 : subs q (⟨3, 0, [], [N, N + 1]⟩ : ScopeNode) e = [(N, e), (N + 1, e)] := rfl
 rw [e1] at hK ⊢
 exact ⟨hK _ (List.mem_cons_self ..), hK _ (List.mem_cons_of_mem _ (List.mem_cons_self ..)), List.mem_cons_self ..⟩
theorem iL.go (b : iL p q n y N) {h : Nat} {m : Int} {e : E} {x : ScopeNode} (hx : idx p.Nodes m = some x) (hT : Tr q (h + 1) (m, e)) : ∃ k g, (g = h ∧ k = m ∨ g + 1 = h ∧ k = N ∧ m = n) ∧ idx q.Nodes k = some x ∧ Tr q (g + 1) (k, e) ∧ ∀ c ∈ subs p x e, Tr q g c := by
 by_cases hm : m = n
 ·subst hm
  obtain ⟨k1, _, _⟩ := b.kids hT
  obtain _ | g := h
  ·exact k1.elim
  have hy := b.at_
  rw [hx] at hy; cases hy
  have k1' := k1
  obtain ⟨x', hx', _, _, hK⟩ := k1
  dsimp only at hx' hK
  rw [b.copy] at hx'; cases hx'
  rw [aCi b.defs] at hK
  exact ⟨N, g, .inr ⟨rfl, rfl, rfl⟩, b.copy, k1', hK⟩
 ·have hT' := hT
  obtain ⟨x', hx', _, _, hK⟩ := hT
  dsimp only at hx' hK
  have := b.same m hm x hx
  rw [this] at hx'; cases hx'
  rw [aCi b.defs] at hK
  exact ⟨m, h, .inl ⟨rfl, rfl⟩, this, hT', hK⟩
theorem iL.snd {n N : Int} {y : ScopeNode} (b : iL p q n y N) {v : Int} : ∀ (h h' : Nat) (c : Int × E), Tr p h c → Tr q h' c → dB p tab v h c ≤ dB q tab v h' c
 | 0, _, c, hT, _ => hT.elim
 | h + 1, 0, c, _, hT => hT.elim
 | h + 1, h' + 1, (m, e), ⟨x, hx, h0, hO, hK⟩, hT => by
  dsimp only at hx hO hK
  obtain ⟨k, g, hg, hk, hTk, hKq⟩ := b.go hx hT
  have le : ∀ c ∈ subs p x e, two (dB p tab v h c) ∧ two (dB q tab v g c) ∧ dB p tab v h c ≤ dB q tab v g c := fun c hc => ⟨iA h c (hK c hc), iA g c (hKq c hc), b.snd h g c (hK c hc) (hKq c hc)⟩
  have main : dB p tab v (h + 1) (m, e) ≤ dB q tab v (g + 1) (k, e) := by
   rw [dB, dB]
   dsimp only
   rw [hx, hk]
   dsimp only
   rw [aHV b.defs]
   exact (tK LeT.rfl hO le).1
  rcases hg with ⟨e1, e2⟩ | ⟨e1, e2, e3⟩
  ·rw [e1, e2] at main; exact main
  ·refine Int.le_trans main ?_
   rw [e3] at hT ⊢
   obtain ⟨k1, k2, _⟩ := b.kids hT
   rw [← e1] at k1 k2 ⊢
   rw [e2]
   have w1 := iA (tab := tab) (v := v) _ _ k1
   have w2 := iA (tab := tab) (v := v) _ _ k2
   have : dB q tab v (g + 1 + 1) (n, e) = min (dB q tab v (g + 1) (N, e) + dB q tab v (g + 1) (N + 1, e)) 2 := by
    rw [dB]
    dsimp only
    rw [b.par]
    rfl
   rw [this]
   unfold two at w1 w2
   omega
theorem iL.tree {n N : Int} {y : ScopeNode} (b : iL p q n y N) : ∀ (h h' : Nat) (c : Int × E), Tr p h c → Tr q h' c → ∀ a ∈ LN p h c, ∃ g, g ≤ h' ∧ Tr q g a ∧ ∀ x, idx p.Nodes a.1 = some x → ∃ k, idx q.Nodes k = some x ∧ (k, a.2) ∈ LN q h' c
 | 0, _, c, hT, _, _, _ => hT.elim
 | h + 1, 0, c, _, hT, _, _ => hT.elim
 | h + 1, h' + 1, (m, e), ⟨x, hx, h0, hO, hK⟩, hT, a, ha => by
  dsimp only at hx hO hK
  simp only [LN, hx] at ha
  obtain ⟨k, g, hg, hk, hTk, hKq⟩ := b.go hx hT
  have inN : ∀ c ∈ LN q (g + 1) (k, e), c ∈ LN q (h' + 1) (m, e) := fun c hc => by
   rcases hg with ⟨e1, e2⟩ | ⟨e1, e2, e3⟩
   ·rw [e1, e2] at hc; exact hc
   ·rw [e3] at hT ⊢
    rw [LN]
    dsimp only
    rw [b.par]
    rw [e1, e2] at hc
    exact List.mem_cons_of_mem _ (List.mem_flatMap.2 ⟨(N, e), (b.kids hT).2.2, hc⟩)
  cases ha with
  | head =>
   refine ⟨h' + 1, Nat.le_refl _, hT, fun x' hx' => ⟨k, ?_, inN _ (by rw [LN]; exact List.mem_cons_self ..)⟩⟩
   rw [hx] at hx'; cases hx'; exact hk
  | tail _ ha =>
   obtain ⟨c, hc, ha⟩ := List.mem_flatMap.1 ha
   obtain ⟨g', l1, l2, l3⟩ := b.tree h g c (hK c hc) (hKq c hc) a ha
   refine ⟨g', by rcases hg with ⟨rfl, _⟩ | ⟨rfl, _⟩ <;> omega, l2, fun x' hx' => ?_⟩
   obtain ⟨k', a1, a2⟩ := l3 x' hx'
   refine ⟨k', a1, inN _ ?_⟩
   rw [LN]
   dsimp only
   rw [hk]
   dsimp only
   rw [aCi b.defs]
   exact List.mem_cons_of_mem _ (List.mem_flatMap.2 ⟨c, hc, a2⟩)
theorem ln_hn : ∀ (h : Nat) (c : Int × E), ∀ a ∈ LN p h c, ∀ x, idx p.Nodes a.1 = some x → x.Op = 4 → (x.N, a.1) ∈ HN p h c
 | 0, c, a, ha, _, _, _ => by cases ha
 | h + 1, c, a, ha, x, hx, h4 => by
  rw [LN] at ha
  cases ha with
  | head => rw [HN, hx]; dsimp only; rw [if_pos h4]; exact List.mem_append_left _ (List.mem_cons_self ..)
  | tail _ ha =>
   cases hc : idx p.Nodes c.1 with
   | none => rw [hc] at ha; cases ha
   | some z =>
    rw [hc] at ha
    dsimp only at ha
    obtain ⟨k, hk, ha⟩ := List.mem_flatMap.1 ha
    rw [HN, hc]
    exact List.mem_append_right _ (List.mem_flatMap.2 ⟨k, hk, ln_hn h k a ha x hx h4⟩)
theorem aBs (b : iL p q n y N) : root q = root p := by unfold root; rw [b.main, b.free]
theorem iL.head (b : iL p q n y N) (S : bI p t L H) (S' : bI q t' L' H') {d m : Int} {e : E} {x : ScopeNode} {D : ScopeDef} (h : dQ p H d m e x D) : ∃ k, dQ q H' d k e x D := by
 have tq := S'.tr
 rw [aBs b] at tq
 obtain ⟨_, _, _, g⟩ := b.tree H H' (root p) S.tr tq _ h.ln
 obtain ⟨k, k1, k2⟩ := g x h.hx
 rw [← aBs b] at k2
 have := ln_hn H' (root q) _ k2 x k1 h.op
 rw [h.hN] at this
 exact ⟨k, k2, this, k1, h.op, h.hN, by rw [b.defs]; exact h.hD, h.ok, h.kid⟩
theorem iL.both (b : iL p q n y N) (S : bI p t L H) (S' : bI q t' L' H') {c : Int × E} (hc : c ∈ LN p H (root p)) (v : Int) : two (Go.Proofs.YtmnbfgeljmhekaaGreat.snd p tab c v) ∧ two (Go.Proofs.YtmnbfgeljmhekaaGreat.snd q tab c v) ∧ Go.Proofs.YtmnbfgeljmhekaaGreat.snd p tab c v ≤ Go.Proofs.YtmnbfgeljmhekaaGreat.snd q tab c v := by
 have tq := S'.tr
 rw [aBs b] at tq
 obtain ⟨g, g1, g2, _⟩ := b.tree H H' (root p) S.tr tq c hc
 have tp := S.tr60 hc
 have tq := Tr.up g 60 c (by have := S'.low; omega) g2
 exact ⟨iA 60 c tp, iA 60 c tq, b.snd 60 60 c tp tq⟩
theorem aGB (h : q.Defs = p.Defs) (k : okTab q tab) : okTab p tab := by unfold okTab at *; rwa [h] at k
theorem iL.all (b : iL p q n y N) (S : bI p t L H) (S' : bI q t' L' H') : LeT (cN p H tab) (cN q H' tab) := by
 refine LeT.of (jB S) (aGB b.defs (jB S')) fun d D X Y hD hX hY => ?_
 obtain ⟨m, e, x, hh, ha⟩ := rF S hD
 obtain ⟨k, hk⟩ := b.head S S' hh
 obtain ⟨k', e', x', hk', ha'⟩ := rF S' (d := d) (D := D) (by rw [b.defs]; exact hD)
 obtain ⟨_, rfl, rfl, _⟩ := hk'.uniq S' hk
 rw [ha] at hX
 rw [ha'] at hY
 cases hX; cases hY
 obtain ⟨_, hs⟩ := S.subs hh.ln hh.hx
 refine ⟨fun c hc => ?_, fun c hc => Int.le_refl _, fun c a' b' h1 h2 i hi => ?_⟩
 ·obtain ⟨u, w⟩ := xI (LeT.rfl (t := tab)) (f := fun k => Go.Proofs.YtmnbfgeljmhekaaGreat.snd p tab k ((e'.length : Int) + (c : Int))) (g := fun k => Go.Proofs.YtmnbfgeljmhekaaGreat.snd q tab k ((e'.length : Int) + (c : Int))) hh.op (by rw [hh.hN]; exact hh.hD) hh.kid fun k hk => b.both S S' (hs k hk) _
  have w' := (aBJ S' (LeT.rfl (t := tab)) hk ((e'.length : Int) + (c : Int))).2
  rw [dZ, dZ, fM (iC hc), fM (iC hc), nY w, nY w']; exact u
 ·have hc : c < D.Chans.length := by have := (List.getElem?_eq_some_iff.1 h1).1; simpa [dZ] using this
  rw [dZ] at h1 h2
  dsimp only at h1 h2
  rw [iC hc] at h1 h2
  cases h1; cases h2
  rw [List.length_map, List.length_range] at hi
  obtain ⟨u, w⟩ := yB (D := D) (fun i => Int.le_refl (kc (dR tab d) i)) (b := (e'.length : Int) + (D.Chans.length : Int) + (D.Spots.length : Int)) (c := (c : Int)) (i := (i : Int)) (f := fun r v => Go.Proofs.YtmnbfgeljmhekaaGreat.snd p tab (r.Node, ruE e' d D r) v) (g := fun r v => Go.Proofs.YtmnbfgeljmhekaaGreat.snd q tab (r.Node, ruE e' d D r) v) D.Rules 0 0 0 (fun r hr v => b.both S S' (wW S hh hr) v) (by unfold two; omega) (by unfold two; omega) (Int.le_refl _)
  obtain ⟨_, w'⟩ := yB (D := D) (fun i => Int.le_refl (kc (dR tab d) i)) (b := (e'.length : Int) + (D.Chans.length : Int) + (D.Spots.length : Int)) (c := (c : Int)) (i := (i : Int)) (f := fun r v => Go.Proofs.YtmnbfgeljmhekaaGreat.snd q tab (r.Node, ruE e' d D r) v) (g := fun r v => Go.Proofs.YtmnbfgeljmhekaaGreat.snd q tab (r.Node, ruE e' d D r) v) D.Rules 0 0 0 (fun r hr v => snd_le S' LeT.rfl (wW S' hk hr) v) (by unfold two; omega) (by unfold two; omega) (Int.le_refl _)
  rw [fM (iC hi), fM (iC hi), nY w, nY w']; exact u
end Go.Proofs.YtmnbfgeljmhekaaGreat
set_option maxRecDepth 100000
namespace Go.Proofs.YtmnbfgeljmhekaaGreat
open Go.SX Go.SW Go.Dt
theorem u8_bd {a : Int} (h : (Lit.int .u8 a).wf = true) : 0 ≤ a ∧ a ≤ 255 := by simpa [Lit.wf, IntKind.min, IntKind.max, IntKind.signed, IntKind.bits] using h
theorem rem_ok {a b : Int} (ha : 0 ≤ a ∧ a ≤ 255) (hb : 0 < b) : ∃ z, remI .i64 (IntKind.wrap .i64 a) b = some z ∧ 0 ≤ z ∧ z < b := by
 unfold remI
 rw [if_neg (by omega), aE2 (by omega) (by omega)]
 exact ⟨_, rfl, Int.tmod_nonneg b ha.1, Int.tmod_lt_of_pos a hb⟩
end Go.Proofs.YtmnbfgeljmhekaaGreat
set_option maxRecDepth 100000
namespace Go.Proofs.YtmnbfgeljmhekaaGreat
open Go.SX Go.SW Go.Dt
variable {P : Program} {β : bN} {n : Nat} {ds : List Deferred} {Γ : Ctx} {Δ : List Tk} {F : Act → World → Prop} {o : Oper}
theorem aGk {γ : Type} {p : Prop} [Decidable p] {a : Option γ} {r : γ} (h : (if p then a else none) = some r) : p ∧ a = some r := by
 by_cases hp : p
 ·rw [if_pos hp] at h; exact ⟨hp, h⟩
 ·rw [if_neg hp] at h; cases h
theorem aDe {m : Mem} {fs : List OF} {cs : List Value} {H : Heap} (h : eL fs m cs H) : ∀ (ψs : List Fact) (p : Nat), (∀ j φ, ψs[j]? = some φ → fs[p + j]? = some (.pure φ)) → aX ψs m ((cs.drop p).take ψs.length)
 | [], _, _ => by simp [aX]
 | φ :: ψs, p, hp => by
  obtain ⟨c, A, K, B, h4, _, h5, _⟩ := h.at (hp 0 φ rfl)
  have h4 : cs[p]? = some c := h4
  have hlt := (List.getElem?_eq_some_iff.1 h4).1
  have e : cs.drop p = c :: cs.drop (p + 1) := by rw [List.drop_eq_getElem_cons hlt, (List.getElem?_eq_some_iff.1 h4).2]
  rw [e, List.length_cons, List.take_succ_cons]
  exact ⟨c, _, rfl, h5.2.1, aDe h ψs (p + 1) fun j φ' hj => by rw [Nat.add_assoc, Nat.add_comm 1 j]; exact hp (j + 1) φ' hj⟩
theorem o_loadGS {T e sz es i k : Nat} {x : Operand} {v : Value} {fs : List OF} {ψs : List Fact} (ho : o.op = .load T x) (hx : Has Γ x (iB v es i 0)) (hT : jR P T ψs.length) (hp : ∀ j φ, ψs[j]? = some φ → fs[i * es + j]? = some (.pure φ)) : OpT P Γ [fA v e sz k fs] o (eY ψs) :=
 ⟨by rw [ho]; rfl, fun β m L a w hev hS hL => by
  obtain ⟨b, len, cap, rfl, h1⟩ := hev.get hx (by rw [ho]; simp [Op.operands])
  obtain ⟨cs, H1, h2, _, h3⟩ := aAR hL hS
  have h4 := aDe h2 ψs (i * es) hp
  have h5 := h4.length
  rcases h3 with ⟨h, _⟩ | ⟨b', cap', h6, h7⟩
  ·cases h
  ·cases h6
   rw [Nat.add_zero] at h1
   have := aBC (P := P) (w := w) (p := ⟨b, i * es, none⟩) _ (T := T) (by rw [h5]; exact hT) (fun j v hj => by
    rw [nT]
    rw [List.getElem?_take] at hj
    split at hj
    ·rw [List.getElem?_drop] at hj; exact h7 _ _ hj
    ·cases hj)
   exact ⟨_, by simp [execOp, ho, h1, Sem.run_bind, Sem.run, pure, this], _, rfl, h4⟩⟩
def kidL (b : Bool) (ks : List Int) : OF := bif b then .own (fun v => aE v 3 (aB .i64) ks) (fun _ => dK) else .pure (fSl (aB .i64) ks)
def qW : OTy (Bool × ScopeNode) := ⟨4, fun x => [.pure (aA .i64 x.2.Op), .pure (aA .i64 x.2.N), .pure (fSl bA x.2.Args), kidL x.1 x.2.Kids], fun _ => rfl⟩
def fK : OTy ScopeNode := ⟨4, fun x => [.pure (aA .i64 x.Op), .pure (aA .i64 x.N), .pure (fSl bA x.Args), kidL true x.Kids], fun _ => rfl⟩
theorem aFA : ∀ xs : List ScopeNode, (xs.flatMap aL.leafs).map OF.pure = (xs.map fun x => (false, x)).flatMap qW.leafs
 | [] => rfl
 | x :: xs => by rw [List.flatMap_cons, List.map_append, aFA xs, List.map_cons, List.flatMap_cons]; rfl
theorem aEx : ∀ xs : List (Bool × ScopeNode), xs.all (·.1) = true → xs.flatMap qW.leafs = (xs.map (·.2)).flatMap fK.leafs
 | [], _ => rfl
 | (b, x) :: xs, h => by
  rw [List.all_cons, Bool.and_eq_true] at h
  have hb : b = true := h.1
  subst hb
  rw [List.flatMap_cons, aEx xs h.2, List.map_cons, List.flatMap_cons]; rfl
theorem aGK {v : Value} {e : Nat} {xs : List ScopeNode} (h : T β n ds Γ (bL v e qW (xs.map fun x => (false, x)) :: Δ) F) : T β n ds Γ (aE v e aL xs :: Δ) F :=
 rD (pQ rfl (by rw [List.length_map]) (aFA xs) h)
theorem T_flagOn {v : Value} {e : Nat} {xs : List (Bool × ScopeNode)} (hx : xs.all (·.1) = true) (h : T β n ds Γ (bL v e fK (xs.map (·.2)) :: Δ) F) : T β n ds Γ (bL v e qW xs :: Δ) F :=
 pQ (sz := qW.sz) (o := fK) (xs := xs.map (·.2)) rfl (by rw [List.length_map]) (aEx xs hx) h
theorem o_loadN {T e i : Nat} {x : Operand} {v u : Value} {xs : List ScopeNode} {y : ScopeNode} (ho : o.op = .load T x) (hx : Has Γ x (iB v 4 i 0)) (hT : jR P T 4) (hy : xs[i]? = some y) : OpT P Γ [oQ v e fK xs (i * fK.sz + 3) u] o (eY [aA .i64 y.Op, aA .i64 y.N, fSl bA y.Args, fEq u]) :=
 o_loadGS ho hx hT fun j φ hj => by
  have hlt := (List.getElem?_eq_some_iff.1 (oN (o := fK) (k := 3) hy rfl)).1
  match j, hj with
  | 0, hj => cases hj; rw [List.getElem?_set_ne (by show ¬ i * 4 + 3 = _; omega)]; exact oN (o := fK) (k := 0) hy rfl
  | 1, hj => cases hj; rw [List.getElem?_set_ne (by show ¬ i * 4 + 3 = _; omega)]; exact oN (o := fK) (k := 1) hy rfl
  | 2, hj => cases hj; rw [List.getElem?_set_ne (by show ¬ i * 4 + 3 = _; omega)]; exact oN (o := fK) (k := 2) hy rfl
  | 3, hj => cases hj; rw [List.getElem?_set, if_pos (show i * fK.sz + 3 = i * 4 + 3 from rfl), if_pos hlt]
  | j + 4, hj => cases hj
theorem aI3 {v : Value} {e : Nat} {xs : List ScopeNode} : Frz (bL v e fK xs) (fSl aL xs) v := lI rfl fun x => dP.cons (fun v => aBa v) (dP.cons (fun v => aBa v) (dP.cons (fun v => aBa v) (dP.cons (fun v => cO) dP.nil)))
end Go.Proofs.YtmnbfgeljmhekaaGreat
set_option maxRecDepth 100000
set_option maxHeartbeats 2000000
namespace Go.Proofs.YtmnbfgeljmhekaaGreat
open Go.SX Go.SW Go.Dt
attribute [local irreducible] Code.wpIn wpListIn Exit.then Exit.inBlock
theorem aHJ  (a0 : List Int) (r : List Int) (H : aA5 a0 = some r) : FnS Tryz.prog 53 [fSl (aB .i64) a0] [] fAny (fun v => [(fun v => aE v 3 (aB .i64) r) v]) := by
 unfold aA5 at H
 refine bD Tryz.func53 rfl Tryz.ntmps53 rfl (fun β => ?_)
 refine Z3 ?_
 refine aH ?_
 refine Z2 ?_
 refine Yy (yL rfl hh (us rfl)) ?_
 refine Z1 ?_
 refine xZ (has rfl) (fun hx => ?_) ?_
 replace H : some ([] : List Int) = some r := by subst hx; exact H
 refine Z4 ?_
 refine qL (aB .i64) 3 ?_
 cases H
 exact nM rfl (bO rfl) (fun _ _ _ => trivial) rfl
 refine Z3 ?_
 refine Tn (cM (t := (aB .i64)) (xs := ([] : List Int)) rfl (et rfl) aS.nil rfl rfl rfl) fun b1 => ?_
 generalize (Value.slice (some ⟨b1, 0, none⟩) _ _) = v1
 refine aR 0 rfl (fun hc_v1 => ?_)
 revert H; refine B1 fun z1 h1 H => ?_
 refine rP (ys := a0) trivial rfl rfl rfl (has rfl) (has rfl) (et rfl) rfl h1 (fun v2 => ?_)
 refine aR 0 rfl (fun hc_v2 => ?_)
 refine Z3 ?_
 cases H
 exact nM rfl (bO rfl) (fun _ _ _ => trivial) rfl
def mC (y1 : List ScopeNode) : Nat → Int → (List (Bool × ScopeNode)) → Option (List ScopeNode)
| 0, _, _ => none
| k + 1, x4, x5 =>
 if x4 < (y1.length : Int) then
  (idx x5 x4).bind fun y2 =>
  if y2.1 = false then
   (aA5 y2.2.Kids).bind fun y3 =>
   (chk (x4 + 1)).bind fun z1 =>
   mC y1 k z1 (x5.set x4.toNat (true, { y2.2 with Kids := y3 }))
  else none
 else
  if x5.all (·.1) = true then some (x5.map (·.2)) else none
def xN (fuel : Nat) (a0 : ScopeProg) : Option (ScopeProg) :=
 (aBd a0.Nodes).bind fun y1 =>
 (mC y1 fuel 0 (y1.map fun x => (false, x))).bind fun x1 =>
 (aAe a0.Defs).bind fun y5 =>
 (mT y5 fuel 0 y5).bind fun x6 =>
 some (⟨a0.Free, x1, x6, a0.Main⟩ : ScopeProg)
theorem aIE (fuel : Nat)  (a0 : ScopeProg) (r : ScopeProg) (H : xN fuel a0 = some r) : FnS Tryz.prog 20 [fSt dO a0] [] fAny (fun v => [rX .agg [.pure (fSl aM r.Free), .own (fun v => bL v 51 fK r.Nodes) (fun _ => jG), .own (fun v => aE v 99 aJ r.Defs) (fun _ => dK), .pure (aA .i64 r.Main)] v]) := by
 unfold xN at H
 refine bD Tryz.func20 rfl Tryz.ntmps20 rfl (fun β => ?_)
 refine Z1 ?_
 refine Tn (cF rfl (has rfl) bQ) fun b1 => ?_
 refine Tn (cK rfl aAE rfl) fun b2 => ?_
 revert H; refine B4 fun y1 h1 H => ?_
 refine sG trivial rfl rfl rfl (has rfl) (aK.cons (has rfl) aK.nil) rfl (cb rfl) (aGZ a0.Nodes y1 h1) (Δi := []) rfl (fun v1 => ?_)
 dsimp only [List.append, List.cons_append, List.nil_append]
 refine aR 0 rfl (fun hc_v1 => ?_)
 refine Z1 ?_
 refine eH ?_
 refine dC (φs' := [fSl aM a0.Free, fEq v1, fSl aJ a0.Defs, aA .i64 a0.Main]) trivial rfl rfl (has rfl) (has rfl) (aD hc_v1) (sz rfl) rfl rfl ?_
 revert H; refine B1 fun o1 H Hr1 => ?_
 refine aW (ι := List ScopeNode) (fun i => o1 = i) (fun i => [(1, fEq (ptr b1)), (2, fEq (ptr b2))]) (fun i => [aC b1 26 [fSl aM a0.Free, fEq v1, fSl aJ a0.Defs, aA .i64 a0.Main], aC b2 26 [fEq (.slice none 0 0), fEq (.slice none 0 0), fEq (.slice none 0 0), aA .i64 0], bL v1 51 fK i]) ?_ ?_
 refine Z7 ?_
 refine aG [1, 0, 2] (by decide) ?_
 refine aGK ?_
 refine aG [1, 2, 0] (by decide) ?_
 refine Tl (ι := Nat × Int × List (Bool × ScopeNode)) (fun i => mC y1 i.1 i.2.1 i.2.2 = _) (fun i => i.1) (fun i => [(1, fEq (ptr b1)), (2, fEq (ptr b2)), (11, aA .i64 (y1.length : Int)), (12, aA .i64 i.2.1)]) (fun i => [aC b1 26 [fSl aM a0.Free, fEq v1, fSl aJ a0.Defs, aA .i64 a0.Main], aC b2 26 [fEq (.slice none 0 0), fEq (.slice none 0 0), fEq (.slice none 0 0), aA .i64 0], bL v1 51 qW i.2.2]) (fuel, 0, y1.map fun x => (false, x)) H ?_
 clear H; rintro ⟨k1, x4, x5⟩ H
 replace H : mC y1 k1 x4 x5 = _ := H
 try dsimp only
 obtain _ | k1 := k1
 rw [mC] at H; cases H
 rw [mC] at H
 refine Z3 ?_
 refine aH ?_
 revert H; refine is (fun c1 H => ?_) fun c1 H => ?_
 refine Z3 ?_
 refine aH ?_
 refine Z5 ?_
 have H0 := H; clear H; obtain ⟨⟨fl, y2⟩, h2, H⟩ := bind_some H0; clear H0
 have H0 := H; clear H; obtain ⟨c2, H⟩ := aGk H0; clear H0
 obtain rfl : fl = false := c2
 revert H; refine bs fun y3 h3 H => ?_
 apply bH (ods := [_, _, _, _, _, _, _, _, _, _, _, _]) 12 1 4 bG rfl rfl rfl
 refine ND ?_
 refine M6 ?_
 intros
 refine Mo 2 rfl (iY (sz := 4) (xs := x5) rfl hh hh (el rfl) h2) fun _ => ?_
 refine My (mS 3 rfl hh (fa rfl) rfl) fun _ => ?_
 refine Mo 2 rfl (o_loadD (q := qW) (φ := fSl (aB .i64) y2.Kids) rfl rfl hh (sc rfl) (bB h2) rfl) fun _ => ?_
 refine N_callO (od := odN [3] true (fun _ u => fEq u) (fun _ u => [aE u 3 (aB .i64) y3])) (p := 3) (τ := fun v => aE v 3 (aB .i64) y3) rfl (fun _ => rfl) (fun _ => rfl) trivial rfl rfl rfl (has rfl) (aK.cons (has rfl) aK.nil) rfl (cb rfl) (aHJ y2.Kids y3 h3) (fun _ u => ?_)
 refine Mo 2 rfl (iY (sz := 4) (xs := x5) rfl hh hh (el rfl) h2) fun _ => ?_
 refine My (mS 3 rfl hh (fa rfl) rfl) fun _ => ?_
 refine Z1 ?_
 refine aG [3, 2, 0, 1] (by decide) ?_
 refine aR 0 rfl (fun hc_u => ?_)
 refine aFN (q := qW) (f := fun v => aE v 3 (aB .i64) y3) (hf := fun _ => dK) (u := u) (v := v1) (z' := (true, { y2 with Kids := y3 })) trivial rfl rfl rfl (has rfl) (has rfl) hc_u (sz rfl) (bB h2) rfl rfl ?_
 refine aG [1, 2, 0] (by decide) ?_
 revert H; refine B4 fun z1 h5 H => ?_
 refine Z3 ?_
 exact Tm ((k1, z1, x5.set x4.toNat (true, { y2 with Kids := y3 }))) ⟨H, ls⟩
 exact fk
 kernel_rfl
 refine Z6 ?_
 have H0 := H; clear H; obtain ⟨c9, H⟩ := aGk H0; clear H0
 refine aG [2, 0, 1] (by decide) ?_
 refine T_flagOn c9 ?_
 refine aG [1, 2, 0] (by decide) ?_
 exact Tm (x5.map (·.2)) (ij H)
 clear H; intro x1 hi; subst o1; have H := Hr1; clear Hr1; try dsimp only at H
 try dsimp only
 revert H; refine B3 fun y5 h6 H => ?_
 refine sG trivial rfl rfl rfl (has rfl) (aK.cons (has rfl) aK.nil) rfl (cb rfl) (aG9 a0.Defs y5 h6) (Δi := []) rfl (fun v2 => ?_)
 dsimp only [List.append, List.cons_append, List.nil_append]
 refine aR 0 rfl (fun hc_v2 => ?_)
 refine Z1 ?_
 refine dH ?_
 refine dC (φs' := [fSl aM a0.Free, fEq v1, fEq v2, aA .i64 a0.Main]) trivial rfl rfl (has rfl) (has rfl) (aD hc_v2) (sz rfl) rfl rfl ?_
 revert H; refine B1 fun o2 H Hr2 => ?_
 refine aW (ι := List ScopeDef) (fun i => o2 = i) (fun i => [(1, fEq (ptr b1)), (2, fEq (ptr b2))]) (fun i => [aC b1 26 [fSl aM a0.Free, fEq v1, fEq v2, aA .i64 a0.Main], aC b2 26 [fEq (.slice none 0 0), fEq (.slice none 0 0), fEq (.slice none 0 0), aA .i64 0], bL v1 51 fK x1, aE v2 99 aJ i]) ?_ ?_
 refine Z7 ?_
 refine aG [0, 2, 3, 1] (by decide) ?_
 refine Tl (ι := Nat × Int × List ScopeDef) (fun i => mT y5 i.1 i.2.1 i.2.2 = _) (fun i => i.1) (fun i => [(1, fEq (ptr b1)), (2, fEq (ptr b2)), (34, aA .i64 (y5.length : Int)), (35, aA .i64 i.2.1)]) (fun i => [aC b1 26 [fSl aM a0.Free, fEq v1, fEq v2, aA .i64 a0.Main], aC b2 26 [fEq (.slice none 0 0), fEq (.slice none 0 0), fEq (.slice none 0 0), aA .i64 0], bL v1 51 fK x1, aE v2 99 aJ i.2.2]) (fuel, 0, y5) H ?_
 clear H; rintro ⟨k2, x9, x10⟩ H
 replace H : mT y5 k2 x9 x10 = _ := H
 try dsimp only
 obtain _ | k2 := k2
 rw [mT] at H; cases H
 rw [mT] at H
 refine Z3 ?_
 refine aH ?_
 revert H; refine is (fun c2 H => ?_) fun c2 H => ?_
 refine Z3 ?_
 refine aH ?_
 refine Z5 ?_
 refine aH ?_
 revert H; refine bs fun y6 h7 H => ?_
 revert H; refine bs fun y7 h8 H => ?_
 revert H; refine bs fun y8 h9 H => ?_
 apply bH (ods := [_, _, _, _, _, _, _, _, _, _, _, _, _]) 13 0 4 bG rfl rfl rfl
 refine ND ?_
 refine M7 ?_
 intros
 refine My (mS 1 rfl hh (fa rfl) rfl) fun _ => ?_
 refine Mo 3 rfl (gN rfl rfl hh (sc rfl) (bB h7) rfl) fun _ => ?_
 refine Nc (aGL _ _ h8) fun _ => ?_
 refine M1 ?_
 intros
 refine My (mS 1 rfl hh (fa rfl) rfl) fun _ => ?_
 refine jV (od := odC [3] true (fAny) [aE v2 99 aJ (x10.set x9.toNat ({ y8 with Spots := y7 }))]) (p := 3) (z' := { y8 with Spots := y7 }) rfl (fun _ => rfl) (fun _ => rfl) trivial rfl rfl rfl rfl (has rfl) (has rfl) (aZ) (sz rfl) (bB h9) rfl rfl (fun _ => ?_)
 revert H; refine B2 fun y9 h10 H => ?_
 revert H; refine bs fun y10 h11 H => ?_
 revert H; refine bs fun y11 h12 H => ?_
 apply bH (ods := [_, _, _, _, _, _, _, _, _, _, _, _, _]) 13 0 4 bG rfl rfl rfl
 refine ND ?_
 refine M7 ?_
 intros
 refine My (mS 2 rfl hh (fa rfl) rfl) fun _ => ?_
 refine Mo 3 rfl (gN rfl rfl hh (sc rfl) (bB h10) rfl) fun _ => ?_
 refine Nc (aIu _ _ h11) fun _ => ?_
 refine M1 ?_
 intros
 refine My (mS 2 rfl hh (fa rfl) rfl) fun _ => ?_
 refine jV (od := odC [3] true (fAny) [aE v2 99 aJ ((x10.set x9.toNat ({ y8 with Spots := y7 })).set x9.toNat ({ y11 with Rules := y10 }))]) (p := 3) (z' := { y11 with Rules := y10 }) rfl (fun _ => rfl) (fun _ => rfl) trivial rfl rfl rfl rfl (has rfl) (has rfl) (aZ) (sz rfl) (bB h12) rfl rfl (fun _ => ?_)
 revert H; refine B5 fun z2 h13 H => ?_
 refine Z3 ?_
 exact Tm ((k2, z2, (x10.set x9.toNat ({ y8 with Spots := y7 })).set x9.toNat ({ y11 with Rules := y10 }))) ⟨H, ls⟩
 exact fk
 kernel_rfl
 exact fk
 kernel_rfl
 refine Z6 ?_
 exact Tm (x10) (ij H)
 clear H; intro x6 hi; subst o2; have H := Hr2; clear Hr2; try dsimp only at H
 try dsimp only
 refine Z2 ?_
 refine dH ?_
 refine dM (φs' := [fSl aM a0.Free, fEq v1, fEq v2, aA .i64 a0.Main]) trivial rfl rfl (has rfl) (has rfl) (aO (aZ) (aO (aD hc_v1) (aO (aD hc_v2) (aO (aD trivial) bX)))) (sz rfl) rfl rfl rfl ?_
 refine Z2 ?_
 cases H
 refine aG [0, 2, 3] (by decide) ?_
 exact aEI rfl (ag rfl) (bO rfl) (eJ.pure Ent.rfl (aZ) (eJ.own (eJ.own (eJ.pure Ent.rfl (aD trivial) eJ.nil)))) rfl rfl
def lN (y5 : List Int) : Nat → Int → (List ScopeNode) → Option (List ScopeNode)
| 0, _, _ => none
| k + 1, x2, ns =>
 if x2 < (y5.length : Int) then
  ((idx y5 x2).bind fun y6 =>
  (remI .i64 (IntKind.wrap .i64 y6) (ns.length : Int)).bind fun z1 =>
  (idx ns z1).bind fun y7 =>
  if y7.Op = 3 then
   (idx y7.Kids 1).bind fun k1' =>
   (idx y7.Kids 0).bind fun k0' =>
   (idx (y7.Kids.set (0 : Int).toNat k1') 1).bind fun _ =>
   some (ns.set z1.toNat { y7 with Kids := (y7.Kids.set (0 : Int).toNat k1').set (1 : Int).toNat k0' })
  else
   if y7.Op = 5 then
    (idx y7.Kids 1).bind fun k1' =>
    (idx y7.Kids 0).bind fun k0' =>
    (idx (y7.Kids.set (0 : Int).toNat k1') 1).bind fun _ =>
    some (ns.set z1.toNat { y7 with Kids := (y7.Kids.set (0 : Int).toNat k1').set (1 : Int).toNat k0' })
   else
    some (ns.set z1.toNat y7)).bind fun ns' =>
  (chk (x2 + 1)).bind fun z2 =>
  lN y5 k z2 ns'
 else
  some ns
def aAF (fuel : Nat) (a0 : ScopeProg) (a1 : List Int) : Option (Bool) :=
 (tV fuel (⟨a0.Free, a0.Nodes, a0.Defs, a0.Main⟩ : ScopeProg)).bind fun y1 =>
 if y1 ≠ 0 then
  (uX fuel).bind fun y2 =>
  some y2
 else
  (qT fuel (⟨a0.Free, a0.Nodes, a0.Defs, a0.Main⟩ : ScopeProg)).bind fun y3 =>
  (xN fuel (⟨a0.Free, a0.Nodes, a0.Defs, a0.Main⟩ : ScopeProg)).bind fun y4 =>
  ((slc a1 0 (min (a1.length : Int) 60)).bind fun y5 =>
  lN y5 fuel 0 y4.Nodes).bind fun ns =>
  if y3.2 ≠ 0 then
   some false
  else
   (tV fuel (⟨y4.Free, ns, y4.Defs, y4.Main⟩ : ScopeProg)).bind fun y8 =>
   if y8 ≠ 0 then
    some false
   else
    (qT fuel (⟨y4.Free, ns, y4.Defs, y4.Main⟩ : ScopeProg)).bind fun y9 =>
    (qY fuel (⟨y4.Free, ns, y4.Defs, y4.Main⟩ : ScopeProg) y3.1).bind fun y10 =>
    (if y9.2 = 0 then
     if y10.2 = 0 then
      bif y10.1 then
       (vG fuel y3.1 y9.1).bind fun y11 =>
       bif y11 then
        (vG fuel y9.1 y3.1).bind fun y12 =>
        bif y12 then
         (uX fuel).bind fun y13 =>
         some y13
        else
         some false
       else
        some false
      else
       some false
     else
      some false
    else
     some false).bind fun x3 =>
    some x3
theorem aHh (fuel : Nat)  (a0 : ScopeProg) (a1 : List Int) (r : Bool) (H : aAF fuel a0 a1 = some r) : FnS Tryz.prog 6 [fSt dO a0, fSl (aB .u8) a1] [] (aI r) (fun _ => []) := by
 unfold aAF at H
 refine bD Tryz.func6 rfl Tryz.ntmps6 rfl (fun β => ?_)
 refine Z1 ?_
 refine Tn (cF rfl (has rfl) bQ) fun b1 => ?_
 refine Z2 ?_
 refine aH ?_
 revert H; refine B2 fun y1 h1 H => ?_
 refine Tc (aDs _ _ _ h1) ?_
 revert H; refine I2 (fun c1 H => ?_) fun c1 H => ?_
 revert H; refine B2 fun y2 h2 H => ?_
 refine Tc (aDR _ _ h2) ?_
 refine Z3 ?_
 cases H
 refine aG [] (by decide) ?_
 exact To
 revert H; refine B5 fun y3 h3 H => ?_
 refine gS trivial rfl rfl rfl (has rfl) (aK.cons (has rfl) aK.nil) rfl (cb rfl) (aB2 fuel (⟨a0.Free, a0.Nodes, a0.Defs, a0.Main⟩ : ScopeProg) y3 h3) rfl ?_
 revert H; refine B8 fun y4 h4 H => ?_
 refine sG trivial rfl rfl rfl (has rfl) (aK.cons (has rfl) aK.nil) rfl (cb rfl) (aIE fuel (⟨a0.Free, a0.Nodes, a0.Defs, a0.Main⟩ : ScopeProg) y4 h4) (Δi := []) rfl (fun v1 => ?_)
 dsimp only [List.append, List.cons_append, List.nil_append]
 refine aEL (c := .agg) (fs := [.pure (fSl aM y4.Free), .own (fun v => bL v 51 fK y4.Nodes) (fun _ => jG), .own (fun v => aE v 99 aJ y4.Defs) (fun _ => dK), .pure (aA .i64 y4.Main)]) (fun v2 v3 => ?_)
 dsimp only [List.append, List.cons_append, List.nil_append]
 refine eB 0 rfl (fun hc_v2 => ?_)
 refine aR 1 rfl (fun hc_v3 => ?_)
 refine Tn (cK rfl aAE rfl) fun b2 => ?_
 refine dM (φs' := [fSl aM y4.Free, fEq v2, fEq v3, aA .i64 y4.Main]) trivial rfl rfl (has rfl) (has rfl) (aO (aZ) (aO (aD hc_v2) (aO (aD hc_v3) (aO (aD trivial) bX)))) (sz rfl) rfl rfl rfl ?_
 revert H; refine B1 fun o1 H Hr1 => ?_
 refine aW (ι := List ScopeNode) (fun i => o1 = i) (fun i => [(5, fSl bC y3.1), (6, aA .i64 y3.2), (7, fEq (ptr b2))]) (fun i => [aC b2 26 [fSl aM y4.Free, fEq v2, fEq v3, aA .i64 y4.Main], bL v2 51 fK i, aE v3 99 aJ y4.Defs, aC b1 26 [fSl aM a0.Free, fSl aL a0.Nodes, fSl aJ a0.Defs, aA .i64 a0.Main]]) ?_ ?_
 revert H; refine B5 fun y5 h5 H => ?_
 refine Yy (aFX (t := (aB .u8)) rfl hh zS (aAG hh) (el rfl) h5) ?_
 refine Z4 ?_
 refine Tl (ι := Nat × Int × List ScopeNode) (fun i => lN y5 i.1 i.2.1 i.2.2 = _) (fun i => i.1) (fun i => [(5, fSl bC y3.1), (6, aA .i64 y3.2), (7, fEq (ptr b2)), (29, fSl (aB .u8) y5), (30, aA .i64 (y5.length : Int)), (31, aA .i64 i.2.1)]) (fun i => [aC b2 26 [fSl aM y4.Free, fEq v2, fEq v3, aA .i64 y4.Main], bL v2 51 fK i.2.2, aE v3 99 aJ y4.Defs, aC b1 26 [fSl aM a0.Free, fSl aL a0.Nodes, fSl aJ a0.Defs, aA .i64 a0.Main]]) (fuel, 0, y4.Nodes) H ?_
 clear H; rintro ⟨k1, x2, ns⟩ H
 replace H : lN y5 k1 x2 ns = _ := H
 try dsimp only
 obtain _ | k1 := k1
 rw [lN] at H; cases H
 rw [lN] at H
 refine Z3 ?_
 refine aH ?_
 revert H; refine is (fun c2 H => ?_) fun c2 H => ?_
 revert H; refine B3 fun o2 H Hr2 => ?_
 refine aW (ι := List ScopeNode) (fun i => o2 = i) (fun i => [(5, fSl bC y3.1), (6, aA .i64 y3.2), (7, fEq (ptr b2)), (29, fSl (aB .u8) y5), (30, aA .i64 (y5.length : Int)), (31, aA .i64 x2)]) (fun i => [aC b2 26 [fSl aM y4.Free, fEq v2, fEq v3, aA .i64 y4.Main], bL v2 51 fK i, aE v3 99 aJ y4.Defs, aC b1 26 [fSl aM a0.Free, fSl aL a0.Nodes, fSl aJ a0.Defs, aA .i64 a0.Main]]) ?_ ?_
 revert H; refine B2 fun y6 h6 H => ?_
 refine Z4 ?_
 refine aH ?_
 revert H; refine bs fun z1 h7 H => ?_
 revert H; refine bs fun y7 h8 H => ?_
 refine aG [1, 0, 2, 3] (by decide) ?_
 refine rB (o := fK) (k := 3) (f := fun v => aE v 3 (aB .i64) y7.Kids) (hf := fun _ => dK) (bB h8) rfl (fun u => ?_)
 refine aR 0 rfl (fun hc_u => ?_)
 apply bH (ods := [_, _, _, _, _, _, _, _, _, _, _, _]) 12 1 6 bG rfl rfl rfl
 refine ND ?_
 refine M3 ?_
 intros
 refine My (aA9 rfl hh ty_un_5 aA1) fun _ => ?_
 refine M2 ?_
 intros
 refine Mo 1 rfl (aCC rfl hh (us rfl)) fun _ => ?_
 refine My (o_rem rfl hh hh h7) fun _ => ?_
 refine Mo 1 rfl (iY (sz := 4) (xs := ns) rfl hh hh (el rfl) h8) fun _ => ?_
 refine Mo 1 rfl (o_loadN rfl hh (ag rfl) (bB h8)) fun _ => ?_
 refine Mn 5 (fun b3 => ptr b3) (fun b3 => aC b3 51 [aA .i64 0, aA .i64 0, fEq (.slice none 0 0), fEq (.slice none 0 0)]) rfl (cK rfl pN rfl) (fun b3 u1 => ?_)
 refine wF (od := od1 10 [5] true (fun b3 _ => fAny) (fun b3 _ => [aC b3 51 [aA .i64 y7.Op, aA .i64 y7.N, fSl bA y7.Args, fEq u]])) (p := 5) (φs' := [aA .i64 y7.Op, aA .i64 y7.N, fSl bA y7.Args, fEq u]) rfl (fun _ => rfl) (fun _ => rfl) trivial rfl rfl rfl (has rfl) (has rfl) (aO (aD trivial) (aO (aD trivial) (aO (aZ) (aO (aD hc_u) bX)))) (sz rfl) rfl rfl rfl (fun _ => ?_)
 revert H; refine I7 (fun c3 H => ?_) fun c3 H => ?_
 revert H; refine B6 fun k1' hk1 H => ?_
 revert H; refine bs fun k0' hk0 H => ?_
 revert H; refine bs fun k2' hk2 H => ?_
 apply bH (ods := [_, _, _, _, _, _, _, _, _, _, _, _, _, _, _, _]) 16 0 6 bG rfl rfl rfl
 refine ND ?_
 refine M6 ?_
 intros
 refine Mo 0 rfl (gF rfl hh hh (el rfl) hk1) fun _ => ?_
 refine Mo 0 rfl (gN rfl rfl hh (sc rfl) (bB hk1) rfl) fun _ => ?_
 refine M2 ?_
 intros
 refine Mo 0 rfl (gF rfl hh hh (el rfl) hk0) fun _ => ?_
 refine Mo 0 rfl (gN rfl rfl hh (sc rfl) (bB hk0) rfl) fun _ => ?_
 refine Mo 0 rfl (gF rfl hh hh (el rfl) hk0) fun _ => ?_
 refine jV (od := odC [0] true (fAny) [aE u 3 (aB .i64) (y7.Kids.set (0 : Int).toNat k1')]) (p := 0) (z' := k1') rfl (fun _ => rfl) (fun _ => rfl) trivial rfl rfl rfl rfl (has rfl) (has rfl) (aD trivial) (sz rfl) (bB hk0) rfl rfl (fun _ => ?_)
 refine Mo 0 rfl (gF rfl hh hh (el rfl) hk2) fun _ => ?_
 refine jV (od := odC [0] true (fAny) [aE u 3 (aB .i64) ((y7.Kids.set (0 : Int).toNat k1').set (1 : Int).toNat k0')]) (p := 0) (z' := k0') rfl (fun _ => rfl) (fun _ => rfl) trivial rfl rfl rfl rfl (has rfl) (has rfl) (aD trivial) (sz rfl) (bB hk2) rfl rfl (fun _ => ?_)
 refine Z4 ?_
 refine lO (o := fK) (xs := ns) (i := z1.toNat) (k := 3) (y := y7) (y' := { y7 with Kids := (y7.Kids.set (0 : Int).toNat k1').set (1 : Int).toNat k0' }) (f := fun v => aE v 3 (aB .i64) ((y7.Kids.set (0 : Int).toNat k1').set (1 : Int).toNat k0')) (hf := fun _ => dK) (bB h8) rfl rfl ?_
 refine aG [1, 0, 2, 3] (by decide) ?_
 exact Tm (ns.set z1.toNat ({ y7 with Kids := (y7.Kids.set (0 : Int).toNat k1').set (1 : Int).toNat k0' })) (ij H)
 exact fk
 kernel_rfl
 revert H; refine I5 (fun c4 H => ?_) fun c4 H => ?_
 revert H; refine B1 fun k1' hk1 H => ?_
 revert H; refine bs fun k0' hk0 H => ?_
 revert H; refine bs fun k2' hk2 H => ?_
 apply bH (ods := [_, _, _, _, _, _, _, _, _, _, _, _, _, _, _, _]) 16 0 6 bG rfl rfl rfl
 refine ND ?_
 refine M6 ?_
 intros
 refine Mo 0 rfl (gF rfl hh hh (el rfl) hk1) fun _ => ?_
 refine Mo 0 rfl (gN rfl rfl hh (sc rfl) (bB hk1) rfl) fun _ => ?_
 refine M2 ?_
 intros
 refine Mo 0 rfl (gF rfl hh hh (el rfl) hk0) fun _ => ?_
 refine Mo 0 rfl (gN rfl rfl hh (sc rfl) (bB hk0) rfl) fun _ => ?_
 refine Mo 0 rfl (gF rfl hh hh (el rfl) hk0) fun _ => ?_
 refine jV (od := odC [0] true (fAny) [aE u 3 (aB .i64) (y7.Kids.set (0 : Int).toNat k1')]) (p := 0) (z' := k1') rfl (fun _ => rfl) (fun _ => rfl) trivial rfl rfl rfl rfl (has rfl) (has rfl) (aD trivial) (sz rfl) (bB hk0) rfl rfl (fun _ => ?_)
 refine Mo 0 rfl (gF rfl hh hh (el rfl) hk2) fun _ => ?_
 refine jV (od := odC [0] true (fAny) [aE u 3 (aB .i64) ((y7.Kids.set (0 : Int).toNat k1').set (1 : Int).toNat k0')]) (p := 0) (z' := k0') rfl (fun _ => rfl) (fun _ => rfl) trivial rfl rfl rfl rfl (has rfl) (has rfl) (aD trivial) (sz rfl) (bB hk2) rfl rfl (fun _ => ?_)
 refine Z4 ?_
 refine lO (o := fK) (xs := ns) (i := z1.toNat) (k := 3) (y := y7) (y' := { y7 with Kids := (y7.Kids.set (0 : Int).toNat k1').set (1 : Int).toNat k0' }) (f := fun v => aE v 3 (aB .i64) ((y7.Kids.set (0 : Int).toNat k1').set (1 : Int).toNat k0')) (hf := fun _ => dK) (bB h8) rfl rfl ?_
 refine aG [1, 0, 2, 3] (by decide) ?_
 exact Tm (ns.set z1.toNat ({ y7 with Kids := (y7.Kids.set (0 : Int).toNat k1').set (1 : Int).toNat k0' })) (ij H)
 exact fk
 kernel_rfl
 refine Z4 ?_
 refine lO (o := fK) (xs := ns) (i := z1.toNat) (k := 3) (y := y7) (y' := y7) (f := fun v => aE v 3 (aB .i64) y7.Kids) (hf := fun _ => dK) (bB h8) rfl rfl ?_
 refine aG [1, 0, 2, 3] (by decide) ?_
 exact Tm (ns.set z1.toNat y7) (ij H)
 exact fk
 kernel_rfl
 clear H; intro i hi; subst o2; have H := Hr2; clear Hr2; try dsimp only at H
 try dsimp only
 revert H; refine B1 fun z2 h9 H => ?_
 refine Z3 ?_
 exact Tm ((k1, z2, i)) ⟨H, ls⟩
 refine Z6 ?_
 exact Tm (ns) (ij H)
 clear H; intro ns hi; subst o1; have H := Hr1; clear Hr1; try dsimp only at H
 try dsimp only
 refine aG [1, 0, 2, 3] (by decide) ?_
 refine cR (φ := fSl aL ns) (v := v2) [] aI3 (fun _ h => nomatch h) ?_
 refine hC (φs' := [fSl aM y4.Free, fSl aL ns, fEq v3, aA .i64 y4.Main]) (i := 1) rfl rfl ?_
 refine cS ?_
 refine aG [1, 0, 2] (by decide) ?_
 refine cR (φ := fSl aJ y4.Defs) (v := v3) [] cO (fun _ h => nomatch h) ?_
 refine hC (φs' := [fSl aM y4.Free, fSl aL ns, fSl aJ y4.Defs, aA .i64 y4.Main]) (i := 2) rfl rfl ?_
 refine cS ?_
 refine aH ?_
 revert H; refine I4 (fun c5 H => ?_) fun c5 H => ?_
 refine Z10 ?_
 cases H
 refine aG [] (by decide) ?_
 exact To
 revert H; refine B1 fun y8 h10 H => ?_
 refine Tc (aDs _ _ _ h10) ?_
 revert H; refine I3 (fun c6 H => ?_) fun c6 H => ?_
 refine Z5 ?_
 cases H
 refine aG [] (by decide) ?_
 exact To
 revert H; refine B5 fun y9 h11 H => ?_
 refine gS trivial rfl rfl rfl (has rfl) (aK.cons (has rfl) aK.nil) rfl (cb rfl) (aB2 fuel (⟨y4.Free, ns, y4.Defs, y4.Main⟩ : ScopeProg) y9 h11) rfl ?_
 revert H; refine B9 fun y10 h12 H => ?_
 refine Tc (aA7 _ _ _ _ h12) ?_
 revert H; refine B6 fun o3 H Hr3 => ?_
 refine aW (ι := Bool) (fun i => o3 = i) (fun i => [(4, aI i)]) (fun i => [aC b2 26 [fSl aM y4.Free, fSl aL ns, fSl aJ y4.Defs, aA .i64 y4.Main], aC b1 26 [fSl aM a0.Free, fSl aL a0.Nodes, fSl aJ a0.Defs, aA .i64 a0.Main]]) ?_ ?_
 revert H; refine I4 (fun c7 H => ?_) fun c7 H => ?_
 revert H; refine I4 (fun c8 H => ?_) fun c8 H => ?_
 refine Z3 ?_
 revert H; refine cs (fun c9 H => ?_) fun c9 H => ?_
 revert H; refine B2 fun y11 h13 H => ?_
 refine Tc (aFB _ _ _ _ h13) ?_
 refine Z2 ?_
 revert H; refine cs (fun c10 H => ?_) fun c10 H => ?_
 revert H; refine B2 fun y12 h14 H => ?_
 refine Tc (aFB _ _ _ _ h14) ?_
 refine Z2 ?_
 revert H; refine cs (fun c11 H => ?_) fun c11 H => ?_
 revert H; refine bs fun y13 h15 H => ?_
 refine Tc (aDR _ _ h15) ?_
 refine Z3 ?_
 exact Tm (y13) (ij H)
 refine Z4 ?_
 exact Tm (false) (ij H)
 refine Z9 ?_
 exact Tm (false) (ij H)
 refine Z12 ?_
 refine Z2 ?_
 exact Tm (false) (ij H)
 refine Z12 ?_
 refine Z5 ?_
 exact Tm (false) (ij H)
 refine Z12 ?_
 refine Z9 ?_
 exact Tm (false) (ij H)
 clear H; intro x3 hi; subst o3; have H := Hr3; clear Hr3; try dsimp only at H
 try dsimp only
 refine Z1 ?_
 cases H
 refine aG [] (by decide) ?_
 exact To
end Go.Proofs.YtmnbfgeljmhekaaGreat
set_option maxRecDepth 100000
namespace Go.Proofs.YtmnbfgeljmhekaaGreat
open Go.SX Go.SW Go.Dt
def gC (l : List ScopeNode) (c : Nat) : ScopeNode := (l[c]?).getD ⟨0, 0, [], []⟩
theorem aHs {l : List ScopeNode} (hl : l.length ≤ 2000000) (hk : ∀ x ∈ l, x.Kids.length ≤ 2000000) : mC l F 0 (l.map fun x => (false, x)) = some l := by
 have e0 : (l.map fun x => (false, x)) = (List.range l.length).map fun c => if c < 0 then (true, gC l c) else (false, gC l c) := by
  rw [yJ, show (fun c => (false, gC l c)) = (fun x => (false, x)) ∘ (fun c => gC l c) from rfl, ← List.map_map]
  unfold gC
  rw [tO]
 rw [e0]
 refine fO (fun k (s : Int × List (Bool × ScopeNode)) => mC l k s.1 s.2) l.length (fun i => ((i : Int), (List.range l.length).map fun c => if c < i then (true, gC l c) else (false, gC l c))) _ (fun k i hi => ?_) (fun k => ?_) (by show _ < 4000000; omega)
 ·dsimp only
  have hx : l[i]? = some (gC l i) := by unfold gC; rw [List.getElem?_eq_getElem hi]; rfl
  have hm := hk _ (List.mem_of_getElem? hx)
  rw [mC, if_pos (by omega), jL hi, bsm, if_neg (Nat.lt_irrefl i), if_pos rfl, aA5, List.nil_append, eO (by dsimp only; omega), bsm, bsm, aP (by omega), bsm, Int.toNat_natCast]
  have e : ((List.range l.length).map fun c => if c < i then (true, gC l c) else (false, gC l c)).set i (true, gC l i) = _ := xL (f := fun c => (true, gC l c)) (g := fun c => (false, gC l c))
  show mC l k ((i : Int) + 1) (((List.range l.length).map fun c => if c < i then (true, gC l c) else (false, gC l c)).set i (true, gC l i)) = _
  rw [e]; rfl
 ·dsimp only
  rw [mC, if_neg (by omega), xQ, if_pos, List.map_map, show ((fun x : Bool × ScopeNode => x.2) ∘ fun c => (true, gC l c)) = fun c => gC l c from rfl]
  ·unfold gC; rw [tO]
  ·refine List.all_eq_true.2 fun x hx => ?_
   obtain ⟨c, _, rfl⟩ := List.mem_map.1 hx
   rfl
theorem copyo_eq {p : ScopeProg} (hp : SmP p) : xN F p = some p := by
 have hn := hp.nodes
 have hd := hp.defs
 rw [xN, aBd, List.nil_append, eO (by omega), bsm, bsm, aHs hp.nodes (fun x hx => (hp.args x hx).2.1), bsm, aAe, List.nil_append, eO (by omega), bsm, bsm, show mT p.Defs F 0 p.Defs = some p.Defs from ?_, bsm]
 refine fO (fun k (s : Int × List ScopeDef) => mT p.Defs k s.1 s.2) p.Defs.length (fun i => ((i : Int), p.Defs)) _ (fun k i hi => ?_) (fun k => ?_) (by show _ < 4000000; omega)
 ·dsimp only
  obtain ⟨x, hx⟩ := cH (xs := p.Defs) (i := (i : Int)) (by omega) (by omega)
  obtain ⟨m1, m2, m3, m4⟩ := hp.dfs x (dU hx)
  have e1 : p.Defs.set (i : Int).toNat { x with Spots := x.Spots } = p.Defs := qX hx
  rw [mT, if_pos (by omega), hx, bsm, aAd, List.nil_append, eO (by omega), bsm, bsm, bsm, e1, hx, bsm, aAo, List.nil_append, eO (by omega), bsm, bsm, bsm, aP (by omega), bsm]
  have e2 : p.Defs.set (i : Int).toNat { x with Rules := x.Rules } = p.Defs := qX hx
  rw [e2]; rfl
 ·dsimp only
  rw [mT, if_neg (by omega)]
def RelL (a b : List ScopeNode) : Prop := b.length = a.length ∧ ∀ (i : Int) x, idx a i = some x → ∃ y, idx b i = some y ∧ fG x y
theorem RelL.set {a b : List ScopeNode} (h : RelL a b) {z : Int} {x y : ScopeNode} (hx : idx a z = some x) (hy : fG x y) : RelL a (b.set z.toNat y) := by
 refine ⟨by rw [List.length_set]; exact h.1, fun i x' hx' => ?_⟩
 obtain ⟨w, hw, hr⟩ := h.2 i x' hx'
 by_cases e : i = z
 ·subst e
  rw [hx] at hx'; cases hx'
  exact ⟨y, aBI hw, hy⟩
 ·refine ⟨w, ?_, hr⟩
  have l1 := eA hw
  have l2 := eA hx
  unfold idx at hw ⊢
  rw [if_pos l1.1] at hw ⊢
  rw [List.getElem?_set_ne (by omega)]; exact hw
theorem swapped {x y : ScopeNode} (h : fG x y) (hl : x.Kids.length = 2) (h35 : x.Op = 3 ∨ x.Op = 5) : ∃ a b, y.Kids = [a, b] ∧ fG x { y with Kids := [b, a] } := by
 obtain ⟨h1, h2, h3, h4⟩ := h
 rcases h4 with h4 | ⟨_, a, b, e1, e2⟩
 ·match hk : x.Kids, hl with
  | [a, b], _ => exact ⟨a, b, by rw [h4, hk], h1, h2, h3, .inr ⟨h35, a, b, hk, rfl⟩⟩
 ·exact ⟨b, a, e2, h1, h2, h3, .inl e1.symm⟩
theorem aG6 {l0 : List ScopeNode} (h2 : ∀ (i : Int) x, idx l0 i = some x → (x.Op = 3 ∨ x.Op = 5) → x.Kids.length = 2) (h0 : 0 < l0.length) (hb : l0.length ≤ 2000000) {l : List Int} (hl : l.length ≤ 60) (suf : List Int) : ∀ (pre : List Int) (k : Nat) (ns : List ScopeNode), l = pre ++ suf → suf.length < k → (∀ a ∈ suf, 0 ≤ a ∧ a ≤ 255) → RelL l0 ns → ∃ r, lN l k pre.length ns = some r ∧ RelL l0 r := by
 induction suf with
 | nil =>
  intro pre k ns hx hk _ hr
  obtain _ | k := k
  ·omega
  have hl' := congrArg List.length hx
  rw [List.append_nil] at hl'
  exact ⟨ns, by rw [lN, if_neg (by omega)], hr⟩
 | cons a suf ih =>
  intro pre k ns hx hk hbd hr
  obtain _ | k := k
  ·omega
  have hl' := congrArg List.length hx
  rw [List.length_append, List.length_cons] at hl'
  simp only [List.length_cons] at hk
  have len := hr.1
  obtain ⟨z, hz, z0, zl⟩ := rem_ok (hbd a (List.mem_cons_self ..)) (b := (ns.length : Int)) (by omega)
  obtain ⟨x, hx0⟩ := cH (xs := l0) z0 (by omega)
  obtain ⟨y, hy, hr0⟩ := hr.2 z x hx0
  have go : ∀ ns', RelL l0 ns' → ∃ r, ((chk ((pre.length : Int) + 1)).bind fun z2 => lN l k z2 ns') = some r ∧ RelL l0 r := fun ns' hr' => by
   rw [aP (by omega), bsm, bS pre a]
   exact ih (pre ++ [a]) k ns' (by rw [hx]; exact cE _ _ _) (by omega) (fun b hb' => hbd b (List.mem_cons_of_mem _ hb')) hr'
  rw [lN, if_pos (by omega), show idx l (pre.length : Int) = some a from by rw [hx]; exact cA _ _ _, bsm, hz, bsm, hy, bsm]
  by_cases h35 : x.Op = 3 ∨ x.Op = 5
  ·obtain ⟨u, v, ek, er⟩ := swapped hr0 (h2 z x hx0 h35) h35
   have body : ((idx y.Kids 1).bind fun k1' => (idx y.Kids 0).bind fun k0' => (idx (y.Kids.set (0 : Int).toNat k1') 1).bind fun _ => some (ns.set z.toNat { y with Kids := (y.Kids.set (0 : Int).toNat k1').set (1 : Int).toNat k0' })) = some (ns.set z.toNat { y with Kids := [v, u] }) := by
    rw [ek]; rfl
   have op := hr0.1
   by_cases h3 : y.Op = 3
   ·rw [if_pos h3, body, bsm]
    exact go _ (hr.set hx0 er)
   ·rw [if_neg h3, if_pos (by omega), body, bsm]
    exact go _ (hr.set hx0 er)
  ·have op := hr0.1
   rw [if_neg (by omega), if_neg (by omega), bsm]
   exact go _ (hr.set hx0 hr0)
theorem aGO {p : ScopeProg} {l : List Int} (hp : SmP p) (_ : l.length ≤ 2000000) (hw : ∀ a ∈ l, (Lit.int .u8 a).wf = true) : aAF F p l = some true := by
 have hpp : (⟨p.Free, p.Nodes, p.Defs, p.Main⟩ : ScopeProg) = p := rfl
 rw [aAF, hpp, aE0 hp]
 cases h : eC p with
 | none => rw [show (if (none : Option VS).isSome = true then (0 : Int) else 2) = 2 from rfl, bsm (a := (2 : Int)), if_pos (by decide), aFc, bsm]
 | some s =>
  obtain ⟨t, L, t1, _, S⟩ := sees hp h
  obtain ⟨H, h1, h2, _, _, hT, hl, _, _, hz, hall, _⟩ := yF h
  obtain ⟨R, g, hR, r1⟩ := aDi hp h t1 S
  rw [show (if (some s : Option VS).isSome = true then (0 : Int) else 2) = 0 from rfl, bsm (a := (0 : Int)), if_neg (show ¬ (0 : Int) ≠ 0 from fun q => q rfl), r1, bsm, copyo_eq hp, bsm]
  have pos : 0 < p.Nodes.length := by
   obtain _ | H := H
   ·exact hT.elim
   ·omega
  have kids : ∀ (i : Int) x, idx p.Nodes i = some x → (x.Op = 3 ∨ x.Op = 5) → x.Kids.length = 2 := fun i x hx h35 => by
   have li := eA hx
   obtain ⟨e, he⟩ := hall i li.1 li.2
   rw [← h1] at he
   obtain ⟨hO, _⟩ := S.subs he hx
   rcases hO with h | h | h | h | h <;> first | exact h.2 | omega
  have hsl : slc l 0 (min (l.length : Int) 60) = some (l.take (min (l.length : Int) 60).toNat) := by unfold slc; rw [if_pos (by omega)]; rfl
  have hlen : (l.take (min (l.length : Int) 60).toNat).length ≤ 60 := by rw [List.length_take]; omega
  obtain ⟨ns, en, rl⟩ := aG6 kids pos hp.nodes hlen _ [] F p.Nodes rfl (by show _ < 4000000; omega) (fun a ha => u8_bd (hw a (List.mem_of_mem_take ha))) ⟨rfl, fun i x hx => ⟨x, hx, fG.refl⟩⟩
  rw [hsl, bsm, show lN _ F 0 p.Nodes = some ns from en, bsm, if_neg (show ¬ (0 : Int) ≠ 0 from fun q => q rfl)]
  generalize hq : (⟨p.Free, ns, p.Defs, p.Main⟩ : ScopeProg) = q
  have r : Rel p q := by
   rw [← hq]
   exact ⟨rfl, rfl, rfl, rl.1, rl.2⟩
  have sq : SmP q := by
   refine ⟨by rw [r.len]; exact hp.nodes, by rw [r.defs]; exact hp.defs, by rw [r.free]; exact hp.free, by rw [r.free]; exact hp.names, fun y hy => ?_, by rw [r.defs]; exact hp.dfs⟩
   obtain ⟨i, hi, rfl⟩ := List.mem_iff_getElem.1 hy
   obtain ⟨x, hx, hr⟩ := r.symm.at_ (i : Int) _ (bE (List.getElem?_eq_getElem hi))
   have a := hp.args x (dU hx)
   have k := hr.kids
   have b := hr.2.2.1
   exact ⟨by rw [← b]; exact a.1, by omega, by rw [← b]; exact a.2.2⟩
  obtain ⟨s', h'⟩ := r.chk h
  obtain ⟨t', L', t1', _, S'⟩ := sees sq h'
  rw [r.len] at S'
  obtain ⟨R', g', hR', r2⟩ := aDi sq h' t1' (by rw [r.len]; exact S')
  rw [r.len] at g' hR' r2
  have okF := tI (H := p.Nodes.length) g.ok
  have kF := aF5 (p := p) (H := p.Nodes.length) g.ku
  have okF' := tI (H := p.Nodes.length) g'.ok
  have kF' := aF5 (p := q) (H := p.Nodes.length) g'.ku
  have e3 := aGF sq h' t1' (by rw [r.len]; exact S') (okF.sm S)
  rw [if_pos (good_of (r.okTab okF) kF), r.len, r.accepted S S' g hR] at e3
  rw [aE0 sq, h', show (if (some s' : Option VS).isSome = true then (0 : Int) else 2) = 0 from rfl, bsm (a := (0 : Int)), if_neg (show ¬ (0 : Int) ≠ 0 from fun q => q rfl), r2, bsm, e3, bsm, if_pos rfl, if_pos rfl, cond_true,
   aD8 S okF (r.symm.okTab okF') kF kF' (r.low S S' g g' hR'), bsm, cond_true, aD8 S (r.symm.okTab okF') okF kF' kF (r.symm.low S' S g' g hR), bsm, cond_true, aFc, bsm, bsm]
end Go.Proofs.YtmnbfgeljmhekaaGreat
namespace Go.SW
open Go.SX
theorem aGW {w w' : World} (h : w.keptBut w' (fun _ => False)) {p : MemPlace} (hp : p.block < w.heap.size) : w.sameAt w' p := by
 obtain ⟨_, _, h⟩ := h
 cases p with
 | cell b off =>
  have := h b hp
  show w'.cell? _ = w.cell? _
  unfold World.cell?
  dsimp only at *
  cases h1 : w.heap[b]? with
  | none => rw [h1] at this; dsimp only at this; rw [this]
  | some o =>
   rw [h1] at this
   cases o with
   | cells c t fr =>
    cases h2 : w'.heap[b]? with
    | none => rw [h2] at this; cases this
    | some o' =>
     rw [h2] at this
     cases o' with
     | cells c' t' fr' =>
      dsimp only at this ⊢
      rw [this.2.2.2 off (fun f => f)]
     | _ => cases this
   | map es clock =>
    cases h2 : w'.heap[b]? with
    | none => rfl
    | some o' =>
     rw [h2] at this
     cases o' with
     | cells => cases this
     | _ => rfl
   | _ => dsimp only at this; rw [this]
 | map b =>
  have := h b hp
  show w'.heap[b]? = w.heap[b]?
  cases h1 : w.heap[b]? with
  | none => rw [h1] at this; exact this
  | some o =>
   rw [h1] at this
   cases o with
   | cells c t fr =>
    cases h2 : w'.heap[b]? with
    | none => rw [h2] at this; cases this
    | some o' =>
     rw [h2] at this
     cases o' with
     | cells c' t' fr' =>
      dsimp only at this
      obtain ⟨rfl, rfl, hs, hc⟩ := this
      have : c' = c := Array.ext_getElem? fun j => hc j (fun f => f)
      rw [this]
     | _ => cases this
   | map es clock =>
    cases h2 : w'.heap[b]? with
    | none => rw [h2] at this; cases this
    | some o' =>
     rw [h2] at this
     cases o' with
     | map es' clock' =>
      rcases this with f | ⟨rfl, rfl⟩
      ·exact f.elim
      ·rfl
     | _ => cases this
   | _ => exact this
theorem aFe {H : Type} {enc : TypeId × Value → H} {P : Program} {W W' : World} (hl : laidOutB P = true) (hm : mapsRowed P = true) (hz : ∀ t e, t < P.types.size → P.underlying t = some (.slice e) → 0 < P.cellsOf e) (hk : W.keptBut W' (fun _ => False)) :
  ∀ {ts : List TypeId} {vs : List Value} {ds : List (DataW H)} {ps : List MemPlace}, (∀ t ∈ ts, t < P.types.size) → DataW.TrodAll enc P W 0 (fun _ => true) true ts vs ds ps → DataW.TrodAll enc P W' 0 (fun b => decide (b < W.heap.size)) true ts vs ds ps
 | [], [], [], _, _, h => h
 | t :: _, _ :: _, _ :: _, ps, ht, h => by
  have hlt := h.lt
  obtain ⟨p, q, ⟨n, hn⟩, h2, e⟩ := h
  refine ⟨p, q, ⟨n, ?_⟩, aFe hl hm hz hk (fun t h => ht t (.tail _ h)) h2, e⟩
  have hp : ∀ x ∈ p, x.block < W.heap.size := fun x hx => hlt x (by rw [e]; exact List.mem_append_left _ hx)
  exact DataW.trod_stays (kids_rows hl hm) (fun a b => hz _ _ a b) (fun f => by cases f) (ht t (.head _)) hn (fun x hx => aGW hk (hp x hx)) (fun x hx => decide_eq_true (hp x hx))
 | [], _ :: _, _, _, _, h => h.elim
 | [], [], _ :: _, _, _, h => h.elim
 | _ :: _, [], _, _, _, h => h.elim
 | _ :: _, _ :: _, [], _, _, h => h.elim
end Go.SW
