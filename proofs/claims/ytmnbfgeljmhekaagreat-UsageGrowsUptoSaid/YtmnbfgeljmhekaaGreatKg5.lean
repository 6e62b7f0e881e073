/- Parts of the proof: lemmas, and the steps through the program. -/
import Derived.Test.YtmnbfgeljmhekaaGreatKg4
set_option linter.unusedVariables false
set_option linter.unusedSimpArgs false
set_option maxRecDepth 100000
namespace Go.Proofs.YtmnbfgeljmhekaaGreat
open Go.SX Go.SW Go.Dt
section
variable {p : ScopeProg} {t : Usage_text} {L : bP} {H : Nat} {tab : List UsageDef} {d n : Int} {e : E} {x : ScopeNode} {D : ScopeDef}
theorem asks4 {r : ScopeRule} {sv : Int → Int} {acc : List Int} (hJ : r.Joins.length ≤ 3) (hs : ∀ v, fA F t tab r.Node v = some (sv v)) (suf : List Int) : ∀ (pre : List Int) (k : Nat) (f : Nat → Nat → Int) (at_ : Int), r.Joins = pre ++ suf → suf.length < k → 0 ≤ at_ → at_ + 3 * suf.length ≤ 90000 → (∀ j ∈ suf, ∃ y, idx D.Chans j = some y ∧ 0 ≤ y.Many ∧ y.Many ≤ 3) →
  lW F t tab r acc k (gG D f) at_ pre.length = some (gG D fun c i => iB sv D (c : Int) (i : Int) suf at_ (f c i), acc) := by
 induction suf with
 | nil =>
  intro pre k f at_ hx hk _ _ _
  obtain _ | k := k
  ·omega
  rw [lW, if_neg (show ¬ (pre.length : Int) < (r.Joins.length : Int) from by rw [hx]; simp)]; rfl
 | cons j suf ih =>
  intro pre k f at_ hx hk h0 h1 hj
  obtain _ | k := k
  ·omega
  obtain ⟨y, hy, y0, y3⟩ := hj j (List.mem_cons_self ..)
  have hl := congrArg List.length hx
  rw [List.length_append, List.length_cons] at hl
  simp only [List.length_cons] at hk h1
  have jl := eY hy
  obtain ⟨c, rfl⟩ : ∃ c : Nat, j = (c : Int) := ⟨j.toNat, by omega⟩
  have hr : idx (gG D f) (c : Int) = some ((List.range (mny D (c : Int)).toNat).map fun i : Nat => f c i) := jT (by omega)
  have hm := nV hy
  rw [lW, if_pos (show (pre.length : Int) < (r.Joins.length : Int) from by rw [hx]; exact cC pre suf _), show idx r.Joins (pre.length : Int) = some (c : Int) from by rw [hx]; exact cE pre suf _, bsm, hr, bsm,
   asks5 (sv := sv) (m := (mny D (c : Int)).toNat) (f := fun i => f c i) (by omega) (by omega) ⟨_, hr⟩ (by simp) hs, bsm]
  dsimp only
  rw [aQ (by omega), bsm, bS pre (c : Int), Int.toNat_natCast]
  have hset : (gG D f).set c ((List.range (mny D (c : Int)).toNat).map fun i : Nat => max (f c i) (sv (at_ + (i : Int)))) = gG D fun c' i => if (c : Int) = (c' : Int) then max (f c' i) (sv (at_ + (i : Int))) else f c' i := by
   unfold gG
   rw [wU]
   apply List.map_congr_left
   intro c' hc'
   by_cases q : c' = c
   ·subst q
    rw [if_pos rfl]
    apply List.map_congr_left
    intro i _
    exact (if_pos rfl).symm
   ·rw [if_neg q]
    apply List.map_congr_left
    intro i _
    exact (if_neg (by omega)).symm
  rw [hset, ih (pre ++ [(c : Int)]) k _ _ (by rw [hx]; exact cH pre suf _) (by omega) (by omega) (by omega) (fun z hz => hj z (List.mem_cons_of_mem _ hz))]
  rw [show (((mny D (c : Int)).toNat : Nat) : Int) = mny D (c : Int) from by omega]
  rfl
theorem asks2 (S : bO p t L H) (h : dY p H d n e x D) (hk : cK p tab) (ht : idx t.heads d = some n) (suf : List ScopeRule) : ∀ (pre : List ScopeRule) (k : Nat) (f : Nat → Nat → Int) (acc : List Int), D.Rules = pre ++ suf → suf.length < k → acc.length = pre.length →
  lI F t tab d D k (gG D f) pre.length acc = some (gG D fun c i => gR (eA tab d) ((e.length : Int) + (D.Chans.length : Int) + (D.Spots.length : Int)) (fun r v => snd p tab (r.Node, ruE e d D r) v) D (c : Int) (i : Int) suf pre.length (f c i), acc ++ suf.map fun r => eN (minJ (eZ tab d) r.Joins)) := by
 obtain ⟨X, hX, ok1⟩ := qE hk h.hD
 have ho := dR h.ok
 have e1 : eZ tab d = X.Chans := by unfold eZ; rw [hX]; rfl
 have e2 : eA tab d = X.Rules := by unfold eA; rw [hX]; rfl
 have el := S.elen _ h.ln
 dsimp only at el
 induction suf with
 | nil =>
  intro pre k f acc hx hk _
  obtain _ | k := k
  ·omega
  rw [lI, if_neg (show ¬ (pre.length : Int) < (D.Rules.length : Int) from by rw [hx]; simp), List.map_nil, List.append_nil]; rfl
 | cons r suf ih =>
  intro pre k f acc hx hkk ha
  obtain _ | k := k
  ·omega
  have hl := congrArg List.length hx
  rw [List.length_append, List.length_cons] at hl
  simp only [List.length_cons] at hkk
  have hr : r ∈ D.Rules := by rw [hx]; exact List.mem_append_right _ (List.mem_cons_self ..)
  obtain ⟨j1, j2⟩ := ho.2.2.2.2 r hr
  obtain ⟨z, hz⟩ := cQ (xs := X.Rules) (i := (pre.length : Int)) (by omega) (by rw [ok1.rules]; omega)
  have kz : kc (eA tab d) (pre.length : Int) = cnt z := by unfold kc; rw [e2, hz]; rfl
  have hm : (r.Node, ruE e d D r) ∈ LN p H (cF p) := by
   have := (S.subs h.ln h.hx).2 _ (yR (e := e) h.op (by rw [h.hN]; exact h.hD) hr)
   rwa [h.hN] at this
  have hs : ∀ v, fA F t tab r.Node v = some (snd p tab (r.Node, ruE e d D r) v) := fun v => by
   obtain ⟨q, ⟨q1, rfl⟩, q2, _⟩ := S.sends hk hm v (f := F) (f' := F) (by show _ ≤ 4000000; omega) (by show _ ≤ 4000000; omega)
   exact q2
  have next : ∀ g : Nat → Nat → Int, lI F t tab d D k (gG D g) ((pre.length : Int) + 1) (acc ++ [eN (minJ (eZ tab d) r.Joins)]) = some (gG D fun c i => gR (eA tab d) ((e.length : Int) + (D.Chans.length : Int) + (D.Spots.length : Int)) (fun r v => snd p tab (r.Node, ruE e d D r) v) D (c : Int) (i : Int) suf ((pre.length : Int) + 1) (g c i), acc ++ (r :: suf).map fun r => eN (minJ (eZ tab d) r.Joins)) := fun g => by
   rw [bS pre r, ih (pre ++ [r]) k g _ (by rw [hx]; exact cH pre suf r) (by omega) (by simp [ha]), List.map_cons, List.append_assoc, List.singleton_append]
  rw [lI, if_pos (show (pre.length : Int) < (D.Rules.length : Int) from by rw [hx]; exact cC pre suf r), show idx D.Rules (pre.length : Int) = some r from by rw [hx]; exact cE pre suf r, bsm,
   show mZ tab d r F 2 0 = _ from asks3 hX j1 r.Joins [] F 2 rfl (by show _ < 4000000; omega) (fun j hj => by obtain ⟨y, hy, _⟩ := j2 j hj; have := eY hy; exact cQ this.1 (by rw [ok1.chans]; exact this.2)), bsm, aAZ, bsm,
   show r.Joins.foldl (fun w j => min w (kc X.Chans j)) 2 = minJ (eZ tab d) r.Joins from by rw [e1]; rfl, eI (by simp; omega), bsm, hX, bsm, hz, bsm, of_p, bsm]
  by_cases c0 : cnt z = 0
  ·rw [if_pos c0, bsm]
   dsimp only
   rw [aQ (by omega), bsm, next f]
   simp only [gR, kz, c0, if_true]
  ·rw [if_neg c0, aB0 S h ht (by omega), bsm, aQ (by omega), bsm, show lW F t tab r _ F (gG D f) _ 0 = _ from asks4 (D := D) j1 hs r.Joins [] F f _ rfl (by show _ < 4000000; omega) (by omega) (by omega) j2, bsm]
   dsimp only
   rw [aQ (by omega), bsm, next]
   simp only [gR, kz, c0, if_false]
theorem asks7 {m : Nat} {f : Nat → Int} (hm : m ≤ 100) : lT ((List.range m).map f) F [] 0 = some ((List.range m).map fun i => eN (f i)) := by
 refine fI (fun k (s : List Int × Int) => lT ((List.range m).map f) k s.1 s.2) m (fun i => ((List.range i).map fun i => eN (f i), (i : Int))) _ (fun k i hi => ?_) (fun k => ?_) (by show _ < 4000000; omega)
 ·dsimp only
  rw [lT, if_pos (by simp; omega), jT hi, bsm, aAZ, bsm, eI (by simp; omega), bsm, aQ (by omega), bsm]
  congr 1
  exact qK (f := fun i => eN (f i))
 ·dsimp only
  rw [lT, if_neg (by simp)]
theorem asks6 {f : Nat → Nat → Int} (hn : D.Chans.length ≤ 30) (hm : ∀ c ∈ D.Chans, 0 ≤ c.Many ∧ c.Many ≤ 3) : mY F (gG D f) F (gG D f) 0 [] = some (gG D fun c i => eN (f c i)) := by
 refine fI (fun k (s : List (List Int) × Int × List (List Int)) => mY F (gG D f) k s.1 s.2.1 s.2.2) D.Chans.length (fun i => (gG D f, (i : Int), (List.range i).map fun c : Nat => (List.range (mny D (c : Int)).toNat).map fun i : Nat => eN (f c i))) _ (fun k i hi => ?_) (fun k => ?_) (by show _ < 4000000; omega)
 ·dsimp only
  obtain ⟨y, hy⟩ := nY hi
  have := hm y (dQ hy)
  rw [mY, if_pos (by simp; omega), jT hi, bsm, asks7 (by rw [nV hy]; omega), bsm, eI (by simp; omega), bsm, bsm]
  dsimp only
  rw [aQ (by omega), bsm, Int.toNat_natCast, wU]
  congr 1
  ·apply List.map_congr_left
   intro c _
   by_cases q : c = i
   ·rw [if_pos q, q]
   ·rw [if_neg q]
  ·exact qK (f := fun c : Nat => (List.range (mny D (c : Int)).toNat).map fun i : Nat => eN (f c i))
 ·dsimp only
  rw [mY, if_neg (by simp)]
theorem asks_eq (S : bO p t L H) (hk : cK p tab) (h : dY p H d n e x D) (ht : idx t.heads d = some n) : uL F t tab d = some (eK p tab d x D e) := by
 have ho := dR h.ok
 rw [uL, S.prog, h.hD, bsm, mk_ok (by omega), bsm, asks1 S hk h ht, bsm]
 dsimp only
 rw [show lI F t tab d D F (gG D fun _ _ => 0) 0 [] = _ from asks2 S h hk ht D.Rules [] F _ [] rfl (by show _ < 4000000; omega) rfl, bsm]
 dsimp only
 rw [asks6 (by omega) ho.2.2.2.1, bsm]
 rfl
end
end Go.Proofs.YtmnbfgeljmhekaaGreat
set_option maxRecDepth 100000
namespace Go.Proofs.YtmnbfgeljmhekaaGreat
open Go.SX Go.SW Go.Dt
section
variable {p : ScopeProg} {t : Usage_text} {L : bP} {H : Nat} {tab : List UsageDef} {d n : Int} {e : E} {x : ScopeNode} {D : ScopeDef}
def gX (D : ScopeDef) : List Int → Int
 | [] => 0
 | j :: l => mny D j + gX D l
theorem aDa (D : ScopeDef) : ∀ (a b : List Int), gX D (a ++ b) = gX D a + gX D b
 | [], b => by simp [gX]
 | j :: a, b => by rw [List.cons_append, gX, gX, aDa D a b]; omega
theorem brought1 {r : ScopeRule} {k0 : Int} (hr : idx D.Rules k0 = some r) (pre suf : List Int) (hx : r.Joins = pre ++ suf) (hj : ∀ j ∈ r.Joins, ∃ y, idx D.Chans j = some y ∧ 0 ≤ y.Many ∧ y.Many ≤ 3) (mid : List Int) : ∀ (done : List Int) (k : Nat) (w : Int), pre = done ++ mid → mid.length < k → 0 ≤ w → w + 3 * mid.length ≤ 100000 → done.length + mid.length ≤ 1000 →
  tO k0 pre.length D k w done.length = some (w + gX D mid) := by
 induction mid with
 | nil =>
  intro done k w hp hk _ _ _
  obtain _ | k := k
  ·omega
  rw [tO, if_neg (show ¬ (done.length : Int) < (pre.length : Int) from by rw [hp]; simp), gX, Int.add_zero]
 | cons j mid ih =>
  intro done k w hp hk h0 h1 h2
  obtain _ | k := k
  ·omega
  have hi : idx r.Joins (done.length : Int) = some j := by rw [hx, hp, List.append_assoc]; exact cE _ _ _
  obtain ⟨y, hy, y0, y3⟩ := hj j (dQ hi)
  simp only [List.length_cons] at hk h1 h2
  rw [tO, if_pos (show (done.length : Int) < (pre.length : Int) from by rw [hp]; exact cC _ _ _), hr, bsm, hi, bsm, hy, bsm, aQ (by omega), bsm, aQ (by omega), bsm, bS done j,
   ih (done ++ [j]) k _ (by rw [hp]; exact cH _ _ _) (by omega) (by omega) (by omega) (by simp; omega), gX, nV hy]
  congr 1; omega
theorem aF6 (S : bO p t L H) (h : dY p H d n e x D) (hL : idx L.Heads d = some n) {r : ScopeRule} {k0 : Int} (hr : idx D.Rules k0 = some r) (pre suf : List Int) (hx : r.Joins = pre ++ suf) {i : Int} (hi : 0 ≤ i ∧ i ≤ 100) :
  aBc F L d k0 pre.length i = some ((e.length : Int) + (D.Chans.length : Int) + (D.Spots.length : Int) + gX D pre + i) := by
 have ho := dR h.ok
 have el := S.elen _ h.ln
 dsimp only at el
 obtain ⟨j1, j2⟩ := ho.2.2.2.2 r (dQ hr)
 have hl := congrArg List.length hx
 rw [List.length_append] at hl
 rw [aBc, S.rprog, h.hD, bsm, hL, bsm, S.size _ h.ln, bsm]
 dsimp only
 rw [aQ (by omega), bsm, aQ (by omega), bsm, aQ (by omega), bsm, show tO k0 pre.length D F _ 0 = _ from brought1 hr pre suf hx j2 pre [] F _ rfl (by show _ < 4000000; omega) (by omega) (by omega) (by simp; omega), bsm]
 congr 1; omega
theorem arg2 (S : bO p t L H) (h : dY p H d n e x D) (hk : cK p tab) (hL : idx L.Heads d = some n) {X : UsageDef} (hX : idx tab d = some X) {r : ScopeRule} {k0 : Int} (hr : idx D.Rules k0 = some r) {z : Int} (hz : idx X.Rules k0 = some z) {c i : Int} (hi : 0 ≤ i ∧ i ≤ 100) (hs : ∀ v, gZ F L tab r.Node v = some (snd p tab (r.Node, ruE e d D r) v)) (suf : List Int) :
  ∀ (pre : List Int) (k : Nat) (w : Int), r.Joins = pre ++ suf → suf.length < k →
  rA F L tab d c i D k0 k w pre.length = some (if cnt z = 0 then w else iB (snd p tab (r.Node, ruE e d D r)) D c i suf ((e.length : Int) + (D.Chans.length : Int) + (D.Spots.length : Int) + gX D pre) w) := by
 have ho := dR h.ok
 obtain ⟨j1, j2⟩ := ho.2.2.2.2 r (dQ hr)
 induction suf with
 | nil =>
  intro pre k w hx hkk
  obtain _ | k := k
  ·omega
  rw [rA, hr, bsm, if_neg (show ¬ (pre.length : Int) < (r.Joins.length : Int) from by rw [hx]; simp), iB]
  split <;> rfl
 | cons j suf ih =>
  intro pre k w hx hkk
  obtain _ | k := k
  ·omega
  have hl := congrArg List.length hx
  rw [List.length_append, List.length_cons] at hl
  simp only [List.length_cons] at hkk
  have hi' : idx r.Joins (pre.length : Int) = some j := by rw [hx]; exact cE _ _ _
  have next : ∀ w', rA F L tab d c i D k0 k w' ((pre.length : Int) + 1) = some (if cnt z = 0 then w' else iB (snd p tab (r.Node, ruE e d D r)) D c i suf ((e.length : Int) + (D.Chans.length : Int) + (D.Spots.length : Int) + gX D pre + mny D j) w') := fun w' => by
   rw [bS pre j, ih (pre ++ [j]) k w' (by rw [hx]; exact cH _ _ _) (by omega), aDa, gX, gX, Int.add_zero, Int.add_assoc _ (gX D pre)]
  rw [rA, hr, bsm, if_pos (show (pre.length : Int) < (r.Joins.length : Int) from by rw [hx]; exact cC _ _ _), bsm, hi', bsm, iB]
  by_cases hc : j = c
  ·rw [if_pos hc, if_pos hc, hX, bsm, hz, bsm, of_r, bsm]
   by_cases c0 : cnt z = 0
   ·rw [if_neg (show ¬ 0 < cnt z from by omega), bsm, aQ (by omega), bsm, next, if_pos c0, if_pos c0]
   ·have := iI z
    rw [if_pos (show 0 < cnt z from by unfold two at this; omega), bsm, aF6 S h hL hr pre (j :: suf) hx hi, bsm, hs, bsm, bsm, aQ (by omega), bsm, next, if_neg c0, if_neg c0]
  ·rw [if_neg hc, if_neg hc, bsm, aQ (by omega), bsm, next]
theorem arg1 (S : bO p t L H) (h : dY p H d n e x D) (hk : cK p tab) (hL : idx L.Heads d = some n) {c i : Int} (hi : 0 ≤ i ∧ i ≤ 100) (suf : List ScopeRule) : ∀ (pre : List ScopeRule) (k : Nat) (w : Int), D.Rules = pre ++ suf → suf.length < k →
  vK F L tab d c i D k w pre.length = some (gR (eA tab d) ((e.length : Int) + (D.Chans.length : Int) + (D.Spots.length : Int)) (fun r v => snd p tab (r.Node, ruE e d D r) v) D c i suf pre.length w) := by
 obtain ⟨X, hX, ok1⟩ := qE hk h.hD
 have ho := dR h.ok
 have e2 : eA tab d = X.Rules := by unfold eA; rw [hX]; rfl
 induction suf with
 | nil =>
  intro pre k w hx hkk
  obtain _ | k := k
  ·omega
  rw [vK, if_neg (show ¬ (pre.length : Int) < (D.Rules.length : Int) from by rw [hx]; simp)]; rfl
 | cons r suf ih =>
  intro pre k w hx hkk
  obtain _ | k := k
  ·omega
  have hl := congrArg List.length hx
  rw [List.length_append, List.length_cons] at hl
  simp only [List.length_cons] at hkk
  have hr' : idx D.Rules (pre.length : Int) = some r := by rw [hx]; exact cE _ _ _
  have hr := dQ hr'
  obtain ⟨j1, j2⟩ := ho.2.2.2.2 r hr
  obtain ⟨z, hz⟩ := cQ (xs := X.Rules) (i := (pre.length : Int)) (by omega) (by rw [ok1.rules]; omega)
  have kz : kc (eA tab d) (pre.length : Int) = cnt z := by unfold kc; rw [e2, hz]; rfl
  have hm : (r.Node, ruE e d D r) ∈ LN p H (cF p) := by
   have := (S.subs h.ln h.hx).2 _ (yR (e := e) h.op (by rw [h.hN]; exact h.hD) hr)
   rwa [h.hN] at this
  have hs : ∀ v, gZ F L tab r.Node v = some (snd p tab (r.Node, ruE e d D r) v) := fun v => by
   obtain ⟨q, ⟨q1, rfl⟩, _, q2⟩ := S.sends hk hm v (f := F) (f' := F) (by show _ ≤ 4000000; omega) (by show _ ≤ 4000000; omega)
   exact q2
  rw [vK, if_pos (show (pre.length : Int) < (D.Rules.length : Int) from by rw [hx]; exact cC _ _ _), show rA F L tab d c i D (pre.length : Int) F w 0 = _ from arg2 S h hk hL hX hr' hz hi hs r.Joins [] F w rfl (by show _ < 4000000; omega), bsm, aQ (by omega), bsm, bS pre r,
   ih (pre ++ [r]) k _ (by rw [hx]; exact cH _ _ _) (by omega), gR, kz, gX, Int.add_zero, bS pre r]
theorem least2 (S : bO p t L H) (h : dY p H d n e x D) (hk : cK p tab) (hL : idx L.Heads d = some n) {c : Nat} (hc : c < D.Chans.length) : tP F L tab d D (c : Int) F [] 0 = some ((List.range (mny D (c : Int)).toNat).map fun i : Nat => eN (gR (eA tab d) ((e.length : Int) + (D.Chans.length : Int) + (D.Spots.length : Int)) (fun r v => snd p tab (r.Node, ruE e d D r) v) D (c : Int) (i : Int) D.Rules 0 0)) := by
 have ho := dR h.ok
 obtain ⟨y, hy⟩ := nY hc
 have hm := ho.2.2.2.1 y (dQ hy)
 have e1 := nV hy
 refine fI (fun k (s : List Int × Int) => tP F L tab d D (c : Int) k s.1 s.2) (mny D (c : Int)).toNat (fun i => ((List.range i).map fun i : Nat => eN (gR (eA tab d) ((e.length : Int) + (D.Chans.length : Int) + (D.Spots.length : Int)) (fun r v => snd p tab (r.Node, ruE e d D r) v) D (c : Int) (i : Int) D.Rules 0 0), (i : Int))) _ (fun k i hi => ?_) (fun k => ?_) (by show _ < 4000000; omega)
 ·dsimp only
  rw [tP, hy, bsm, if_pos (by omega), aFu, S.rprog, h.hD, bsm, show vK F L tab d (c : Int) (i : Int) D F 0 0 = _ from arg1 S h hk hL (by omega) D.Rules [] F 0 rfl (by show _ < 4000000; omega), bsm, bsm, aCo, bsm, eI (by simp; omega), bsm, aQ (by omega), bsm]
  congr 1
  exact qK (f := fun i : Nat => eN (gR (eA tab d) ((e.length : Int) + (D.Chans.length : Int) + (D.Spots.length : Int)) (fun r v => snd p tab (r.Node, ruE e d D r) v) D (c : Int) (i : Int) D.Rules 0 0))
 ·dsimp only
  rw [tP, hy, bsm, if_neg (by omega)]
theorem least1 (S : bO p t L H) (h : dY p H d n e x D) (hk : cK p tab) (hL : idx L.Heads d = some n) : vN F L tab d D F 0 [] [] = some ((eK p tab d x D e).Chans, (eK p tab d x D e).Args) := by
 have ho := dR h.ok
 refine fI (fun k (s : Int × List Int × List (List Int)) => vN F L tab d D k s.1 s.2.1 s.2.2) D.Chans.length (fun i => ((i : Int), (List.range i).map fun c : Nat => eN (iO tab x D e fun k => snd p tab k ((e.length : Int) + (c : Int))),
  (List.range i).map fun c : Nat => (List.range (mny D (c : Int)).toNat).map fun i : Nat => eN (gR (eA tab d) ((e.length : Int) + (D.Chans.length : Int) + (D.Spots.length : Int)) (fun r v => snd p tab (r.Node, ruE e d D r) v) D (c : Int) (i : Int) D.Rules 0 0))) _ (fun k i hi => ?_) (fun k => ?_) (by show _ < 4000000; omega)
 ·dsimp only
  obtain ⟨r, ⟨r1, rfl⟩, _, r2⟩ := S.inner hk h ((e.length : Int) + (i : Int))
  rw [vN, if_pos (by omega), hL, bsm, aEw S h hL (by omega), bsm, r2, bsm, aCo, bsm, eI (by simp; omega), bsm, least2 S h hk hL hi, bsm, eI (by simp; omega), bsm, bsm]
  dsimp only
  rw [aQ (by omega), bsm]
  congr 1
  ·exact qK (f := fun c : Nat => eN (iO tab x D e fun k => snd p tab k ((e.length : Int) + (c : Int))))
  ·exact qK (f := fun c : Nat => (List.range (mny D (c : Int)).toNat).map fun i : Nat => eN (gR (eA tab d) ((e.length : Int) + (D.Chans.length : Int) + (D.Spots.length : Int)) (fun r v => snd p tab (r.Node, ruE e d D r) v) D (c : Int) (i : Int) D.Rules 0 0))
 ·dsimp only
  rw [vN, if_neg (by omega)]; rfl
theorem least4 {X : UsageDef} (hX : idx tab d = some X) {r : ScopeRule} {k0 : Int} (hr : idx D.Rules k0 = some r) (hJ : r.Joins.length ≤ 3) (suf : List Int) : ∀ (pre : List Int) (k : Nat) (w : Int), r.Joins = pre ++ suf → suf.length < k → (∀ j ∈ suf, ∃ y, idx X.Chans j = some y) → vP tab d D k0 k w pre.length = some (suf.foldl (fun w j => min w (kc X.Chans j)) w) := by
 induction suf with
 | nil =>
  intro pre k w hx hk _
  obtain _ | k := k
  ·omega
  rw [vP, hr, bsm, if_neg (show ¬ (pre.length : Int) < (r.Joins.length : Int) from by rw [hx]; simp)]; rfl
 | cons j suf ih =>
  intro pre k w hx hk hj
  obtain _ | k := k
  ·omega
  obtain ⟨y, hy⟩ := hj j (List.mem_cons_self ..)
  have hl := congrArg List.length hx
  rw [List.length_append, List.length_cons] at hl
  simp only [List.length_cons] at hk
  rw [vP, hr, bsm, if_pos (show (pre.length : Int) < (r.Joins.length : Int) from by rw [hx]; exact cC pre suf j), hX, bsm, bsm, show idx r.Joins (pre.length : Int) = some j from by rw [hx]; exact cE pre suf j, bsm, hy, bsm, of_r, bsm, aQ (by omega), bsm, bS pre j,
   ih (pre ++ [j]) k _ (by rw [hx]; exact cH pre suf j) (by omega) (fun z hz => hj z (List.mem_cons_of_mem _ hz)), List.foldl_cons, show kc X.Chans j = cnt y from by unfold kc; rw [hy]; rfl]
theorem least3 (h : dY p H d n e x D) (hk : cK p tab) (suf : List ScopeRule) : ∀ (pre : List ScopeRule) (k : Nat) (acc : List Int), D.Rules = pre ++ suf → suf.length < k → acc.length = pre.length → vG F tab d D k pre.length acc = some (acc ++ suf.map fun r => eN (minJ (eZ tab d) r.Joins)) := by
 obtain ⟨X, hX, ok1⟩ := qE hk h.hD
 have ho := dR h.ok
 have e1 : eZ tab d = X.Chans := by unfold eZ; rw [hX]; rfl
 induction suf with
 | nil =>
  intro pre k acc hx hkk _
  obtain _ | k := k
  ·omega
  rw [vG, if_neg (show ¬ (pre.length : Int) < (D.Rules.length : Int) from by rw [hx]; simp), List.map_nil, List.append_nil]
 | cons r suf ih =>
  intro pre k acc hx hkk ha
  obtain _ | k := k
  ·omega
  have hl := congrArg List.length hx
  rw [List.length_append, List.length_cons] at hl
  simp only [List.length_cons] at hkk
  have hr' : idx D.Rules (pre.length : Int) = some r := by rw [hx]; exact cE _ _ _
  obtain ⟨j1, j2⟩ := ho.2.2.2.2 r (dQ hr')
  rw [vG, if_pos (show (pre.length : Int) < (D.Rules.length : Int) from by rw [hx]; exact cC _ _ _), show vP tab d D (pre.length : Int) F 2 0 = _ from least4 hX hr' j1 r.Joins [] F 2 rfl (by show _ < 4000000; omega) (fun j hj => by obtain ⟨y, hy, _⟩ := j2 j hj; have := eY hy; exact cQ this.1 (by rw [ok1.chans]; exact this.2)), bsm, aCo, bsm,
   eI (by simp; omega), bsm, bsm, aQ (by omega), bsm, bS pre r, ih (pre ++ [r]) k _ (by rw [hx]; exact cH _ _ _) (by omega) (by simp [ha]), List.map_cons, List.append_assoc, List.singleton_append, e1]
  rfl
theorem least_eq (S : bO p t L H) (hk : cK p tab) (h : dY p H d n e x D) (hL : idx L.Heads d = some n) : yY F L tab d = some (eK p tab d x D e) := by
 have ho := dR h.ok
 rw [yY, S.rprog, h.hD, bsm, least1 S h hk hL, bsm]
 dsimp only
 rw [show vG F tab d D F 0 [] = _ from least3 h hk D.Rules [] F [] rfl (by show _ < 4000000; omega) rfl, bsm, List.nil_append]
 rfl
noncomputable def eC (p : ScopeProg) (H : Nat) (tab : List UsageDef) : List UsageDef := (List.range p.Defs.length).map fun d : Nat => open Classical in if h : ∃ u : UsageDef, ∃ n e x D, dY p H (d : Int) n e x D ∧ u = eK p tab (d : Int) x D e then h.choose else ⟨[], [], []⟩
theorem aCG (S : bO p t L H) {d : Nat} {n : Int} (hd : d < p.Defs.length) (h : dY p H (d : Int) n e x D) : idx (eC p H tab) (d : Int) = some (eK p tab (d : Int) x D e) := by
 unfold eC
 rw [jT hd]
 congr 1
 have q : ∃ u : UsageDef, ∃ n e x D, dY p H (d : Int) n e x D ∧ u = eK p tab (d : Int) x D e := ⟨_, n, e, x, D, h, rfl⟩
 rw [dif_pos q]
 obtain ⟨n', e', x', D', h', e1⟩ := q.choose_spec
 obtain ⟨_, rfl, rfl, rfl⟩ := h'.uniq S h
 exact e1
theorem sD : (eC p H tab).length = p.Defs.length := by simp [eC]
theorem all_eq' (S : bO p t L H) (hk : cK p tab) : rG F t tab = some (eC p H tab) ∧ aB4 F L tab = some (eC p H tab) := by
 have dl := S.defs
 have step : ∀ i : Nat, i < p.Defs.length → ∃ u, uL F t tab (i : Int) = some u ∧ yY F L tab (i : Int) = some u ∧ idx (eC p H tab) (i : Int) = some u := fun i hi => by
  obtain ⟨n, e, x, D, h, a, b⟩ := S.headOf (d := (i : Int)) (by omega) (by omega)
  exact ⟨_, asks_eq S hk h a, least_eq S hk h b, aCG S hi h⟩
 have tk : ∀ i : Nat, i < p.Defs.length → ∀ u, idx (eC p H tab) (i : Int) = some u → (eC p H tab).take i ++ [u] = (eC p H tab).take (i + 1) := fun i hi u hu => by
  have := bN hu
  rw [Int.toNat_natCast] at this
  rw [List.take_add_one, this]; rfl
 have hlen : ∀ i : Nat, ((eC p H tab).take i).length ≤ 12 := fun i => by rw [List.length_take, sD]; omega
 constructor
 ·rw [rG, show nF F t tab F [] 0 = some (eC p H tab) from ?_, bsm]
  refine fI (fun k (s : List UsageDef × Int) => nF F t tab k s.1 s.2) p.Defs.length (fun i => ((eC p H tab).take i, (i : Int))) _ (fun k i hi => ?_) (fun k => ?_) (by show _ < 4000000; omega)
  ·dsimp only
   obtain ⟨u, u1, u2, u3⟩ := step i hi
   have := hlen i
   rw [nF, S.prog, if_pos (by omega), u1, bsm, eI (by simp; omega), bsm, aQ (by omega), bsm]
   congr 1
   exact tk i hi u u3
  ·dsimp only
   rw [nF, S.prog, if_neg (by omega), List.take_of_length_le (by rw [sD]; omega)]
 ·rw [aB4, show uY F L tab F [] 0 = some (eC p H tab) from ?_, bsm]
  refine fI (fun k (s : List UsageDef × Int) => uY F L tab k s.1 s.2) p.Defs.length (fun i => ((eC p H tab).take i, (i : Int))) _ (fun k i hi => ?_) (fun k => ?_) (by show _ < 4000000; omega)
  ·dsimp only
   obtain ⟨u, u1, u2, u3⟩ := step i hi
   have := hlen i
   rw [uY, S.rprog, if_pos (by omega), u2, bsm, eI (by simp; omega), bsm, aQ (by omega), bsm]
   congr 1
   exact tk i hi u u3
  ·dsimp only
   rw [uY, S.rprog, if_neg (by omega), List.take_of_length_le (by rw [sD]; omega)]
theorem qL (S : bO p t L H) : cK p (eC p H tab) := by
 refine ⟨sD, fun i D' X hD hX => ?_⟩
 have hi := eY hD
 obtain ⟨c, rfl⟩ : ∃ c : Nat, i = (c : Int) := ⟨i.toNat, by omega⟩
 obtain ⟨n, e, x, D, h, _, _⟩ := S.headOf (d := (c : Int)) hi.1 hi.2
 have := h.hD; rw [hD] at this; cases this
 rw [aCG S (by omega) h] at hX; cases hX
 have ho := dR h.ok
 refine ⟨by simp [eK], by simp [eK], by simp [eK], ?_⟩
 intro j ch a hc ha
 have := eY hc
 obtain ⟨c', rfl⟩ : ∃ c' : Nat, j = (c' : Int) := ⟨j.toNat, by omega⟩
 rw [eK] at ha
 dsimp only at ha
 rw [jT (by omega)] at ha
 cases ha
 have := ho.2.2.2.1 ch (dQ hc)
 rw [List.length_map, List.length_range, nV hc]; omega
end
end Go.Proofs.YtmnbfgeljmhekaaGreat
set_option maxRecDepth 100000
namespace Go.Proofs.YtmnbfgeljmhekaaGreat
open Go.SX Go.SW Go.Dt
theorem loopE {R : Type} (L : Nat → Int → Option R) (n : Nat) (ok : Nat → Bool) (a b : R) (step : ∀ k (i : Nat), i < n → ok i = true → L (k + 1) (i : Int) = L k ((i : Int) + 1)) (bad : ∀ k (i : Nat), i < n → ok i = false → L (k + 1) (i : Int) = some b) (stop : ∀ k, L (k + 1) (n : Int) = some a) {K : Nat} (hK : n < K) : L K 0 = some (if (List.range n).all ok = true then a else b) := by
 have : ∀ (j i K : Nat), i + j = n → j < K → L K (i : Int) = some (if ((List.range j).all fun m => ok (i + m)) = true then a else b) := fun j => by
  induction j with
  | zero =>
   intro i K hi hK
   obtain _ | K := K
   ·omega
   obtain rfl : i = n := by omega
   exact stop K
  | succ j ih =>
   intro i K hi hK
   obtain _ | K := K
   ·omega
   have e : (List.range (j + 1)).all (fun m => ok (i + m)) = (ok i && (List.range j).all fun m => ok (i + 1 + m)) := by
    rw [List.range_succ_eq_map, List.all_cons, List.all_map]
    congr 1
    congr 1
    funext m
    show ok (i + (m + 1)) = _
    congr 1; omega
   rw [e]
   cases h : ok i with
   | false => exact bad K i (by omega) h
   | true => rw [step K i (by omega) h, Bool.true_and]; exact ih (i + 1) K (by omega) (by omega)
 have e := this n 0 K (by omega) hK
 simpa using e
def opt2 {α β : Type} (f : α → β → Bool) : Option α → Option β → Bool
 | some x, some y => f x y
 | _, _ => true
theorem aAI {α β : Type} (f : α × β → Bool) : ∀ (a : List α) (b : List β), a.length = b.length → (a.zip b).all f = (List.range a.length).all fun i => opt2 (fun x y => f (x, y)) a[i]? b[i]?
 | [], [], _ => rfl
 | x :: a, y :: b, h => by
  rw [List.zip_cons_cons, List.all_cons, aAI f a b (by simpa using h), List.length_cons, List.range_succ_eq_map, List.all_cons, List.all_map]
  rfl
section
variable {p : ScopeProg} {t : Usage_text} {L : bP} {H : Nat} {tab : List UsageDef} {d n : Int} {e : E} {x : ScopeNode} {D : ScopeDef}
noncomputable def begV (p : ScopeProg) (H : Nat) (d c : Int) : Int := open Classical in if h : ∃ v : Int, ∃ n e x D, dY p H d n e x D ∧ v = begM x D e fun k => sur p k ((e.length : Int) + c) then h.choose else 0
theorem begV_get (S : bO p t L H) (h : dY p H d n e x D) (c : Int) : begV p H d c = begM x D e fun k => sur p k ((e.length : Int) + c) := by
 unfold begV
 have q : ∃ v : Int, ∃ n e x D, dY p H d n e x D ∧ v = begM x D e fun k => sur p k ((e.length : Int) + c) := ⟨_, n, e, x, D, h, rfl⟩
 rw [dif_pos q]
 obtain ⟨n', e', x', D', h', e1⟩ := q.choose_spec
 obtain ⟨_, rfl, rfl, rfl⟩ := h'.uniq S h
 exact e1
theorem aDg (S : bO p t L H) (h : dY p H d n e x D) {c : Nat} (hc : c < D.Chans.length) : lJ F t n ((e.length : Int) + (c : Int)) = some (begV p H d c) ∧ uA F L n ((e.length : Int) + (c : Int)) = some (begV p H d c) := by
 have e1 := rC (e := e) (m := d) (d := D)
 unfold own at e1
 obtain ⟨r, ⟨_, rfl⟩, a, b⟩ := S.begun h (v := (e.length : Int) + (c : Int)) ⟨by omega, by omega⟩
 rw [begV_get S h]
 exact ⟨a, b⟩
end
end Go.Proofs.YtmnbfgeljmhekaaGreat
set_option maxRecDepth 100000
namespace Go.Proofs.YtmnbfgeljmhekaaGreat
open Go.SX Go.SW Go.Dt
variable {p : ScopeProg} {t : Usage_text} {L : bP} {H : Nat} {tab tab' : List UsageDef} {d n : Int} {e : E} {x : ScopeNode} {D : ScopeDef}
theorem nS {a : Int} (h : two a) : cnt (eN a) = a := by
 rcases zV h with rfl | rfl | rfl <;> rfl
theorem aBW {f g : Int → Int} (hf : ∀ v, two (f v) ∧ two (g v) ∧ f v ≤ g v) {c i : Int} : ∀ (l : List Int) (a w w' : Int), two w → two w' → w ≤ w' → iB f D c i l a w ≤ iB g D c i l a w' ∧ two (iB f D c i l a w) ∧ two (iB g D c i l a w')
 | [], a, w, w', h1, h2, h3 => ⟨h3, h1, h2⟩
 | j :: l, a, w, w', h1, h2, h3 => by
  obtain ⟨q1, q2, q3⟩ := hf (a + i)
  rw [iB, iB]
  by_cases hj : j = c
  ·rw [if_pos hj, if_pos hj]; exact aBW hf l _ _ _ (by unfold two at *; omega) (by unfold two at *; omega) (by omega)
  ·rw [if_neg hj, if_neg hj]; exact aBW hf l _ _ _ h1 h2 h3
theorem aCn {f : Int → Int} (hf : ∀ v, two (f v)) {c i : Int} : ∀ (l : List Int) (a w : Int), two w → w ≤ iB f D c i l a w
 | [], a, w, h1 => Int.le_refl _
 | j :: l, a, w, h1 => by
  have q := hf (a + i)
  rw [iB]
  by_cases hj : j = c
  ·rw [if_pos hj]; exact Int.le_trans (by omega) (aCn hf l _ _ (by unfold two at *; omega))
  ·rw [if_neg hj]; exact aCn hf l _ _ h1
theorem wH {ru ru' : List Int} (hr : ∀ i, kc ru i ≤ kc ru' i) {f g : ScopeRule → Int → Int} {b c i : Int} : ∀ (l : List ScopeRule) (k w w' : Int), (∀ r ∈ l, ∀ v, two (f r v) ∧ two (g r v) ∧ f r v ≤ g r v) → two w → two w' → w ≤ w' → gR ru b f D c i l k w ≤ gR ru' b g D c i l k w' ∧ two (gR ru b f D c i l k w)
 | [], k, w, w', _, h1, h2, h3 => ⟨h3, h1⟩
 | r :: l, k, w, w', hf, h1, h2, h3 => by
  have hk := hr k
  have kt := wY (l := ru) (i := k)
  obtain ⟨m1, m2, m3⟩ := aBW (D := D) (c := c) (i := i) (hf r (List.mem_cons_self ..)) r.Joins b w w' h1 h2 h3
  have m4 := aCn (D := D) (c := c) (i := i) (fun v => (hf r (List.mem_cons_self ..) v).2.1) r.Joins b w' h2
  rw [gR, gR]
  refine wH hr l _ _ _ (fun r hr => hf r (List.mem_cons_of_mem _ hr)) ?_ ?_ ?_
  ·split <;> assumption
  ·split <;> assumption
  ·by_cases c1 : kc ru k = 0
   ·rw [if_pos c1]
    split
    ·exact h3
    ·omega
   ·rw [if_neg c1, if_neg (by unfold two at kt; omega)]; exact m1
theorem aCi {ch ch' : List Int} (hc : ∀ i, kc ch i ≤ kc ch' i) : ∀ (l : List Int) (w w' : Int), two w → w ≤ w' → l.foldl (fun w j => min w (kc ch j)) w ≤ l.foldl (fun w j => min w (kc ch' j)) w' ∧ two (l.foldl (fun w j => min w (kc ch j)) w)
 | [], w, w', h1, h2 => ⟨h2, h1⟩
 | j :: l, w, w', h1, h2 => by
  have := hc j
  have k2 := wY (l := ch) (i := j)
  rw [List.foldl_cons, List.foldl_cons]
  exact aCi hc l _ _ (by unfold two at *; omega) (by omega)
theorem aAx (S : bO p t L H) (h : LeT tab tab') {q : Int × E} (hq : q ∈ LN p H (cF p)) (v : Int) : two (snd p tab q v) ∧ two (snd p tab' q v) ∧ snd p tab q v ≤ snd p tab' q v :=
 ⟨jG 60 q (S.tr60 hq), jG 60 q (S.tr60 hq), aFw h 60 q (S.tr60 hq)⟩
theorem aCO (S : bO p t L H) (h : LeT tab tab') (hh : dY p H d n e x D) (v : Int) : iO tab x D e (fun k => snd p tab k v) ≤ iO tab' x D e (fun k => snd p tab' k v) ∧ two (iO tab x D e fun k => snd p tab k v) := by
 obtain ⟨_, hs⟩ := S.subs hh.ln hh.hx
 exact aCB h hh.op (by rw [hh.hN]; exact hh.hD) hh.kid fun k hk => aAx S h (hs k hk) v
theorem yH (S : bO p t L H) (hh : dY p H d n e x D) {r : ScopeRule} (hr : r ∈ D.Rules) : (r.Node, ruE e d D r) ∈ LN p H (cF p) := by
 have := (S.subs hh.ln hh.hx).2 _ (yR (e := e) hh.op (by rw [hh.hN]; exact hh.hD) hr)
 rwa [hh.hN] at this
theorem LeT.of (ha : cK p tab) (hb : cK p tab') (k : ∀ (d : Int) D X Y, idx p.Defs d = some D → idx tab d = some X → idx tab' d = some Y → (∀ c : Nat, c < D.Chans.length → kc X.Chans c ≤ kc Y.Chans c) ∧ (∀ c : Nat, c < D.Rules.length → kc X.Rules c ≤ kc Y.Rules c) ∧ ∀ (c : Nat) a b, X.Args[c]? = some a → Y.Args[c]? = some b → ∀ i : Nat, i < a.length → kc a i ≤ kc b i) : LeT tab tab' := fun d i => by
 have out : ∀ {a b : List Int}, a.length = b.length → (∀ c : Nat, c < a.length → kc a c ≤ kc b c) → kc a i ≤ kc b i := fun {a b} hl hc => by
  by_cases hi : 0 ≤ i ∧ i < a.length
  ·have := hc i.toNat (by omega)
   rwa [show ((i.toNat : Nat) : Int) = i from by omega] at this
  ·unfold kc; rw [jZ hi, jZ (by omega)]; exact Int.le_refl _
 by_cases hd : 0 ≤ d ∧ d < p.Defs.length
 ·obtain ⟨D, hD⟩ := cQ (xs := p.Defs) hd.1 hd.2
  obtain ⟨X, hX, o1⟩ := qE ha hD
  obtain ⟨Y, hY, o2⟩ := qE hb hD
  obtain ⟨k1, k2, k3⟩ := k d D X Y hD hX hY
  rw [show eZ tab d = X.Chans from by unfold eZ; rw [hX]; rfl, show eZ tab' d = Y.Chans from by unfold eZ; rw [hY]; rfl, show eA tab d = X.Rules from by unfold eA; rw [hX]; rfl, show eA tab' d = Y.Rules from by unfold eA; rw [hY]; rfl]
  refine ⟨out (by rw [o1.chans, o2.chans]) (by rw [o1.chans]; exact k1), out (by rw [o1.rules, o2.rules]) (by rw [o1.rules]; exact k2), fun c => ?_⟩
  rw [show kO tab (d, c) = (idx X.Args c).getD [] from by unfold kO; dsimp only; rw [hX, bsm], show kO tab' (d, c) = (idx Y.Args c).getD [] from by unfold kO; dsimp only; rw [hY, bsm]]
  by_cases hc : 0 ≤ c ∧ c < X.Args.length
  ·obtain ⟨a, h1⟩ := cQ (xs := X.Args) hc.1 hc.2
   obtain ⟨b, h2⟩ := cQ (xs := Y.Args) hc.1 (by rw [o2.args, ← o1.args]; exact hc.2)
   obtain ⟨ch, h3⟩ := cQ (xs := D.Chans) hc.1 (by rw [← o1.args]; exact hc.2)
   have m1 := o1.many _ _ _ h3 h1
   have m2 := o2.many _ _ _ h3 h2
   rw [h1, h2]
   show kc a i ≤ kc b i
   exact out (by omega) (k3 c.toNat a b (bN h1) (bN h2))
  ·rw [jZ hc, jZ (by rw [o2.args, ← o1.args]; exact hc)]; exact Int.le_refl _
 ·have n1 : idx tab d = none := jZ (by rw [ha.1]; exact hd)
  have n2 : idx tab' d = none := jZ (by rw [hb.1]; exact hd)
  exact ⟨by unfold eZ; rw [n1, n2]; exact Int.le_refl _, by unfold eA; rw [n1, n2]; exact Int.le_refl _, fun c => by unfold kO; dsimp only; rw [n1, n2]; exact Int.le_refl _⟩
theorem gE {a : List Int} {c : Nat} {y : Int} (h : a[c]? = some y) : kc a (c : Int) = cnt y := by unfold kc; rw [bU h]; rfl
theorem aCX {α β : Type} {f : α → β} {l : List α} {i : Nat} (h : i < l.length) : (l.map f)[i]? = some (f (l[i]'h)) := by simp [h]
theorem iA {β : Type} {f : Nat → β} {n i : Nat} (h : i < n) : ((List.range n).map f)[i]? = some (f i) := by simp [h]
theorem ask_le (S : bO p t L H) (h : LeT tab tab') (hh : dY p H d n e x D) : (∀ c : Nat, c < D.Chans.length → kc (eK p tab d x D e).Chans c ≤ kc (eK p tab' d x D e).Chans c) ∧ (∀ c : Nat, c < D.Rules.length → kc (eK p tab d x D e).Rules c ≤ kc (eK p tab' d x D e).Rules c) ∧
  ∀ (c : Nat) a b, (eK p tab d x D e).Args[c]? = some a → (eK p tab' d x D e).Args[c]? = some b → ∀ i : Nat, i < a.length → kc a i ≤ kc b i := by
 refine ⟨fun c hc => ?_, fun c hc => ?_, fun c a b h1 h2 i hi => ?_⟩
 ·obtain ⟨a, b⟩ := aCO S h hh ((e.length : Int) + (c : Int))
  have b' := (aCO S (LeT.rfl (t := tab')) hh ((e.length : Int) + (c : Int))).2
  rw [eK, eK, gE (iA hc), gE (iA hc), nS b, nS b']; exact a
 ·obtain ⟨a, b⟩ := aCi (fun i => (h d i).1) (D.Rules[c]'hc).Joins 2 2 (by unfold two; omega) (Int.le_refl _)
  obtain ⟨_, b'⟩ := aCi (fun i => (LeT.rfl (t := tab') d i).1) (D.Rules[c]'hc).Joins 2 2 (by unfold two; omega) (Int.le_refl _)
  rw [eK, eK, gE (aCX hc), gE (aCX hc), minJ, minJ, nS b, nS b']; exact a
 ·have hc : c < D.Chans.length := by have := (List.getElem?_eq_some_iff.1 h1).1; simpa [eK] using this
  rw [eK] at h1 h2
  dsimp only at h1 h2
  rw [iA hc] at h1 h2
  cases h1; cases h2
  rw [List.length_map, List.length_range] at hi
  obtain ⟨a, b⟩ := wH (D := D) (fun i => (h d i).2.1) (b := (e.length : Int) + (D.Chans.length : Int) + (D.Spots.length : Int)) (c := (c : Int)) (i := (i : Int)) (f := fun r v => snd p tab (r.Node, ruE e d D r) v) (g := fun r v => snd p tab' (r.Node, ruE e d D r) v) D.Rules 0 0 0 (fun r hr v => aAx S h (yH S hh hr) v) (by unfold two; omega) (by unfold two; omega) (Int.le_refl _)
  obtain ⟨_, b'⟩ := wH (D := D) (fun i => (LeT.rfl (t := tab') d i).2.1) (b := (e.length : Int) + (D.Chans.length : Int) + (D.Spots.length : Int)) (c := (c : Int)) (i := (i : Int)) (f := fun r v => snd p tab' (r.Node, ruE e d D r) v) (g := fun r v => snd p tab' (r.Node, ruE e d D r) v) D.Rules 0 0 0 (fun r hr v => aAx S LeT.rfl (yH S hh hr) v) (by unfold two; omega) (by unfold two; omega) (Int.le_refl _)
  rw [gE (iA hi), gE (iA hi), nS b, nS b']; exact a
theorem uP (S : bO p t L H) {d : Int} {D : ScopeDef} (hD : idx p.Defs d = some D) : ∃ n e x, dY p H d n e x D ∧ ∀ tab, idx (eC p H tab) d = some (eK p tab d x D e) := by
 have hd := eY hD
 obtain ⟨c, rfl⟩ : ∃ c : Nat, d = (c : Int) := ⟨d.toNat, by omega⟩
 obtain ⟨n, e, x, D', h, _, _⟩ := S.headOf (d := (c : Int)) hd.1 hd.2
 have := h.hD; rw [hD] at this; cases this
 exact ⟨n, e, x, h, fun tab => aCG S (by omega) h⟩
theorem aDv (S : bO p t L H) (h : LeT tab tab') : LeT (eC p H tab) (eC p H tab') := by
 refine LeT.of (qL S) (qL S) fun d D X Y hD hX hY => ?_
 obtain ⟨n, e, x, hh, ha⟩ := uP S hD
 rw [ha] at hX hY
 cases hX; cases hY
 exact ask_le S h hh
def kK (k : Int) : Prop := k = 1 ∨ k = 3 ∨ k = 4
theorem aCb (a : Int) : kK (eN a) := by unfold eN kK; split; omega; split <;> omega
theorem kK_inj {a b : Int} (ha : kK a) (hb : kK b) (h : cnt a = cnt b) : a = b := by
 rcases ha with rfl | rfl | rfl <;> rcases hb with rfl | rfl | rfl <;> first | rfl | (exact absurd h (by decide))
def jJ : List Int → Int
 | [] => 0
 | a :: l => cnt a + jJ l
theorem yF : ∀ l : List Int, 0 ≤ jJ l ∧ jJ l ≤ 2 * l.length
 | [] => by simp [jJ]
 | a :: l => by have := yF l; have := iI a; unfold two at this; simp only [jJ, List.length_cons]; omega
theorem zA : ∀ {a b : List Int}, a.length = b.length → (∀ i : Nat, i < a.length → kc a i ≤ kc b i) → jJ a ≤ jJ b ∧ (jJ b ≤ jJ a → (∀ x ∈ a, kK x) → (∀ x ∈ b, kK x) → a = b)
 | [], [], _, _ => ⟨Int.le_refl _, fun _ _ _ => rfl⟩
 | x :: a, y :: b, hl, h => by
  obtain ⟨i1, i2⟩ := zA (a := a) (b := b) (by simpa using hl) (fun i hi => by
   have := h (i + 1) (by simp; omega)
   unfold kc idx at this ⊢
   rw [if_pos (by omega), if_pos (by omega)] at this ⊢
   simpa using this)
  have h0 : cnt x ≤ cnt y := h 0 (by simp)
  simp only [jJ]
  refine ⟨by omega, fun hs ka kb => ?_⟩
  rw [kK_inj (ka x (List.mem_cons_self ..)) (kb y (List.mem_cons_self ..)) (by omega), i2 (by omega) (fun z hz => ka z (List.mem_cons_of_mem _ hz)) (fun z hz => kb z (List.mem_cons_of_mem _ hz))]
def lR : List (List Int) → Int
 | [] => 0
 | a :: l => jJ a + lR l
theorem aEz {m : Nat} : ∀ l : List (List Int), (∀ a ∈ l, a.length ≤ m) → 0 ≤ lR l ∧ lR l ≤ (2 * m * l.length : Nat)
 | [], _ => by simp [lR]
 | a :: l, h => by
  have i := aEz (m := m) l (fun a ha => h a (List.mem_cons_of_mem _ ha))
  have j := yF a
  have k := h a (List.mem_cons_self ..)
  simp only [lR, List.length_cons, Nat.mul_add, Nat.mul_one, Int.natCast_add] at *; omega
theorem aDQ : ∀ {a b : List (List Int)}, a.length = b.length → (∀ (i : Nat) x y, a[i]? = some x → b[i]? = some y → x.length = y.length ∧ ∀ j : Nat, j < x.length → kc x j ≤ kc y j) → lR a ≤ lR b ∧ (lR b ≤ lR a → (∀ x ∈ a, ∀ k ∈ x, kK k) → (∀ x ∈ b, ∀ k ∈ x, kK k) → a = b)
 | [], [], _, _ => ⟨Int.le_refl _, fun _ _ _ => rfl⟩
 | x :: a, y :: b, hl, h => by
  obtain ⟨i1, i2⟩ := aDQ (a := a) (b := b) (by simpa using hl) (fun i u v hu hv => h (i + 1) u v (by simpa using hu) (by simpa using hv))
  obtain ⟨l0, h0⟩ := h 0 x y rfl rfl
  obtain ⟨j1, j2⟩ := zA l0 h0
  simp only [lR]
  refine ⟨by omega, fun hs ka kb => ?_⟩
  rw [j2 (by omega) (ka x (List.mem_cons_self ..)) (kb y (List.mem_cons_self ..)), i2 (by omega) (fun z hz => ka z (List.mem_cons_of_mem _ hz)) (fun z hz => kb z (List.mem_cons_of_mem _ hz))]
def wtU (X : UsageDef) : Int := jJ X.Chans + jJ X.Rules + lR X.Args
def wtT : List UsageDef → Int
 | [] => 0
 | X :: l => wtU X + wtT l
structure KU (X : UsageDef) : Prop where
 chans : ∀ k ∈ X.Chans, kK k
 rules : ∀ k ∈ X.Rules, kK k
 args : ∀ a ∈ X.Args, ∀ k ∈ a, kK k
theorem wtU_le {X Y : UsageDef} (o1 : okU1 D X) (o2 : okU1 D Y) (k1 : ∀ c : Nat, c < D.Chans.length → kc X.Chans c ≤ kc Y.Chans c) (k2 : ∀ c : Nat, c < D.Rules.length → kc X.Rules c ≤ kc Y.Rules c) (k3 : ∀ (c : Nat) a b, X.Args[c]? = some a → Y.Args[c]? = some b → ∀ i : Nat, i < a.length → kc a i ≤ kc b i) :
  wtU X ≤ wtU Y ∧ (wtU Y ≤ wtU X → KU X → KU Y → X = Y) := by
 obtain ⟨a1, a2⟩ := zA (a := X.Chans) (b := Y.Chans) (by rw [o1.chans, o2.chans]) (by rw [o1.chans]; exact k1)
 obtain ⟨b1, b2⟩ := zA (a := X.Rules) (b := Y.Rules) (by rw [o1.rules, o2.rules]) (by rw [o1.rules]; exact k2)
 obtain ⟨c1, c2⟩ := aDQ (a := X.Args) (b := Y.Args) (by rw [o1.args, o2.args]) (fun i u v hu hv => by
  have hi := (List.getElem?_eq_some_iff.1 hu).1
  obtain ⟨ch, h3⟩ := nY (D := D) (c := i) (by rw [← o1.args]; exact hi)
  have m1 := o1.many _ _ _ h3 (bU hu)
  have m2 := o2.many _ _ _ h3 (bU hv)
  exact ⟨by omega, k3 i u v hu hv⟩)
 unfold wtU
 refine ⟨by omega, fun h u v => ?_⟩
 have e1 := a2 (by omega) u.chans v.chans
 have e2 := b2 (by omega) u.rules v.rules
 have e3 := c2 (by omega) u.args v.args
 cases X; cases Y
 simp only at e1 e2 e3
 rw [e1, e2, e3]
theorem wtT_le : ∀ {A B : List UsageDef}, A.length = B.length → (∀ (i : Nat) X Y, A[i]? = some X → B[i]? = some Y → wtU X ≤ wtU Y ∧ (wtU Y ≤ wtU X → KU X → KU Y → X = Y)) → wtT A ≤ wtT B ∧ (wtT B ≤ wtT A → (∀ X ∈ A, KU X) → (∀ X ∈ B, KU X) → A = B)
 | [], [], _, _ => ⟨Int.le_refl _, fun _ _ _ => rfl⟩
 | x :: a, y :: b, hl, h => by
  obtain ⟨i1, i2⟩ := wtT_le (A := a) (B := b) (by simpa using hl) (fun i u v hu hv => h (i + 1) u v (by simpa using hu) (by simpa using hv))
  obtain ⟨j1, j2⟩ := h 0 x y rfl rfl
  simp only [wtT]
  refine ⟨by omega, fun hs ka kb => ?_⟩
  rw [j2 (by omega) (ka x (List.mem_cons_self ..)) (kb y (List.mem_cons_self ..)), i2 (by omega) (fun z hz => ka z (List.mem_cons_of_mem _ hz)) (fun z hz => kb z (List.mem_cons_of_mem _ hz))]
theorem LeT.weigh (ha : cK p tab) (hb : cK p tab') (h : LeT tab tab') : wtT tab ≤ wtT tab' ∧ (wtT tab' ≤ wtT tab → (∀ X ∈ tab, KU X) → (∀ X ∈ tab', KU X) → tab = tab') := by
 refine wtT_le (by rw [ha.1, hb.1]) fun i X Y hX hY => ?_
 have hi := (List.getElem?_eq_some_iff.1 hX).1
 obtain ⟨D, hD⟩ := cQ (xs := p.Defs) (i := (i : Int)) (by omega) (by rw [← ha.1]; omega)
 have o1 := ha.2 _ _ _ hD (bU hX)
 have o2 := hb.2 _ _ _ hD (bU hY)
 have a1 : eZ tab (i : Int) = X.Chans := by unfold eZ; rw [bU hX]; rfl
 have a2 : eZ tab' (i : Int) = Y.Chans := by unfold eZ; rw [bU hY]; rfl
 have b1 : eA tab (i : Int) = X.Rules := by unfold eA; rw [bU hX]; rfl
 have b2 : eA tab' (i : Int) = Y.Rules := by unfold eA; rw [bU hY]; rfl
 refine wtU_le o1 o2 (fun c _ => ?_) (fun c _ => ?_) (fun c a b hca hcb j _ => ?_)
 ·have := (h (i : Int) (c : Int)).1; rwa [a1, a2] at this
 ·have := (h (i : Int) (c : Int)).2.1; rwa [b1, b2] at this
 ·have := (h (i : Int) (j : Int)).2.2 (c : Int)
  unfold kO at this
  dsimp only at this
  rw [bU hX, bU hY, bsm, bsm, bU hca, bU hcb] at this
  exact this
theorem aCE : ∀ (A : List UsageDef), (∀ X ∈ A, X.Chans.length ≤ 30 ∧ X.Rules.length ≤ 30 ∧ X.Args.length ≤ 30 ∧ ∀ a ∈ X.Args, a.length ≤ 3) → 0 ≤ wtT A ∧ wtT A ≤ 400 * A.length
 | [], _ => by simp [wtT]
 | X :: A, h => by
  have i := aCE A (fun X hX => h X (List.mem_cons_of_mem _ hX))
  obtain ⟨h1, h2, h3, h4⟩ := h X (List.mem_cons_self ..)
  have j1 := yF X.Chans
  have j2 := yF X.Rules
  have j3 := aEz (m := 3) X.Args h4
  simp only [wtT, wtU, List.length_cons]; omega
theorem cK.bd (S : bO p t L H) (hk : cK p tab) : ∀ X ∈ tab, X.Chans.length ≤ 30 ∧ X.Rules.length ≤ 30 ∧ X.Args.length ≤ 30 ∧ ∀ a ∈ X.Args, a.length ≤ 3 := fun X hX => by
 obtain ⟨i, hi, rfl⟩ := List.mem_iff_getElem.1 hX
 have hl := hk.1
 obtain ⟨D, hD⟩ := cQ (xs := p.Defs) (i := (i : Int)) (by omega) (by omega)
 obtain ⟨n, e, x, hh, _⟩ := uP S hD
 have ho := dR hh.ok
 have o := hk.2 _ _ _ hD (bU (List.getElem?_eq_getElem hi))
 have c1 := o.chans
 have c2 := o.rules
 have c3 := o.args
 refine ⟨by omega, by omega, by omega, fun a ha => ?_⟩
 obtain ⟨j, hj, rfl⟩ := List.mem_iff_getElem.1 ha
 obtain ⟨ch, h3⟩ := nY (D := D) (c := j) (by omega)
 have m := o.many _ _ _ h3 (bU (List.getElem?_eq_getElem hj))
 have := ho.2.2.2.1 ch (dQ h3)
 omega
theorem aDw (S : bO p t L H) : ∀ X ∈ eC p H tab, KU X := fun X hX => by
 obtain ⟨i, hi, rfl⟩ := List.mem_iff_getElem.1 hX
 rw [sD] at hi
 obtain ⟨D, hD⟩ := cQ (xs := p.Defs) (i := (i : Int)) (by omega) (by omega)
 obtain ⟨n, e, x, hh, ha⟩ := uP S hD
 have := bN (ha tab)
 rw [Int.toNat_natCast, List.getElem?_eq_getElem (by rw [sD]; exact hi)] at this
 rw [Option.some.inj this]
 refine ⟨fun k hk => ?_, fun k hk => ?_, fun a ha k hk => ?_⟩
 ·obtain ⟨c, _, rfl⟩ := List.mem_map.1 hk; exact aCb _
 ·obtain ⟨c, _, rfl⟩ := List.mem_map.1 hk; exact aCb _
 ·obtain ⟨c, _, rfl⟩ := List.mem_map.1 ha
  obtain ⟨i, _, rfl⟩ := List.mem_map.1 hk; exact aCb _
end Go.Proofs.YtmnbfgeljmhekaaGreat
set_option maxRecDepth 100000
namespace Go.Proofs.YtmnbfgeljmhekaaGreat
open Go.SX Go.SW Go.Dt
variable {p : ScopeProg} {t : Usage_text} {L : bP} {H : Nat} {tab tab' : List UsageDef} {d n : Int} {e : E} {x : ScopeNode} {D : ScopeDef}
def kJ (D : ScopeDef) : UsageDef := ⟨List.replicate D.Chans.length 1, List.replicate D.Rules.length 1, (List.range D.Chans.length).map fun c : Nat => List.replicate (mny D (c : Int)).toNat 1⟩
def fT (p : ScopeProg) : List UsageDef := p.Defs.map kJ
theorem rep_all : ((List.range 31).all fun n : Nat => decide (rM 4000000 [1] (n : Int) = some (List.replicate n 1))) = true := by kernel_rfl
theorem aB6 {n : Nat} (h : n ≤ 30) : rM F [1] (n : Int) = some (List.replicate n 1) := of_decide_eq_true (List.all_eq_true.1 rep_all n (List.mem_range.2 (by omega)))
theorem aBb {α : Type} {a : α} {i : Nat} : List.replicate i a ++ [a] = List.replicate (i + 1) a := List.replicate_succ'.symm
theorem aC6 {α : Type} {l : List α} {i : Nat} {u : α} (h : idx l (i : Int) = some u) : l.take i ++ [u] = l.take (i + 1) := by
 have := bN h
 rw [Int.toNat_natCast] at this
 rw [List.take_add_one, this]; rfl
theorem bO.okD (S : bO p t L H) {d : Int} {D : ScopeDef} (hD : idx p.Defs d = some D) : okD D = true := by
 obtain ⟨n, e, x, hh, _⟩ := uP S hD
 exact hh.ok
theorem none_p (S : bO p t L H) : tG F t = some (fT p) := by
 have dl := S.defs
 rw [tG, show nG F t F [] 0 = some (fT p) from ?_, bsm]
 refine fI (fun k (s : List UsageDef × Int) => nG F t k s.1 s.2) p.Defs.length (fun i => ((fT p).take i, (i : Int))) _ (fun k i hi => ?_) (fun k => ?_) (by show _ < 4000000; omega)
 ·dsimp only
  obtain ⟨D, hD⟩ := cQ (xs := p.Defs) (i := (i : Int)) (by omega) (by omega)
  have ho := dR (S.okD hD)
  have inner : nN F D F 0 [] = some ((List.range D.Chans.length).map fun c : Nat => List.replicate (mny D (c : Int)).toNat 1) := by
   refine fI (fun k (s : Int × List (List Int)) => nN F D k s.1 s.2) D.Chans.length (fun i => ((i : Int), (List.range i).map fun c : Nat => List.replicate (mny D (c : Int)).toNat 1)) _ (fun k i hi => ?_) (fun k => ?_) (by show _ < 4000000; omega)
   ·dsimp only
    obtain ⟨y, hy⟩ := nY hi
    have hm := ho.2.2.2.1 y (dQ hy)
    rw [nN, if_pos (by omega), hy, bsm, show y.Many = ((y.Many.toNat : Nat) : Int) from by omega, aB6 (by omega), bsm, eI (by simp; omega), bsm, aQ (by omega), bsm]
    congr 1
    rw [← qK, nV hy]
   ·dsimp only
    rw [nN, if_neg (by omega)]
  have len : ((fT p).take i).length ≤ 12 := by rw [List.length_take, fT, List.length_map]; omega
  rw [nG, S.prog, if_pos (by omega), hD, bsm, aB6 (by omega), bsm, aB6 (by omega), bsm, inner, bsm, eI (by simp at len ⊢; omega), bsm, bsm, aQ (by omega), bsm]
  congr 1
  refine aC6 (l := fT p) (i := i) ?_
  exact xO (f := kJ) hD
 ·dsimp only
  rw [nG, S.prog, if_neg (by omega), List.take_of_length_le (by simp [fT])]
theorem none_r (S : bO p t L H) : aBN F p = some (fT p) := by
 have dl := S.defs
 rw [aBN, show sO F p F [] 0 = some (fT p) from ?_, bsm]
 refine fI (fun k (s : List UsageDef × Int) => sO F p k s.1 s.2) p.Defs.length (fun i => ((fT p).take i, (i : Int))) _ (fun k i hi => ?_) (fun k => ?_) (by show _ < 4000000; omega)
 ·dsimp only
  obtain ⟨D, hD⟩ := cQ (xs := p.Defs) (i := (i : Int)) (by omega) (by omega)
  have ho := dR (S.okD hD)
  have in2 : tA F p (i : Int) F 0 [] [] = some (List.replicate D.Chans.length 1, (List.range D.Chans.length).map fun c : Nat => List.replicate (mny D (c : Int)).toNat 1) := by
   refine fI (fun k (s : Int × List Int × List (List Int)) => tA F p (i : Int) k s.1 s.2.1 s.2.2) D.Chans.length (fun i => ((i : Int), List.replicate i 1, (List.range i).map fun c : Nat => List.replicate (mny D (c : Int)).toNat 1)) _ (fun k j hj => ?_) (fun k => ?_) (by show _ < 4000000; omega)
   ·dsimp only
    obtain ⟨y, hy⟩ := nY hj
    have hm := ho.2.2.2.1 y (dQ hy)
    have in3 : uO p (i : Int) (j : Int) F [] 0 = some (List.replicate y.Many.toNat 1) := by
     refine fI (fun k (s : List Int × Int) => uO p (i : Int) (j : Int) k s.1 s.2) y.Many.toNat (fun i => (List.replicate i 1, (i : Int))) _ (fun k l hl => ?_) (fun k => ?_) (by show _ < 4000000; omega)
     ·dsimp only
      rw [uO, hD, bsm, hy, bsm, if_pos (by omega), eI (by simp; omega), bsm, aQ (by omega), bsm, aBb]
      rfl
     ·dsimp only
      rw [uO, hD, bsm, hy, bsm, if_neg (by omega)]
    rw [tA, hD, bsm, if_pos (by omega), eI (by simp; omega), bsm, in3, bsm, eI (by simp; omega), bsm, bsm]
    dsimp only
    rw [aQ (by omega), bsm, aBb]
    congr 1
    rw [← qK, nV hy]
   ·dsimp only
    rw [tA, hD, bsm, if_neg (by omega)]
  have in4 : sS p (i : Int) F 0 [] = some (List.replicate D.Rules.length 1) := by
   refine fI (fun k (s : Int × List Int) => sS p (i : Int) k s.1 s.2) D.Rules.length (fun i => ((i : Int), List.replicate i 1)) _ (fun k l hl => ?_) (fun k => ?_) (by show _ < 4000000; omega)
   ·dsimp only
    rw [sS, hD, bsm, if_pos (by omega), eI (by simp; omega), bsm, aQ (by omega), bsm, aBb]
    rfl
   ·dsimp only
    rw [sS, hD, bsm, if_neg (by omega)]
  have len : ((fT p).take i).length ≤ 12 := by rw [List.length_take, fT, List.length_map]; omega
  rw [sO, if_pos (by omega), in2, bsm]
  dsimp only
  rw [in4, bsm, eI (by simp at len ⊢; omega), bsm, bsm, aQ (by omega), bsm]
  congr 1
  refine aC6 (l := fT p) (i := i) ?_
  exact xO (f := kJ) hD
 ·dsimp only
  rw [sO, if_neg (by omega), List.take_of_length_le (by simp [fT])]
theorem aEy {d : Int} {D : ScopeDef} (hD : idx p.Defs d = some D) : idx (fT p) d = some (kJ D) := xO hD
theorem aCD (S : bO p t L H) : cK p (fT p) := by
 refine ⟨by simp [fT], fun i D X hD hX => ?_⟩
 rw [aEy hD] at hX; cases hX
 have ho := dR (S.okD hD)
 refine ⟨by simp [kJ], by simp [kJ], by simp [kJ], fun j ch a hc ha => ?_⟩
 have := eY hc
 obtain ⟨c', rfl⟩ : ∃ c' : Nat, j = (c' : Int) := ⟨j.toNat, by omega⟩
 rw [kJ] at ha
 dsimp only at ha
 rw [jT (by omega)] at ha
 cases ha
 have := ho.2.2.2.1 ch (dQ hc)
 rw [List.length_replicate, nV hc]; omega
theorem noneM_KU : ∀ X ∈ fT p, KU X := fun X hX => by
 obtain ⟨D, _, rfl⟩ := List.mem_map.1 hX
 refine ⟨fun k hk => .inl (List.eq_of_mem_replicate hk), fun k hk => .inl (List.eq_of_mem_replicate hk), fun a ha k hk => ?_⟩
 obtain ⟨c, _, rfl⟩ := List.mem_map.1 ha
 exact .inl (List.eq_of_mem_replicate hk)
theorem aBT {n i : Nat} (h : i < n) : (List.replicate n (1 : Int))[i]? = some 1 := by simp [h]
theorem aFy (S : bO p t L H) (hk : cK p tab) : LeT (fT p) tab := by
 refine LeT.of (aCD S) hk fun d D X Y hD hX hY => ?_
 rw [aEy hD] at hX; cases hX
 refine ⟨fun c hc => ?_, fun c hc => ?_, fun c a b ha hb i hi => ?_⟩
 ·rw [kJ, gE (aBT hc)]; exact wY.1
 ·rw [kJ, gE (aBT hc)]; exact wY.1
 ·have hc : c < D.Chans.length := by have := (List.getElem?_eq_some_iff.1 ha).1; simpa [kJ] using this
  rw [kJ] at ha
  dsimp only at ha
  rw [iA hc] at ha
  cases ha
  rw [List.length_replicate] at hi
  rw [gE (aBT hi)]; exact wY.1
theorem sh_of (S : bO p t L H) (ha : cK p tab) (hb : cK p tab') : ∀ q ∈ tab.zip tab', Sh2 q.1 q.2 := fun q hq => by
 obtain ⟨A, B⟩ := q
 obtain ⟨i, hi, he⟩ := List.mem_iff_getElem.1 hq
 have hi' := hi
 rw [List.length_zip] at hi'
 rw [List.getElem_zip] at he
 cases he
 have l1 := ha.1
 have l2 := hb.1
 obtain ⟨D, hD⟩ := cQ (xs := p.Defs) (i := (i : Int)) (by omega) (by omega)
 have o1 := ha.2 _ _ _ hD (bU (List.getElem?_eq_getElem (by omega)))
 have o2 := hb.2 _ _ _ hD (bU (List.getElem?_eq_getElem (by omega)))
 refine ⟨by rw [o1.chans, o2.chans], by rw [o1.rules, o2.rules], by rw [o1.args, o2.args], fun q hq => ?_⟩
 obtain ⟨A, B⟩ := q
 obtain ⟨j, hj, he⟩ := List.mem_iff_getElem.1 hq
 have la := o1.args
 have lb := o2.args
 have hj' := hj
 rw [List.length_zip] at hj'
 rw [List.getElem_zip] at he
 cases he
 dsimp only at hj'
 obtain ⟨ch, hc⟩ := nY (D := D) (c := j) (by omega)
 have m1 := o1.many _ _ _ hc (bU (List.getElem?_eq_getElem (by omega)))
 have m2 := o2.many _ _ _ hc (bU (List.getElem?_eq_getElem (by omega)))
 dsimp only; omega
theorem nZ {α : Type} {f : α × α → Bool} : ∀ {a b : List α}, a.length = b.length → (∀ q ∈ a.zip b, f q = true ↔ q.1 = q.2) → ((a.zip b).all f = true ↔ a = b)
 | [], [], _, _ => by simp
 | x :: a, y :: b, hl, h => by
  rw [List.zip_cons_cons, List.all_cons, Bool.and_eq_true, h (x, y) (List.mem_cons_self ..), nZ (a := a) (b := b) (by simpa using hl) (fun q hq => h q (List.mem_cons_of_mem _ hq)), List.cons.injEq]
def eqP (x y : Int) (_ : Bool) : Bool := decide (x = y)
theorem kz_eqs {X Y : UsageDef} (s : Sh2 X Y) : kz eqP X Y = true ↔ X = Y := by
 unfold kz eqP
 rw [Bool.and_eq_true, Bool.and_eq_true, nZ s.chans (fun q _ => decide_eq_true_iff), nZ s.rules (fun q _ => decide_eq_true_iff), nZ s.args (fun q hq => nZ (s.each q hq) fun q _ => decide_eq_true_iff)]
 cases X; cases Y
 simp only [UsageDef.mk.injEq]
theorem aH9 (S : bO p t L H) (ha : cK p tab) (hb : cK p tab') (hm : ∀ a ∈ tab, SmU a) : ∃ b, pV F tab tab' (fun x => wL x.1 x.2.1 x.2.2) = some b ∧ (b = true ↔ tab = tab') := by
 have l1 := ha.1
 have l2 := hb.1
 have dl := S.defs
 refine ⟨_, kinds_eq (P := eqP) (fun x => rfl) (by omega) (by omega) (sh_of S ha hb) hm, nZ (by omega) fun q hq => kz_eqs (sh_of S ha hb q hq)⟩
theorem vA {a b : List Int} (hB : a.length ≤ 2000000) : sA F a b = some (decide (a = b)) := by
 rw [sA]
 by_cases h : (a.length : Int) = (b.length : Int)
 ·rw [if_neg (fun q => q h)]
  have hl : a.length = b.length := by omega
  have e := loopE (fun k i => lU a b k i) a.length (fun i => opt2 (fun x y => decide (x = y)) a[i]? b[i]?) (.inl ()) (.inr false) (fun k i hi hok => ?_) (fun k i hi hok => ?_) (fun k => ?_) (K := F) (by show _ < 4000000; omega)
  ·have e2 : (List.range a.length).all (fun i => opt2 (fun x y => decide (x = y)) a[i]? b[i]?) = decide (a = b) := by
    rw [← aAI (fun q => decide (q.1 = q.2)) a b hl]
    have := nZ (f := fun q : Int × Int => decide (q.1 = q.2)) hl (fun q _ => decide_eq_true_iff)
    by_cases h' : a = b
    ·rw [decide_eq_true h']; exact this.2 h'
    ·rw [decide_eq_false h']; cases hz : (a.zip b).all _ with
     | false => rfl
     | true => exact absurd (this.1 hz) h'
   rw [e, e2, bsm]
   cases decide (a = b) <;> rfl
  ·have h1 : a[i]? = some (a[i]'hi) := List.getElem?_eq_getElem hi
   have h2 : b[i]? = some (b[i]'(by omega)) := List.getElem?_eq_getElem (by omega)
   rw [h1, h2] at hok
   have := of_decide_eq_true hok
   rw [lU, if_pos (by omega), bU h1, bsm, bU h2, bsm, if_neg (fun q => q this), aQ (by omega), bsm]
  ·have h1 : a[i]? = some (a[i]'hi) := List.getElem?_eq_getElem hi
   have h2 : b[i]? = some (b[i]'(by omega)) := List.getElem?_eq_getElem (by omega)
   rw [h1, h2] at hok
   have := of_decide_eq_false hok
   rw [lU, if_pos (by omega), bU h1, bsm, bU h2, bsm, if_pos this, bsm]
  ·rw [lU, if_neg (by omega)]
 ·rw [if_pos h, decide_eq_false (fun q => h (by rw [q]))]
def eqU (X Y : UsageDef) : Bool := decide (X.Chans = Y.Chans) && (decide (X.Rules = Y.Rules) && (List.range X.Args.length).all fun i => opt2 (fun a b => decide (a = b)) X.Args[i]? Y.Args[i]?)
theorem same_r (S : bO p t L H) (ha : cK p tab) (hb : cK p tab') : ∃ b, sP F tab tab' = some b ∧ (b = true ↔ tab = tab') := by
 have l1 := ha.1
 have l2 := hb.1
 have dl := S.defs
 have hl : tab.length = tab'.length := by omega
 have sh := sh_of S ha hb
 have eqs : ∀ q ∈ tab.zip tab', (eqU q.1 q.2 = true ↔ q.1 = q.2) := fun q hq => by
  have s := sh q hq
  unfold eqU
  rw [← aAI (fun q => decide (q.1 = q.2)) _ _ s.args, Bool.and_eq_true, Bool.and_eq_true, nZ s.args (fun q _ => decide_eq_true_iff), decide_eq_true_iff, decide_eq_true_iff]
  obtain ⟨X, Y⟩ := q
  cases X; cases Y
  simp only [UsageDef.mk.injEq]
 refine ⟨(tab.zip tab').all fun q => eqU q.1 q.2, ?_, nZ hl eqs⟩
 have bd := cK.bd S ha
 have bd' := cK.bd S hb
 have each : ∀ i : Nat, i < tab.length → ∃ X Y, tab[i]? = some X ∧ tab'[i]? = some Y ∧ Sh2 X Y ∧ X ∈ tab ∧ Y ∈ tab' := fun i hi => by
  have h1 : tab[i]? = some (tab[i]'hi) := List.getElem?_eq_getElem hi
  have h2 : tab'[i]? = some (tab'[i]'(by omega)) := List.getElem?_eq_getElem (by omega)
  exact ⟨_, _, h1, h2, sh _ (aFb h1 h2), List.mem_of_getElem? h1, List.mem_of_getElem? h2⟩
 have in2 : ∀ (i : Nat) X Y, tab[i]? = some X → tab'[i]? = some Y → Sh2 X Y → X ∈ tab → kX F tab tab' (i : Int) F 0 = some (if (List.range X.Args.length).all (fun i => opt2 (fun a b => decide (a = b)) X.Args[i]? Y.Args[i]?) = true then .inl () else .inr (.inr false)) := fun i X Y h1 h2 s hX => by
  obtain ⟨_, _, b3, b4⟩ := bd X hX
  have la := s.args
  refine loopE (fun k j => kX F tab tab' (i : Int) k j) X.Args.length _ _ _ (fun k j hj hok => ?_) (fun k j hj hok => ?_) (fun k => ?_) (by show _ < 4000000; omega)
  ·have g1 : X.Args[j]? = some (X.Args[j]'hj) := List.getElem?_eq_getElem hj
   have g2 : Y.Args[j]? = some (Y.Args[j]'(by omega)) := List.getElem?_eq_getElem (by omega)
   have := b4 _ (List.mem_of_getElem? g1)
   rw [g1, g2] at hok
   rw [kX, bU h1, bsm, if_pos (by omega), bsm, bU g1, bsm, bU h2, bsm, bU g2, bsm, vA (by omega), bsm, show decide (X.Args[j]'hj = Y.Args[j]'(by omega)) = true from hok, cond_true, aQ (by omega), bsm]
  ·have g1 : X.Args[j]? = some (X.Args[j]'hj) := List.getElem?_eq_getElem hj
   have g2 : Y.Args[j]? = some (Y.Args[j]'(by omega)) := List.getElem?_eq_getElem (by omega)
   have := b4 _ (List.mem_of_getElem? g1)
   rw [g1, g2] at hok
   rw [kX, bU h1, bsm, if_pos (by omega), bsm, bU g1, bsm, bU h2, bsm, bU g2, bsm, vA (by omega), bsm, show decide (X.Args[j]'hj = Y.Args[j]'(by omega)) = false from hok, cond_false, bsm, bsm]
  ·rw [kX, bU h1, bsm, if_neg (by omega)]
 rw [sP, if_neg (show ¬ ((tab.length : Int) ≠ (tab'.length : Int)) from fun q => q (by omega))]
 have e := loopE (fun k i => lL F tab tab' k i) tab.length (fun i => opt2 eqU tab[i]? tab'[i]?) (.inl ()) (.inr false) (fun k i hi hok => ?_) (fun k i hi hok => ?_) (fun k => ?_) (K := F) (by show _ < 4000000; omega)
 ·rw [show lL F tab tab' F 0 = _ from e, bsm, aAI _ _ _ hl]
  show _ = some ((List.range tab.length).all fun i => opt2 eqU tab[i]? tab'[i]?)
  cases (List.range tab.length).all fun i => opt2 eqU tab[i]? tab'[i]? <;> rfl
 ·obtain ⟨X, Y, h1, h2, s, hX, hY⟩ := each i hi
  obtain ⟨b1, b2, _⟩ := bd X hX
  rw [h1, h2] at hok
  have hok : eqU X Y = true := hok
  simp only [eqU, Bool.and_eq_true] at hok
  have la := s.args
  rw [lL, if_pos (by omega), bU h1, bsm, bU h2, bsm, vA (by omega), bsm, hok.1, Bool.not_true, cond_false, bsm, bsm, vA (by omega), bsm, hok.2.1, Bool.not_true, cond_false, bsm, bsm, if_neg (fun q => q (by omega)), in2 i X Y h1 h2 s hX, hok.2.2, if_pos rfl, bsm]
  dsimp only
  rw [aQ (by omega), bsm]
 ·obtain ⟨X, Y, h1, h2, s, hX, hY⟩ := each i hi
  obtain ⟨b1, b2, _⟩ := bd X hX
  rw [h1, h2] at hok
  have hok : eqU X Y = false := hok
  rw [eqU] at hok
  have la := s.args
  rw [lL, if_pos (by omega), bU h1, bsm, bU h2, bsm, vA (by omega), bsm]
  cases c1 : decide (X.Chans = Y.Chans) with
  | false => rw [Bool.not_false, cond_true, bsm, bsm, bsm]
  | true =>
   rw [c1, Bool.true_and] at hok
   rw [Bool.not_true, cond_false, bsm, bsm, vA (by omega), bsm]
   cases c2 : decide (X.Rules = Y.Rules) with
   | false => rw [Bool.not_false, cond_true, bsm, bsm, bsm]
   | true =>
    rw [c2, Bool.true_and] at hok
    rw [Bool.not_true, cond_false, bsm, bsm, if_neg (fun q => q (by omega)), in2 i X Y h1 h2 s hX, hok, if_neg (by decide), bsm]
 ·rw [lL, if_neg (by omega)]
theorem cK.sm (S : bO p t L H) (hk : cK p tab) : ∀ a ∈ tab, SmU a := fun a ha => by
 obtain ⟨b1, b2, b3, b4⟩ := cK.bd S hk a ha
 exact ⟨by omega, by omega, by omega, fun z hz => by have := b4 z hz; omega⟩
structure qV (p : ScopeProg) (H : Nat) (T : List UsageDef) : Prop where
 ok : cK p T
 ku : ∀ X ∈ T, KU X
 up : LeT T (eC p H T)
 low : ∀ U, cK p U → LeT (eC p H U) U → LeT T U
theorem grow (S : bO p t L H) : ∀ (j k : Nat) (T : List UsageDef), qV p H T → 4800 - wtT T ≤ (j : Int) → j < k → ∃ R, qV p H R ∧ eC p H R = R ∧ nJ F t k T = some R ∧ wW F L k T = some R
 | j, 0, T, _, _, hk => absurd hk (by omega)
 | j, k + 1, T, g, hw, hk => by
  obtain ⟨a1, a2⟩ := all_eq' S g.ok
  obtain ⟨b, b1, b2⟩ := aH9 S g.ok (qL S (tab := T)) (g.ok.sm S)
  obtain ⟨c, c1, c2⟩ := same_r S g.ok (qL S (tab := T))
  rw [nJ, a1, bsm, b1, bsm, wW, a2, bsm, c1, bsm]
  by_cases h : T = eC p H T
  ·rw [b2.2 h, c2.2 h, cond_true, cond_true]
   exact ⟨T, g, h.symm, rfl, rfl⟩
  ·have hb : b = false := by cases b with | false => rfl | true => exact absurd (b2.1 rfl) h
   have hc : c = false := by cases c with | false => rfl | true => exact absurd (c2.1 rfl) h
   rw [hb, hc, cond_false, cond_false]
   have ok' := qL S (tab := T)
   obtain ⟨w1, w2⟩ := g.up.weigh g.ok ok'
   have bd := (aCE _ (cK.bd S ok')).2
   have dl := S.defs
   have al := sD (p := p) (H := H) (tab := T)
   have lt : wtT T < wtT (eC p H T) := by
    apply Classical.byContradiction
    intro q
    exact h (w2 (by omega) g.ku (aDw S))
   obtain _ | j := j
   ·omega
   exact grow S j k (eC p H T) ⟨ok', aDw S, aDv S g.up, fun U hU hl => (aDv S (g.low U hU hl)).trans hl⟩ (by omega) (by omega)
theorem aGC (S : bO p t L H) : ∃ R, qV p H R ∧ eC p H R = R ∧ nJ F t F (fT p) = some R ∧ wW F L F (fT p) = some R := by
 have w := (aCE _ (cK.bd S (aCD S))).1
 exact grow S 4800 F (fT p) ⟨aCD S, noneM_KU, aFy S (qL S), fun U hU _ => aFy S hU⟩ (by omega) (by show _ < 4000000; omega)
end Go.Proofs.YtmnbfgeljmhekaaGreat
namespace Go.Proofs.YtmnbfgeljmhekaaGreat
open Go.SX Go.SW
theorem aGd {W : World} {a : Addr} {c : Value} (h : W.cell? a = some c) : (iT W).cell a = some c := by
 unfold World.cell? at h
 unfold Mem.cell tM iT
 cases hb : W.heap[a.block]? with
 | none => rw [hb] at h; cases h
 | some o =>
  rw [hb] at h
  cases o with
  | cells c t fr =>
   dsimp only at h ⊢
   first
    | exact h
    | (cases hs : a.spot with
      | none => rw [hs] at h; simpa using h
      | some s => rw [hs] at h; simp at h)
  | _ => cases h
theorem aDP {H : Type} {d : DataW H} {l : List (DataW H)} (h : d ∈ l) : Rows.uptoBulk d ≤ Rows.uptoBulkAll l := by
 induction l with
 | nil => cases h
 | cons x r ih =>
  simp only [Rows.uptoBulkAll]
  cases h with
  | head => omega
  | tail _ e => have := ih e; omega
theorem bulk_one {H : Type} (d : DataW H) : 1 ≤ Rows.uptoBulk d := by
 cases d with
 | lit l => cases l <;> simp [Rows.uptoBulk]
 | _ => simp [Rows.uptoBulk]
section
variable {H : Type} {enc : TypeId × Value → H} {P : Program} {W : World}
def Rd (enc : TypeId × Value → H) (P : Program) (W : World) (n : Nat) {α : Type} (T : Ty α) (t : TypeId) (μ : α → Nat) (S : α → Prop) : Prop :=
 ∀ cs x, DataW.trod enc P W 0 (fun _ => true) true n t cs = some x → Rows.uptoBulk x.1 ≤ 1048576 → ∃ a, aX (T.leafs a) (iT W) cs ∧ μ a ≤ Rows.uptoBulk x.1 ∧ S a
def RdF (enc : TypeId × Value → H) (P : Program) (W : World) (n : Nat) (fs : List Field) (o e : Nat) {β : Type} (L : β → List Fact) (μ : β → Nat) (S : β → Prop) : Prop :=
 ∀ (cs : List Value) xs, cs.length = e → (fs.mapM fun f => DataW.trod enc P W 0 (fun _ => true) true n f.type ((cs.drop f.offset).take (P.cellsOf f.type))) = some xs → Rows.uptoBulkAll (xs.map (·.1)) ≤ 1048576 → ∃ b, aX (L b) (iT W) (cs.drop o) ∧ μ b ≤ Rows.uptoBulkAll (xs.map (·.1)) ∧ S b
theorem nW {α : Type} {T : Ty α} {t : TypeId} {μ : α → Nat} {S : α → Prop} : Rd enc P W 0 T t μ S := fun cs x h => by cases h
theorem qG {n e : Nat} : RdF enc P W n [] e e (β := Unit) (fun _ => []) (fun _ => 0) (fun _ => True) := fun cs xs hl h hb => ⟨(), by rw [List.drop_of_length_le (by omega)]; rfl, Nat.zero_le _, trivial⟩
theorem aDd {α β : Type} {f : α → Option β} {x : α} {l : List α} {ys : List β} (h : (x :: l).mapM f = some ys) : ∃ y r, f x = some y ∧ l.mapM f = some r ∧ ys = y :: r := by
 rw [List.mapM_cons] at h
 cases hx : f x with
 | none => rw [hx] at h; cases h
 | some y =>
  cases hl : l.mapM f with
  | none => rw [hx, hl] at h; cases h
  | some r => rw [hx, hl] at h; cases h; exact ⟨y, r, rfl, rfl, rfl⟩
theorem fB {n o e : Nat} {f : Field} {fs : List Field} {α β : Type} {T : Ty α} {μ : α → Nat} {S : α → Prop} {L : β → List Fact} {ν : β → Nat} {R : β → Prop} (h : Rd enc P W n T f.type μ S) (ho : f.offset = o) (hz : P.cellsOf f.type = T.sz) (k : RdF enc P W n fs (o + T.sz) e L ν R) :
  RdF enc P W n (f :: fs) o e (fun x : α × β => T.leafs x.1 ++ L x.2) (fun x => μ x.1 + ν x.2) (fun x => S x.1 ∧ R x.2) := fun cs xs hl hm hb => by
 obtain ⟨y, r, h1, h2, rfl⟩ := aDd hm
 simp only [List.map_cons, Rows.uptoBulkAll] at hb
 obtain ⟨a, a1, a2, a3⟩ := h _ _ h1 (by omega)
 obtain ⟨b, b1, b2, b3⟩ := k cs r hl h2 (by omega)
 refine ⟨(a, b), ?_, by simp only [List.map_cons, Rows.uptoBulkAll]; omega, a3, b3⟩
 have := a1.append b1
 rw [ho, hz, ← List.drop_drop, List.take_append_drop] at this
 exact this
theorem pT {n e : Nat} {α β : Type} {T : Ty α} {t : TypeId} {fs : Array Field} {μ : α → Nat} {S : α → Prop} {L : β → List Fact} {ν : β → Nat} {R : β → Prop} (mk : β → α) (ht : P.underlying t = some (.struct fs)) (hc : P.cellsOf t = e) (k : RdF enc P W n fs.toList 0 e L ν R)
  (hL : ∀ b, T.leafs (mk b) = L b) (hμ : ∀ b, μ (mk b) ≤ ν b + 1) (hS : ∀ b, R b → ν b + 1 ≤ 1048576 → S (mk b)) : Rd enc P W (n + 1) T t μ S := fun cs x h hb => by
 rw [DataW.trod_step] at h
 unfold DataW.trodStep at h
 rw [ht] at h
 dsimp only at h
 split at h
 ·rename_i hcs
  cases hm : (fs.toList.mapM fun f => DataW.trod enc P W 0 (fun _ => true) true n f.type ((cs.drop f.offset).take (P.cellsOf f.type))) with
  | none => rw [hm] at h; cases h
  | some xs =>
   rw [hm] at h
   cases h
   simp only [Rows.uptoBulk] at hb
   obtain ⟨b, b1, b2, b3⟩ := k cs xs (by omega) hm (by omega)
   rw [List.drop_zero] at b1
   have := hμ b
   refine ⟨mk b, by rw [hL]; exact b1, by simp only [Rows.uptoBulk]; omega, hS b b3 (by omega)⟩
 ·cases h
theorem rd_int {n : Nat} {t : TypeId} {k : IntKind} (ht : P.underlying t = some (.int k)) : Rd enc P W n (aB k) t (fun _ => 1) (fun i => (Lit.int k i).wf = true) := fun cs x h hb => by
 obtain _ | n := n
 ·cases h
 rw [DataW.trod_step] at h
 unfold DataW.trodStep at h
 rw [ht] at h
 match cs, h with
 | [.int k' i], h =>
  dsimp only at h
  split at h
  ·rename_i hc
   obtain ⟨rfl, hw⟩ := hc
   cases h
   exact ⟨i, ⟨_, [], rfl, rfl, rfl⟩, Nat.le_refl _, hw⟩
  ·cases h
theorem rd_str {n : Nat} {t : TypeId} (ht : P.underlying t = some .string) : Rd enc P W n aN t (fun s => s.size + 1) (fun s => s.size ≤ 1048576) := fun cs x h hb => by
 obtain _ | n := n
 ·cases h
 rw [DataW.trod_step] at h
 unfold DataW.trodStep at h
 rw [ht] at h
 match cs, h with
 | [.string s], h =>
  dsimp only at h
  split at h
  ·cases h
   have e : s.data.toList.length = s.size := rfl
   simp only [Rows.uptoBulk] at hb
   exact ⟨s, ⟨_, [], rfl, rfl, rfl⟩, by simp only [Rows.uptoBulk]; omega, by omega⟩
  ·cases h
def msum {α : Type} (μ : α → Nat) : List α → Nat
 | [] => 0
 | a :: l => μ a + msum μ l
theorem aEp {α : Type} {f : Nat → Option α} {n : Nat} {l : List α} (h : (List.range n).mapM f = some l) : l.length = n ∧ ∀ i, i < n → ∃ y, l[i]? = some y ∧ f i = some y := by
 have g : ∀ (ks : List Nat) (l : List α), ks.mapM f = some l → l.length = ks.length ∧ ∀ (i k : Nat), ks[i]? = some k → ∃ y, l[i]? = some y ∧ f k = some y := fun ks => by
  induction ks with
  | nil => intro l h; cases h; exact ⟨rfl, fun i k h => by simp at h⟩
  | cons k ks ih =>
   intro l h
   obtain ⟨y, r, h1, h2, rfl⟩ := aDd h
   obtain ⟨a, b⟩ := ih r h2
   refine ⟨by simp [a], fun i q hq => ?_⟩
   cases i with
   | zero => simp at hq; subst hq; exact ⟨y, rfl, h1⟩
   | succ i => exact b i q (by simpa using hq)
 obtain ⟨a, b⟩ := g _ _ h
 exact ⟨by simpa using a, fun i hi => b i i (by simp [hi])⟩
theorem aGl {W : World} {b z : Nat} {a : Addr} {cs : List Value} (h : W.cells? b a z = some cs) : ∀ (j : Nat) c, cs[j]? = some c → W.cell? (a.add j) = some c := by
 unfold World.cells? at h
 split at h
 ·obtain ⟨h1, h2⟩ := aEp h
  intro j c hj
  have := (List.getElem?_eq_some_iff.1 hj).1
  obtain ⟨y, y1, y2⟩ := h2 j (by omega)
  rw [hj] at y1; cases y1; exact y2
 ·cases h
theorem aFF {α γ : Type} {Q : γ → α → Prop} : ∀ (l : List γ), (∀ c ∈ l, ∃ a, Q c a) → ∃ r : List α, r.length = l.length ∧ ∀ (i : Nat) c, l[i]? = some c → ∃ a, r[i]? = some a ∧ Q c a
 | [], _ => ⟨[], rfl, fun i c h => by simp at h⟩
 | c :: l, h => by
  obtain ⟨a, ha⟩ := h c (.head _)
  obtain ⟨r, h1, h2⟩ := aFF l (fun c hc => h c (.tail _ hc))
  refine ⟨a :: r, by simp [h1], fun i q hq => ?_⟩
  cases i with
  | zero => simp at hq; subst hq; exact ⟨a, rfl, ha⟩
  | succ i => exact h2 i q (by simpa using hq)
theorem aFf {α : Type} {μ : α → Nat} : ∀ {r : List α} {ds : List (DataW H)}, r.length = ds.length → (∀ (i : Nat) d a, ds[i]? = some d → r[i]? = some a → μ a ≤ Rows.uptoBulk d) → msum μ r ≤ Rows.uptoBulkAll ds ∧ r.length ≤ Rows.uptoBulkAll ds
 | [], [], _, _ => ⟨Nat.zero_le _, Nat.zero_le _⟩
 | a :: r, d :: ds, hl, h => by
  obtain ⟨h1, h2⟩ := aFf (r := r) (ds := ds) (by simpa using hl) (fun i d a hd ha => h (i + 1) d a (by simpa using hd) (by simpa using ha))
  have := h 0 d a rfl rfl
  have := bulk_one d
  simp only [msum, Rows.uptoBulkAll, List.length_cons]; omega
theorem rd_sl {n : Nat} {t e : TypeId} {α : Type} {T : Ty α} {μ : α → Nat} {S : α → Prop} (ht : P.underlying t = some (.slice e)) (hz : P.cellsOf e = T.sz) (h : Rd enc P W n T e μ S) : Rd enc P W (n + 1) (tSl T) t (fun l => msum μ l + 1) (fun l => l.length ≤ 1048576 ∧ ∀ a ∈ l, S a) := fun cs x hx hb => by
 rw [DataW.trod_step] at hx
 unfold DataW.trodStep at hx
 rw [ht] at hx
 match cs, hx with
 | [.slice none 0 0], hx =>
  cases hx
  exact ⟨[], ⟨_, [], rfl, dU (iT W) _ rfl, rfl⟩, Nat.le_refl _, by simp, fun a ha => by cases ha⟩
 | [.slice (some p) len cap], hx =>
  dsimp only at hx
  split at hx
  ·rename_i hc
   cases h1 : ((List.range len).mapM fun i => (W.cells? 0 (p.add (i * P.cellsOf e)) (P.cellsOf e)).bind (DataW.trod enc P W 0 (fun _ => true) true n e)) with
   | none => rw [h1] at hx; cases hx
   | some es =>
    rw [h1] at hx
    obtain ⟨aV, _, rfl⟩ := Option.map_eq_some_iff.1 hx
    obtain ⟨l1, l2⟩ := aEp h1
    simp only [Rows.uptoBulk] at hb
    have each : ∀ y ∈ es, ∃ a, (μ a ≤ Rows.uptoBulk y.1 ∧ S a) ∧ ∀ i cs', W.cells? 0 (p.add (i * P.cellsOf e)) (P.cellsOf e) = some cs' → DataW.trod enc P W 0 (fun _ => true) true n e cs' = some y → True := fun y hy => by
     obtain ⟨i, hi, rfl⟩ := List.mem_iff_getElem.1 hy
     obtain ⟨y, y1, y2⟩ := l2 i (by omega)
     obtain ⟨cs', c1, c2⟩ := Option.bind_eq_some_iff.1 y2
     have e1 : es[i] = y := by rw [List.getElem?_eq_getElem hi] at y1; exact Option.some.inj y1
     have m1 : Rows.uptoBulk y.1 ≤ Rows.uptoBulkAll (es.map (·.1)) := aDP (List.mem_map_of_mem (by rw [← e1]; exact List.getElem_mem _))
     obtain ⟨a, a1, a2, a3⟩ := h _ _ c2 (by omega)
     exact ⟨a, ⟨by rw [e1]; exact a2, a3⟩, fun _ _ _ _ => trivial⟩
    have each2 : ∀ i ∈ List.range len, ∃ a, (∃ y, es[i]? = some y ∧ μ a ≤ Rows.uptoBulk y.1) ∧ S a ∧ T.at (iT W) (p.add (i * T.sz)) a := fun i hi => by
     obtain ⟨y, y1, y2⟩ := l2 i (by simpa using hi)
     obtain ⟨cs', c1, c2⟩ := Option.bind_eq_some_iff.1 y2
     have m1 : Rows.uptoBulk y.1 ≤ Rows.uptoBulkAll (es.map (·.1)) := aDP (List.mem_map_of_mem (List.mem_of_getElem? y1))
     obtain ⟨a, a1, a2, a3⟩ := h _ _ c2 (by omega)
     exact ⟨a, ⟨y, y1, a2⟩, a3, cs', a1, fun j c hj => by rw [← hz]; exact aGd (aGl c1 j c hj)⟩
    obtain ⟨r, r1, r2⟩ := aFF (List.range len) each2
    have rl : r.length = len := by simpa using r1
    have r3 : ∀ i, i < len → ∃ a, r[i]? = some a ∧ (∃ y, es[i]? = some y ∧ μ a ≤ Rows.uptoBulk y.1) ∧ S a ∧ T.at (iT W) (p.add (i * T.sz)) a := fun i hi => r2 i i (by simp [hi])
    obtain ⟨m1, m2⟩ := aFf (μ := μ) (r := r) (ds := es.map (·.1)) (by simp [rl, l1]) (fun i d a hd ha => by
     obtain ⟨a', a1, ⟨y, y1, y2⟩, _⟩ := r3 i (by have := (List.getElem?_eq_some_iff.1 ha).1; omega)
     rw [ha] at a1; cases a1
     rw [List.getElem?_map, y1] at hd; cases hd
     exact y2)
    refine ⟨r, ⟨_, [], rfl, ⟨fun i => p.add (i * T.sz), ⟨some p, cap, by rw [rl], by rw [rl]; exact hc.2.1, fun i _ => ⟨p, rfl, rfl⟩⟩, by omega, fun i a ha => ?_⟩, rfl⟩, by simp only [Rows.uptoBulk]; omega, by omega, fun a ha => ?_⟩
    ·obtain ⟨a', a1, _, _, a2⟩ := r3 i (by have := (List.getElem?_eq_some_iff.1 ha).1; omega)
     rw [ha] at a1; cases a1; exact a2
    ·obtain ⟨i, hi, rfl⟩ := List.mem_iff_getElem.1 ha
     obtain ⟨a', a1, _, a2, _⟩ := r3 i (by omega)
     rw [List.getElem?_eq_getElem hi] at a1; cases a1; exact a2
  ·cases hx
theorem Rd.mono {n : Nat} {α : Type} {T : Ty α} {t : TypeId} {μ ν : α → Nat} {S R : α → Prop} (h : Rd enc P W n T t μ S) (hμ : ∀ a, ν a ≤ μ a) (hS : ∀ a, S a → μ a ≤ 1048576 → R a) : Rd enc P W n T t ν R := fun cs x hx hb => by
 obtain ⟨a, a1, a2, a3⟩ := h cs x hx hb
 exact ⟨a, a1, Nat.le_trans (hμ a) a2, hS a a3 (by omega)⟩
theorem arg_st {α : Type} {T : Ty α} {t : TypeId} {μ : α → Nat} {S : α → Prop} {fs : Array Field} {r : Reach} {b0 : Nat} {v : Value} {d : DataW H} {ps : List MemPlace} (h : ∀ n, Rd enc P W n T t μ S) (ht : P.underlying t = some (.struct fs)) (hval : Value.okWide P W r b0 t v)
  (hd : DataW.Trod enc P W 0 (fun _ => true) true t v d ps) (hb : Rows.uptoBulk d ≤ 1048576) : ∃ a, (fSt T a).p (iT W) v ∧ S a := by
 unfold Value.okWide at hval
 rw [ht] at hval
 obtain ⟨cs, rfl, _⟩ := hval
 obtain ⟨n, hn⟩ := hd
 obtain ⟨a, a1, _, a2⟩ := h n _ _ hn hb
 exact ⟨a, ⟨cs.toList, by simp, a1⟩, a2⟩
theorem arg_sl {α : Type} {T : Ty α} {t e : TypeId} {μ : List α → Nat} {S : List α → Prop} {r : Reach} {b0 : Nat} {v : Value} {d : DataW H} {ps : List MemPlace} (h : ∀ n, Rd enc P W n (tSl T) t μ S) (ht : P.underlying t = some (.slice e)) (hval : Value.okWide P W r b0 t v)
  (hd : DataW.Trod enc P W 0 (fun _ => true) true t v d ps) (hb : Rows.uptoBulk d ≤ 1048576) : ∃ a, (fSl T a).p (iT W) v ∧ S a := by
 have hc : v.cells = #[v] := by
  cases v with
  | agg cs => simp [Value.okWide, ht, Cell.okWide, Cell.ok] at hval
  | _ => rfl
 obtain ⟨n, hn⟩ := hd
 rw [hc] at hn
 obtain ⟨a, ⟨c, l, e1, a1, _⟩, _, a2⟩ := h n _ _ hn hb
 cases e1
 exact ⟨a, a1, a2⟩
end
end Go.Proofs.YtmnbfgeljmhekaaGreat
namespace Go.Proofs.YtmnbfgeljmhekaaGreat
open Go.SX Go.SW Go.Dt
section
variable {H : Type} {enc : TypeId × Value → H} {W : World}
abbrev RdP (enc : TypeId × Value → H) (W : World) (n : Nat) {α : Type} (T : Ty α) (t : TypeId) (μ : α → Nat) (S : α → Prop) : Prop := Rd enc Tryz.prog W n T t μ S
theorem iZ (n : Nat) {t : TypeId} (ht : Tryz.prog.underlying t = some (.int .i64)) : RdP enc W n (aB .i64) t (fun _ => 1) (fun _ => True) := (rd_int ht).mono (fun _ => Nat.le_refl _) (fun _ _ _ => trivial)
theorem pE {n : Nat} {t e : TypeId} {α : Type} {T : Ty α} {μ : α → Nat} {S : α → Prop} (ht : Tryz.prog.underlying t = some (.slice e)) (hz : Tryz.prog.cellsOf e = T.sz) (h : ∀ k, RdP enc W k T e μ S) : RdP enc W n (tSl T) t (fun l => msum μ l + 1) (fun l => l.length ≤ 1048576 ∧ ∀ a ∈ l, S a) := by
 cases n with
 | zero => exact nW
 | succ n => exact rd_sl ht hz (h n)
theorem aCV (n : Nat) {t e : TypeId} (ht : Tryz.prog.underlying t = some (.slice e)) (he : Tryz.prog.underlying e = some (.int .i64)) (hz : Tryz.prog.cellsOf e = 1) : RdP enc W n (tSl (aB .i64)) t (fun _ => 0) (fun l => l.length ≤ 1048576) :=
 (pE ht hz (fun k => iZ k he)).mono (fun _ => Nat.zero_le _) (fun _ h _ => h.1)
theorem xC : ∀ l : List ScopeExp, nL l = msum nE l
 | [] => rfl
 | a :: l => by simp only [nL, msum, xC l]
theorem aEh (a b : Int) (c : List ScopeExp) : bA.leafs ⟨a, b, c⟩ = [aA .i64 a, aA .i64 b, fSl bA c] := by
 show [_, _, fX c] = _
 rw [iC]
theorem rd_exp : ∀ n : Nat, RdP enc W n bA 56 nE (fun e => nE e ≤ 1048576)
 | 0 => nW
 | 1 => fun cs x h hb => (pT (μ := nE) (S := fun e => nE e ≤ 1048576) (T := bA) (fun b : Int × Int × List ScopeExp × Unit => ⟨b.1, b.2.1, b.2.2.1⟩) Tryz.underlying56 (e := 3) (by kernel_rfl)
   (fB (iZ 0 Tryz.underlying54) rfl (by kernel_rfl) (fB (iZ 0 Tryz.underlying3) rfl (by kernel_rfl) (fB (T := tSl bA) (μ := fun l => msum nE l + 1) (S := fun _ => True) nW rfl (by kernel_rfl) qG)))
   (fun b => aEh b.1 b.2.1 b.2.2.1) (fun b => by simp only [nE, xC]; omega) (fun b _ hb => by simp only [nE, xC] at *; omega)) cs x h hb
 | n + 2 => fun cs x h hb => (pT (μ := nE) (S := fun e => nE e ≤ 1048576) (T := bA) (fun b : Int × Int × List ScopeExp × Unit => ⟨b.1, b.2.1, b.2.2.1⟩) Tryz.underlying56 (e := 3) (by kernel_rfl)
   (fB (iZ _ Tryz.underlying54) rfl (by kernel_rfl) (fB (iZ _ Tryz.underlying3) rfl (by kernel_rfl) (fB (rd_sl Tryz.underlying48 (by kernel_rfl) (rd_exp n)) rfl (by kernel_rfl) qG)))
   (fun b => aEh b.1 b.2.1 b.2.2.1) (fun b => by simp only [nE, xC]; omega) (fun b _ hb => by simp only [nE, xC] at *; omega)) cs x h hb
theorem aFU : ∀ n : Nat, RdP enc W n aL 51 (fun _ => 0) (fun x => x.Args.length ≤ 2000000 ∧ x.Kids.length ≤ 2000000 ∧ ∀ e ∈ x.Args, nE e ≤ 2000000)
 | 0 => nW
 | n + 1 => pT (T := aL) (fun b : Int × Int × List ScopeExp × List Int × Unit => ⟨b.1, b.2.1, b.2.2.1, b.2.2.2.1⟩) Tryz.underlying51 (e := 4) (by kernel_rfl)
   (fB (iZ n Tryz.underlying47) rfl (by kernel_rfl) (fB (iZ n Tryz.underlying3) rfl (by kernel_rfl) (fB (pE Tryz.underlying48 (by kernel_rfl) rd_exp) rfl (by kernel_rfl) (fB (aCV n Tryz.underlying49 Tryz.underlying3 (by kernel_rfl)) rfl (by kernel_rfl) qG))))
   (fun _ => rfl) (fun _ => Nat.zero_le _) (fun b h _ => ⟨by have := h.2.2.1.1; show b.2.2.1.length ≤ _; omega, by have := h.2.2.2.1; show b.2.2.2.1.length ≤ _; omega, fun e he => Nat.le_trans (h.2.2.1.2 e he) (by omega)⟩)
theorem aGi : ∀ n : Nat, RdP enc W n bC 110 (fun _ => 0) (fun _ => True)
 | 0 => nW
 | n + 1 => pT (T := bC) (fun b : Int × Int × Unit => ⟨b.1, b.2.1⟩) Tryz.underlying110 (e := 2) (by kernel_rfl)
   (fB (iZ n Tryz.underlying3) rfl (by kernel_rfl) (fB (iZ n Tryz.underlying3) rfl (by kernel_rfl) qG))
   (fun _ => rfl) (fun _ => Nat.zero_le _) (fun _ _ _ => trivial)
theorem aHV : ∀ n : Nat, RdP enc W n bV 102 (fun _ => 0) (fun _ => True)
 | 0 => nW
 | n + 1 => pT (T := bV) (fun b : Int × Int × Unit => ⟨b.1, b.2.1⟩) Tryz.underlying102 (e := 2) (by kernel_rfl)
   (fB (iZ n Tryz.underlying3) rfl (by kernel_rfl) (fB (iZ n Tryz.underlying3) rfl (by kernel_rfl) qG))
   (fun _ => rfl) (fun _ => Nat.zero_le _) (fun _ _ _ => trivial)
theorem aGz : ∀ n : Nat, RdP enc W n bH 105 (fun _ => 0) (fun x => x.Joins.length ≤ 2000000)
 | 0 => nW
 | n + 1 => pT (T := bH) (fun b : Int × List Int × Int × Unit => ⟨b.1, b.2.1, b.2.2.1⟩) Tryz.underlying105 (e := 3) (by kernel_rfl)
   (fB (iZ n Tryz.underlying3) rfl (by kernel_rfl) (fB (aCV n Tryz.underlying49 Tryz.underlying3 (by kernel_rfl)) rfl (by kernel_rfl) (fB (iZ n Tryz.underlying3) rfl (by kernel_rfl) qG)))
   (fun _ => rfl) (fun _ => Nat.zero_le _) (fun b h _ => by have := h.2.1; show b.2.1.length ≤ _; omega)
theorem aH7 : ∀ n : Nat, RdP enc W n aI 99 (fun _ => 0) (smD)
 | 0 => nW
 | n + 1 => pT (T := aI) (fun b : List ScopeChan × List ScopeSpot × List ScopeRule × Unit => ⟨b.1, b.2.1, b.2.2.1⟩) Tryz.underlying99 (e := 3) (by kernel_rfl)
   (fB (pE Tryz.underlying95 (by kernel_rfl) aGi) rfl (by kernel_rfl) (fB (pE Tryz.underlying96 (by kernel_rfl) aHV) rfl (by kernel_rfl) (fB (pE Tryz.underlying97 (by kernel_rfl) aGz) rfl (by kernel_rfl) qG)))
   (fun _ => rfl) (fun _ => Nat.zero_le _) (fun b h _ => ⟨by have := h.1.1; show b.1.length ≤ _; omega, by have := h.2.1.1; show b.2.1.length ≤ _; omega, by have := h.2.2.1.1; show b.2.2.1.length ≤ _; omega, h.2.2.1.2⟩)
theorem aIa : ∀ n : Nat, RdP enc W n dJ 26 (fun _ => 0) (SmP)
 | 0 => nW
 | n + 1 => pT (T := dJ) (fun b : List ByteArray × List ScopeNode × List ScopeDef × Int × Unit => ⟨b.1, b.2.1, b.2.2.1, b.2.2.2.1⟩) Tryz.underlying26 (e := 4) (by kernel_rfl)
   (fB (pE (S := fun s : ByteArray => s.size ≤ 1048576) Tryz.underlying22 (by kernel_rfl) (fun k => (rd_str (n := k) Tryz.underlying9))) rfl (by kernel_rfl) (fB (pE Tryz.underlying23 (by kernel_rfl) aFU) rfl (by kernel_rfl) (fB (pE Tryz.underlying24 (by kernel_rfl) aH7) rfl (by kernel_rfl) (fB (iZ n Tryz.underlying3) rfl (by kernel_rfl) qG))))
   (fun _ => rfl) (fun _ => Nat.zero_le _) (fun b h _ => ⟨by have := h.2.1.1; show b.2.1.length ≤ _; omega, by have := h.2.2.1.1; show b.2.2.1.length ≤ _; omega, by have := h.1.1; show b.1.length ≤ _; omega, fun x hx => Nat.le_trans (h.1.2 x hx) (by omega), h.2.1.2, h.2.2.1.2⟩)
end
end Go.Proofs.YtmnbfgeljmhekaaGreat
set_option maxRecDepth 100000
namespace Go.Proofs.YtmnbfgeljmhekaaGreat
open Go.SX Go.SW Go.Dt
theorem works_ev : oQ 4000000 = some true := by kernel_rfl
theorem xG : oQ F = some true := works_ev
end Go.Proofs.YtmnbfgeljmhekaaGreat
set_option maxRecDepth 100000
namespace Go.Proofs.YtmnbfgeljmhekaaGreat
open Go.SX Go.SW Go.Dt
variable {p : ScopeProg} {t : Usage_text} {L : bP} {H : Nat} {tab tab' : List UsageDef} {d n : Int} {e : E} {x : ScopeNode} {D : ScopeDef}
def eV (R : List UsageDef) (j : Nat) : UsageDef := (R[j]?).getD ⟨[], [], []⟩
def iQ (X : UsageDef) (c : Nat) : Int := (X.Chans[c]?).getD 0
noncomputable def gQ (p : ScopeProg) (H : Nat) (X : UsageDef) (d : Int) (c : Nat) : Int := if iQ X c = 3 ∧ begV p H d (c : Int) = 1 then 2 else iQ X c
noncomputable def fM (p : ScopeProg) (H : Nat) (X : UsageDef) (d : Int) : UsageDef := { X with Chans := (List.range X.Chans.length).map (gQ p H X d) }
noncomputable def gH (p : ScopeProg) (H : Nat) (R : List UsageDef) : List UsageDef := (List.range R.length).map fun j => fM p H (eV R j) (j : Int)
theorem zI {α : Type} {z : α} (l : List α) : (List.range l.length).map (fun j => (l[j]?).getD z) = l := by
 apply List.ext_getElem?
 intro j
 by_cases hj : j < l.length
 ·rw [iA hj, List.getElem?_eq_getElem hj]; rfl
 ·rw [List.getElem?_eq_none (by simp; omega), List.getElem?_eq_none (by omega)]
theorem aAv {α : Type} {f g : Nat → α} {n : Nat} : (List.range n).map (fun c => if c < 0 then f c else g c) = (List.range n).map g := List.map_congr_left fun c _ => if_neg (by omega)
theorem yX {α : Type} {f g : Nat → α} {n : Nat} : (List.range n).map (fun c => if c < n then f c else g c) = (List.range n).map f := List.map_congr_left fun c hc => if_pos (List.mem_range.1 hc)
theorem yJ {α : Type} {f g : Nat → α} {n i : Nat} : ((List.range n).map fun c => if c < i then f c else g c).set i (f i) = (List.range n).map fun c => if c < i + 1 then f c else g c := by
 rw [wU]
 apply List.map_congr_left
 intro c _
 by_cases q : c = i
 ·subst q; rw [if_pos rfl, if_pos (by omega)]
 ·rw [if_neg q]
  by_cases q2 : c < i
  ·rw [if_pos q2, if_pos (by omega)]
  ·rw [if_neg q2, if_neg (by omega)]
theorem zU {α : Type} {f g : Nat → α} {n i : Nat} (h : f i = g i) : ((List.range n).map fun c => if c < i then f c else g c) = (List.range n).map fun c => if c < i + 1 then f c else g c := by
 apply List.map_congr_left
 intro c _
 by_cases q : c = i
 ·subst q; rw [if_neg (by omega), if_pos (by omega), h]
 ·by_cases q2 : c < i
  ·rw [if_pos q2, if_pos (by omega)]
  ·rw [if_neg q2, if_neg (by omega)]
theorem fin3_p (S : bO p t L H) (hh : dY p H d n e x D) (ht : idx t.heads d = some n) {X : UsageDef} (ok1 : okU1 D X) {T : List UsageDef} (hT : ∃ z, idx T d = some z) : nA F t T d X F X.Chans 0 = some (T.set d.toNat (fM p H X d)) := by
 have ho := dR hh.ok
 have hl := ok1.chans
 obtain ⟨z, hz⟩ := hT
 have e0 : X.Chans = (List.range X.Chans.length).map fun c => if c < 0 then gQ p H X d c else iQ X c := by rw [aAv]; exact (zI X.Chans).symm
 conv => lhs; rw [e0]
 rw [show fM p H X d = { X with Chans := (List.range X.Chans.length).map fun c => if c < X.Chans.length then gQ p H X d c else iQ X c } from by rw [yX]; rfl]
 refine fI (fun k (s : List Int × Int) => nA F t T d X k s.1 s.2) X.Chans.length (fun i => ((List.range X.Chans.length).map fun c => if c < i then gQ p H X d c else iQ X c, (i : Int))) _ (fun k i hi => ?_) (fun k => ?_) (by show _ < 4000000; omega)
 ·dsimp only
  obtain ⟨b1, _⟩ := aDg S hh (c := i) (by omega)
  rw [nA, if_pos (by omega), jT hi, bsm, if_neg (show ¬ i < i from by omega)]
  by_cases y3 : iQ X i = 3
  ·rw [if_pos y3, ht, bsm, aB0 S hh ht (by omega), bsm, b1, bsm]
   by_cases b : begV p H d i = 1
   ·rw [if_pos b, hz, bsm, bsm, bsm, aQ (by omega), bsm, Int.toNat_natCast]
    congr 1
    rw [show (2 : Int) = gQ p H X d i from by unfold gQ; rw [if_pos ⟨y3, b⟩]]
    exact yJ
   ·rw [if_neg b, bsm, aQ (by omega), bsm]
    congr 1
    exact zU (by unfold gQ; rw [if_neg (fun q => b q.2)])
  ·rw [if_neg y3, bsm, aQ (by omega), bsm]
   congr 1
   exact zU (by unfold gQ; rw [if_neg (fun q => y3 q.1)])
 ·dsimp only
  rw [nA, if_neg (by omega)]
theorem aCQ {α : Type} {T : List α} {d : Int} {z y : α} (h : idx T d = some z) : idx (T.set d.toNat y) d = some y := by
 have := eY h
 obtain ⟨j, rfl⟩ : ∃ j : Nat, d = (j : Int) := ⟨d.toNat, by omega⟩
 rw [Int.toNat_natCast]
 exact bU (by rw [List.getElem?_set_self (by omega)])
theorem oF {α : Type} {T : List α} {d : Int} {z : α} (h : idx T d = some z) : T.set d.toNat z = T := by
 apply List.ext_getElem?
 intro j
 rw [List.getElem?_set]
 have g := bN h
 split
 ·rename_i q; subst q; rw [if_pos (List.getElem?_eq_some_iff.1 g).1, g]
 ·rfl
theorem fin3_r (S : bO p t L H) (hh : dY p H d n e x D) (hL : idx L.Heads d = some n) {X : UsageDef} (ok1 : okU1 D X) {T : List UsageDef} (hT : idx T d = some X) : sQ F L d F T 0 = some (T.set d.toNat (fM p H X d)) := by
 have ho := dR hh.ok
 have hl := ok1.chans
 have e0 : T = T.set d.toNat { X with Chans := (List.range X.Chans.length).map fun c => if c < 0 then gQ p H X d c else iQ X c } := by
  rw [aAv, show (List.range X.Chans.length).map (iQ X) = X.Chans from zI X.Chans]
  exact (oF hT).symm
 conv => lhs; rw [e0]
 rw [show fM p H X d = { X with Chans := (List.range X.Chans.length).map fun c => if c < X.Chans.length then gQ p H X d c else iQ X c } from by rw [yX]; rfl]
 refine fI (fun k (s : List UsageDef × Int) => sQ F L d k s.1 s.2) X.Chans.length (fun i => (T.set d.toNat { X with Chans := (List.range X.Chans.length).map fun c => if c < i then gQ p H X d c else iQ X c }, (i : Int))) _ (fun k i hi => ?_) (fun k => ?_) (by show _ < 4000000; omega)
 ·dsimp only
  obtain ⟨_, b1⟩ := aDg S hh (c := i) (by omega)
  rw [sQ, aCQ hT, bsm, if_pos (by simp; omega), bsm, jT hi, bsm, if_neg (show ¬ i < i from by omega)]
  by_cases y3 : iQ X i = 3
  ·rw [if_pos y3, hL, bsm, aEw S hh hL (by omega), bsm, b1, bsm]
   by_cases b : begV p H d i = 1
   ·rw [if_pos b, bsm, bsm, bsm, aQ (by omega), bsm, Int.toNat_natCast, List.set_set]
    congr 3
    rw [show (2 : Int) = gQ p H X d i from by unfold gQ; rw [if_pos ⟨y3, b⟩]]
    exact yJ
   ·rw [if_neg b, bsm, aQ (by omega), bsm, List.set_set]
    congr 3
    exact zU (by unfold gQ; rw [if_neg (fun q => b q.2)])
  ·rw [if_neg y3, bsm, aQ (by omega), bsm, List.set_set]
   congr 3
   exact zU (by unfold gQ; rw [if_neg (fun q => y3 q.1)])
 ·dsimp only
  rw [sQ, aCQ hT, bsm, if_neg (by simp), List.set_set]
theorem fin_p (S : bO p t L H) (hk : cK p tab) : kB F t tab F tab 0 = some (gH p H tab) := by
 have dl := S.defs
 have tl := hk.1
 have e0 : tab = (List.range tab.length).map fun j => if j < 0 then fM p H (eV tab j) (j : Int) else eV tab j := by rw [aAv]; exact (zI tab).symm
 rw [show gH p H tab = (List.range tab.length).map fun j => if j < tab.length then fM p H (eV tab j) (j : Int) else eV tab j from by rw [yX]; rfl]
 refine (congrArg (kB F t tab F · 0) e0).trans (fI (fun k (s : List UsageDef × Int) => kB F t tab k s.1 s.2) tab.length (fun i => ((List.range tab.length).map fun j => if j < i then fM p H (eV tab j) (j : Int) else eV tab j, (i : Int))) _ (fun k i hi => ?_) (fun k => ?_) (by show _ < 4000000; omega))
 ·dsimp only
  obtain ⟨n, e, x, D, hh, ht, _⟩ := S.headOf (d := (i : Int)) (by omega) (by omega)
  have hX : idx tab (i : Int) = some (eV tab i) := bU (by unfold eV; rw [List.getElem?_eq_getElem hi]; rfl)
  have ok1 := hk.2 _ _ _ hh.hD hX
  have hT : idx ((List.range tab.length).map fun j => if j < i then fM p H (eV tab j) (j : Int) else eV tab j) (i : Int) = some (eV tab i) := by rw [jT hi, if_neg (by omega)]
  rw [kB, if_pos (by omega), hT, bsm, fin3_p S hh ht ok1 ⟨_, hT⟩, bsm, aQ (by omega), bsm, Int.toNat_natCast]
  congr 1
  exact yJ (f := fun j => fM p H (eV tab j) (j : Int))
 ·dsimp only
  rw [kB, if_neg (by omega)]
theorem fin_r (S : bO p t L H) (hk : cK p tab) : rP F L F tab 0 = some (gH p H tab) := by
 have dl := S.defs
 have tl := hk.1
 have e0 : tab = (List.range tab.length).map fun j => if j < 0 then fM p H (eV tab j) (j : Int) else eV tab j := by rw [aAv]; exact (zI tab).symm
 rw [show gH p H tab = (List.range tab.length).map fun j => if j < tab.length then fM p H (eV tab j) (j : Int) else eV tab j from by rw [yX]; rfl]
 refine (congrArg (rP F L F · 0) e0).trans (fI (fun k (s : List UsageDef × Int) => rP F L k s.1 s.2) tab.length (fun i => ((List.range tab.length).map fun j => if j < i then fM p H (eV tab j) (j : Int) else eV tab j, (i : Int))) _ (fun k i hi => ?_) (fun k => ?_) (by show _ < 4000000; omega))
 ·dsimp only
  obtain ⟨n, e, x, D, hh, _, hL⟩ := S.headOf (d := (i : Int)) (by omega) (by omega)
  have hX : idx tab (i : Int) = some (eV tab i) := bU (by unfold eV; rw [List.getElem?_eq_getElem hi]; rfl)
  have ok1 := hk.2 _ _ _ hh.hD hX
  have hT : idx ((List.range tab.length).map fun j => if j < i then fM p H (eV tab j) (j : Int) else eV tab j) (i : Int) = some (eV tab i) := by rw [jT hi, if_neg (by omega)]
  rw [rP, if_pos (by simp; omega), fin3_r S hh hL ok1 hT, bsm, aQ (by omega), bsm, Int.toNat_natCast]
  congr 1
  exact yJ (f := fun j => fM p H (eV tab j) (j : Int))
 ·dsimp only
  rw [rP, if_neg (by simp)]
theorem aCA {i : Nat} {X : UsageDef} (h : tab[i]? = some X) : (gH p H tab)[i]? = some (fM p H X (i : Int)) := by
 have := (List.getElem?_eq_some_iff.1 h).1
 rw [gH, iA this, eV, h]; rfl
theorem aEr : (gH p H tab).length = tab.length := by simp [gH]
theorem aAz (hk : cK p tab) : cK p (gH p H tab) := by
 refine ⟨by rw [aEr]; exact hk.1, fun i D X hD hX => ?_⟩
 have hi := eY hD
 obtain ⟨X0, h0, o⟩ := qE hk hD
 have := aCA (p := p) (H := H) (bN h0)
 rw [bN hX] at this
 cases this
 exact ⟨by rw [fM]; simp [o.chans], o.rules, o.args, o.many⟩
theorem aHC (S : bO p t L H) : ∃ R, qV p H R ∧ eC p H R = R ∧ ((tG F t).bind fun y3 => (nJ F t F y3).bind fun x1 => (kB F t x1 F x1 0).bind fun x4 => some (x4, (0 : Int))) = some (gH p H R, 0) ∧
  ((aBN F p).bind fun y2 => (wW F L F y2).bind fun x1 => (rP F L F x1 0).bind fun x4 => some x4) = some (gH p H R) := by
 obtain ⟨R, g, hR, a, b⟩ := aGC S
 exact ⟨R, g, hR, by rw [none_p S, bsm, a, bsm, fin_p S g.ok, bsm], by rw [none_r S, bsm, b, bsm, fin_r S g.ok, bsm]⟩
end Go.Proofs.YtmnbfgeljmhekaaGreat
set_option maxRecDepth 100000
namespace Go.Proofs.YtmnbfgeljmhekaaGreat
open Go.SX Go.SW Go.Dt
variable {p : ScopeProg} {t : Usage_text} {L : bP} {H : Nat} {tab tab' : List UsageDef} {d n : Int} {e : E} {x : ScopeNode} {D : ScopeDef}
theorem aEZ {X : UsageDef} {c : Nat} : cnt (gQ p H X d c) = cnt (iQ X c) := by
 unfold gQ
 split
 ·rename_i h; rw [h.1]; rfl
 ·rfl
theorem aA7 {X : UsageDef} {c : Nat} (hc : c < X.Chans.length) : X.Chans[c]? = some (iQ X c) := by unfold iQ; rw [List.getElem?_eq_getElem hc]; rfl
theorem fin_le (hk : cK p tab) : LeT tab (gH p H tab) ∧ LeT (gH p H tab) tab := by
 have key : ∀ (d : Int) D X Y, idx p.Defs d = some D → idx tab d = some X → idx (gH p H tab) d = some Y → Y = fM p H X d ∧ X.Chans.length = D.Chans.length := fun d D X Y hD hX hY => by
  have := eY hD
  have q := aCA (p := p) (H := H) (bN hX)
  rw [bN hY, show ((d.toNat : Nat) : Int) = d from by omega] at q
  exact ⟨Option.some.inj q, (hk.2 _ _ _ hD hX).chans⟩
 constructor
 ·refine LeT.of hk (aAz hk) fun d D X Y hD hX hY => ?_
  obtain ⟨rfl, hl⟩ := key d D X Y hD hX hY
  refine ⟨fun c hc => ?_, fun c _ => Int.le_refl _, fun c a b ha hb i _ => ?_⟩
  ·rw [gE (aA7 (by omega)), fM, gE (iA (by omega)), aEZ]; exact Int.le_refl _
  ·rw [fM] at hb; dsimp only at hb; rw [ha] at hb; cases hb; exact Int.le_refl _
 ·refine LeT.of (aAz hk) hk fun d D X Y hD hX hY => ?_
  obtain ⟨rfl, hl⟩ := key d D Y X hD hY hX
  refine ⟨fun c hc => ?_, fun c _ => Int.le_refl _, fun c a b ha hb i _ => ?_⟩
  ·rw [gE (aA7 (X := Y) (by omega)), fM, gE (iA (by omega)), aEZ]; exact Int.le_refl _
  ·rw [fM] at ha; dsimp only at ha; rw [hb] at ha; cases ha; exact Int.le_refl _
end Go.Proofs.YtmnbfgeljmhekaaGreat
set_option maxRecDepth 100000
namespace Go.Proofs.YtmnbfgeljmhekaaGreat
open Go.SX Go.SW Go.Dt
variable {p : ScopeProg} {t : Usage_text} {L : bP} {H : Nat} {tab tab' : List UsageDef} {d n : Int} {e : E} {x : ScopeNode} {D : ScopeDef}
def cn (k : Int) : Int := if k = 1 then 0 else if k = 2 ∨ k = 3 then 1 else 1000
theorem aD2 (k : Int) : tU k = some (cn k) := by
 unfold tU cn
 by_cases h1 : k = 1
 ·rw [if_pos h1, if_pos h1]
 ·rw [if_neg h1, if_neg h1]
  by_cases h2 : k = 2
  ·rw [if_pos h2, bsm, decide_eq_true h2, cond_true, if_pos (.inl h2)]
  ·rw [if_neg h2, bsm]
   by_cases h3 : k = 3
   ·rw [decide_eq_true h3, cond_true, if_pos (.inr h3)]
   ·rw [decide_eq_false h3, cond_false, if_neg (by omega)]
theorem cn_mono {a b : Int} (ha : okK true a = true) (hb : okK true b = true) (h : cnt a ≤ cnt b) : cn a ≤ cn b := by
 simp only [okK, Bool.true_or, Bool.and_true, decide_eq_true_eq] at ha hb
 unfold cnt at h
 unfold cn
 repeat' split
 all_goals first | omega | (split at h <;> split at h <;> omega) | (split at h <;> omega)
theorem okK_up {b : Bool} {k : Int} (h : okK b k = true) : okK true k = true := by
 unfold okK at *
 rw [Bool.and_eq_true] at h
 rw [h.1]; rfl
theorem ef_kind {a b : List Int} {w : Int × Int → Option Bool} (hl : a.length = b.length) (hB : a.length ≤ 2000000) (h : ∀ (i : Nat) x y, a[i]? = some x → b[i]? = some y → w (x, y) = some true) : xT F a b w = some true := by
 rw [xT, if_neg (fun q => q (by omega)), show mO a b w F 0 = some (.inl ()) from ?_, bsm]
 refine fI (fun k (s : Int) => mO a b w k s) a.length (fun i => (i : Int)) _ (fun k i hi => ?_) (fun k => ?_) (by show _ < 4000000; omega)
 ·have h1 : a[i]? = some (a[i]'hi) := List.getElem?_eq_getElem hi
  have h2 : b[i]? = some (b[i]'(by omega)) := List.getElem?_eq_getElem (by omega)
  rw [mO, if_pos (by omega), bU h1, bsm, bU h2, bsm, h i _ _ h1 h2, bsm, cond_true, aQ (by omega), bsm]; rfl
 ·rw [mO, if_neg (by omega)]
theorem ef_args {a b : List (List Int)} {w : List Int × List Int → Option Bool} (hl : a.length = b.length) (hB : a.length ≤ 2000000) (h : ∀ (i : Nat) x y, a[i]? = some x → b[i]? = some y → w (x, y) = some true) : wR F a b w = some true := by
 rw [wR, if_neg (fun q => q (by omega)), show mF a b w F 0 = some (.inl ()) from ?_, bsm]
 refine fI (fun k (s : Int) => mF a b w k s) a.length (fun i => (i : Int)) _ (fun k i hi => ?_) (fun k => ?_) (by show _ < 4000000; omega)
 ·have h1 : a[i]? = some (a[i]'hi) := List.getElem?_eq_getElem hi
  have h2 : b[i]? = some (b[i]'(by omega)) := List.getElem?_eq_getElem (by omega)
  rw [mF, if_pos (by omega), bU h1, bsm, bU h2, bsm, h i _ _ h1 h2, bsm, cond_true, aQ (by omega), bsm]; rfl
 ·rw [mF, if_neg (by omega)]
theorem ef_defs {a b : List UsageDef} {w : UsageDef × UsageDef → Option Bool} (hl : a.length = b.length) (hB : a.length ≤ 2000000) (h : ∀ (i : Nat) x y, a[i]? = some x → b[i]? = some y → w (x, y) = some true) : xK F a b w = some true := by
 rw [xK, if_neg (fun q => q (by omega)), show nI a b w F 0 = some (.inl ()) from ?_, bsm]
 refine fI (fun k (s : Int) => nI a b w k s) a.length (fun i => (i : Int)) _ (fun k i hi => ?_) (fun k => ?_) (by show _ < 4000000; omega)
 ·have h1 : a[i]? = some (a[i]'hi) := List.getElem?_eq_getElem hi
  have h2 : b[i]? = some (b[i]'(by omega)) := List.getElem?_eq_getElem (by omega)
  rw [nI, if_pos (by omega), bU h1, bsm, bU h2, bsm, h i _ _ h1 h2, bsm, cond_true, aQ (by omega), bsm]; rfl
 ·rw [nI, if_neg (by omega)]
theorem aCf {a b : List Int} (hl : a.length = b.length) (hB : a.length ≤ 2000000) (ha : ∀ k ∈ a, okK true k = true) (hb : ∀ k ∈ b, okK true k = true) (h : ∀ i : Nat, i < a.length → kc a i ≤ kc b i) : oP F a b = some true := by
 rw [oP, ef_kind hl hB fun i x y hx hy => ?_, bsm]
 have := h i (List.getElem?_eq_some_iff.1 hx).1
 rw [gE hx, gE hy] at this
 show vI x y = _
 rw [vI, aD2, bsm, aD2, bsm, decide_eq_true (cn_mono (ha _ (List.mem_of_getElem? hx)) (hb _ (List.mem_of_getElem? hy)) this)]
theorem aC7 {X : UsageDef} (h : kin X = true) : (∀ k ∈ X.Chans, okK true k = true) ∧ (∀ k ∈ X.Rules, okK true k = true) ∧ ∀ a ∈ X.Args, ∀ k ∈ a, okK true k = true := by
 unfold kin at h
 rw [Bool.and_eq_true, Bool.and_eq_true] at h
 exact ⟨List.all_eq_true.1 h.1, fun k hk => okK_up (List.all_eq_true.1 h.2.1 k hk), fun a ha k hk => okK_up (List.all_eq_true.1 (List.all_eq_true.1 h.2.2 a ha) k hk)⟩
theorem aGm (S : bO p t L H) (ha : cK p tab) (hb : cK p tab') (ka : ∀ X ∈ tab, kin X = true) (kb : ∀ X ∈ tab', kin X = true) (h : LeT tab tab') : vY F tab tab' = some true := by
 have l1 := ha.1
 have l2 := hb.1
 have dl := S.defs
 rw [vY, ef_defs (by omega) (by omega) fun i X Y hX hY => ?_, bsm]
 have hi := (List.getElem?_eq_some_iff.1 hX).1
 obtain ⟨D, hD⟩ := cQ (xs := p.Defs) (i := (i : Int)) (by omega) (by omega)
 have ho := dR (S.okD hD)
 have o1 := ha.2 _ _ _ hD (bU hX)
 have o2 := hb.2 _ _ _ hD (bU hY)
 obtain ⟨k1, k2, k3⟩ := aC7 (ka _ (List.mem_of_getElem? hX))
 obtain ⟨k4, k5, k6⟩ := aC7 (kb _ (List.mem_of_getElem? hY))
 have a1 : eZ tab (i : Int) = X.Chans := by unfold eZ; rw [bU hX]; rfl
 have a2 : eZ tab' (i : Int) = Y.Chans := by unfold eZ; rw [bU hY]; rfl
 have b1 : eA tab (i : Int) = X.Rules := by unfold eA; rw [bU hX]; rfl
 have b2 : eA tab' (i : Int) = Y.Rules := by unfold eA; rw [bU hY]; rfl
 have c1 := o1.chans
 have c2 := o2.chans
 have c3 := o1.rules
 have c4 := o2.rules
 have c5 := o1.args
 have c6 := o2.args
 show uF F X Y = some true
 rw [uF, aCf (by omega) (by omega) k1 k4 (fun j _ => by have := (h (i : Int) (j : Int)).1; rwa [a1, a2] at this), bsm, cond_true, aCf (by omega) (by omega) k2 k5 (fun j _ => by have := (h (i : Int) (j : Int)).2.1; rwa [b1, b2] at this), bsm, cond_true,
  ef_args (by omega) (by omega) fun c a b hca hcb => ?_, bsm, bsm]
 have hc := (List.getElem?_eq_some_iff.1 hca).1
 obtain ⟨ch, hch⟩ := nY (D := D) (c := c) (by omega)
 have m1 := o1.many _ _ _ hch (bU hca)
 have m2 := o2.many _ _ _ hch (bU hcb)
 have m3 := ho.2.2.2.1 ch (dQ hch)
 show oP F a b = some true
 refine aCf (by omega) (by omega) (k3 a (List.mem_of_getElem? hca)) (k6 b (List.mem_of_getElem? hcb)) fun j _ => ?_
 have := (h (i : Int) (j : Int)).2.2 (c : Int)
 unfold kO at this
 dsimp only at this
 rw [bU hX, bU hY, bsm, bsm, bU hca, bU hcb] at this
 exact this
theorem kK_ok {b : Bool} {k : Int} (h : kK k) : okK b k = true := by
 rcases h with rfl | rfl | rfl <;> cases b <;> rfl
theorem aDh {R : List UsageDef} (hk : ∀ X ∈ R, KU X) : ∀ X ∈ gH p H R, kin X = true := fun X hX => by
 obtain ⟨i, hi, rfl⟩ := List.mem_iff_getElem.1 hX
 have hi' : i < R.length := by rwa [aEr] at hi
 have h1 : R[i]? = some (R[i]'hi') := List.getElem?_eq_getElem hi'
 have h2 := aCA (p := p) (H := H) h1
 rw [List.getElem?_eq_getElem hi] at h2
 rw [Option.some.inj h2]
 have ku := hk _ (List.mem_of_getElem? h1)
 unfold kin
 rw [Bool.and_eq_true, Bool.and_eq_true]
 refine ⟨List.all_eq_true.2 fun k hk => ?_, List.all_eq_true.2 fun k hk => kK_ok (ku.rules k hk), List.all_eq_true.2 fun a ha => List.all_eq_true.2 fun k hk => kK_ok (ku.args a ha k hk)⟩
 rw [fM] at hk
 obtain ⟨c, hc, rfl⟩ := List.mem_map.1 hk
 have := ku.chans _ (List.mem_of_getElem? (aA7 (List.mem_range.1 hc)))
 unfold gQ
 split
 ·rfl
 ·exact kK_ok this
theorem aFm (hp : SmP p) {s : VS} (h : eP p = some s) (t1 : oX F p = some t) (S : bO p t L p.Nodes.length) : ∃ R, qV p p.Nodes.length R ∧ eC p p.Nodes.length R = R ∧ pZ F p = some (gH p p.Nodes.length R, 0) := by
 have hpp : (⟨p.Free, p.Nodes, p.Defs, p.Main⟩ : ScopeProg) = p := rfl
 obtain ⟨R, g, hR, a, _⟩ := aHC S
 refine ⟨R, g, hR, ?_⟩
 rw [pZ, hpp, check_eq hp, h, show (if (some s : Option VS).isSome = true then (0 : Int) else 2) = 0 from rfl, bsm (a := (0 : Int)), if_neg (show ¬ (0 : Int) ≠ 0 from fun q => q rfl), t1, bsm (a := t)]
 exact a
end Go.Proofs.YtmnbfgeljmhekaaGreat
set_option maxRecDepth 100000
namespace Go.Proofs.YtmnbfgeljmhekaaGreat
open Go.SX Go.SW Go.Dt
variable {p q : ScopeProg} {t t' : Usage_text} {L L' : bP} {H H' : Nat} {tab tab' : List UsageDef}
structure gL (p q : ScopeProg) (n : Int) (y : ScopeNode) (N : Int) : Prop where
 defs : q.Defs = p.Defs
 main : q.Main = p.Main
 free : q.Free = p.Free
 at_ : idx p.Nodes n = some y
 copy : idx q.Nodes N = some y
 par : idx q.Nodes n = some ⟨3, 0, [], [N, N + 1]⟩
 same : ∀ m, m ≠ n → ∀ x, idx p.Nodes m = some x → idx q.Nodes m = some x
theorem aCw (h : q.Defs = p.Defs) (x : ScopeNode) (e : E) : subs q x e = subs p x e := by unfold subs; rw [h]
theorem aGq (h : q.Defs = p.Defs) (f : Int × E → Int) (x : ScopeNode) (e : E) (v : Int) : iS q tab f x e v = iS p tab f x e v := by unfold iS qA chOf; rw [h]
variable {n N : Int} {y : ScopeNode}
theorem gL.kids (b : gL p q n y N) {h : Nat} {e : E} (hT : Tr q (h + 1) (n, e)) : Tr q h (N, e) ∧ Tr q h (N + 1, e) ∧ (N, e) ∈ subs q (⟨3, 0, [], [N, N + 1]⟩ : ScopeNode) e := by
 obtain ⟨x, hx, _, _, hK⟩ := hT
 dsimp only at hx hK
 rw [b.par] at hx; cases hx
 have e1 : subs q (⟨3, 0, [], [N, N + 1]⟩ : ScopeNode) e = [(N, e), (N + 1, e)] := rfl
 rw [e1] at hK ⊢
 exact ⟨hK _ (List.mem_cons_self ..), hK _ (List.mem_cons_of_mem _ (List.mem_cons_self ..)), List.mem_cons_self ..⟩
theorem gL.go (b : gL p q n y N) {h : Nat} {m : Int} {e : E} {x : ScopeNode} (hx : idx p.Nodes m = some x) (hT : Tr q (h + 1) (m, e)) : ∃ k g, (g = h ∧ k = m ∨ g + 1 = h ∧ k = N ∧ m = n) ∧ idx q.Nodes k = some x ∧ Tr q (g + 1) (k, e) ∧ ∀ c ∈ subs p x e, Tr q g c := by
 by_cases hm : m = n
 ·subst hm
  obtain ⟨k1, _, _⟩ := b.kids hT
  obtain _ | g := h
  ·exact k1.elim
  have hy := b.at_
  rw [hx] at hy; cases hy
  have k1' := k1
  obtain ⟨x', hx', _, _, hK⟩ := k1
  dsimp only at hx' hK
  rw [b.copy] at hx'; cases hx'
  rw [aCw b.defs] at hK
  exact ⟨N, g, .inr ⟨rfl, rfl, rfl⟩, b.copy, k1', hK⟩
 ·have hT' := hT
  obtain ⟨x', hx', _, _, hK⟩ := hT
  dsimp only at hx' hK
  have := b.same m hm x hx
  rw [this] at hx'; cases hx'
  rw [aCw b.defs] at hK
  exact ⟨m, h, .inl ⟨rfl, rfl⟩, this, hT', hK⟩
theorem gL.snd {n N : Int} {y : ScopeNode} (b : gL p q n y N) {v : Int} : ∀ (h h' : Nat) (c : Int × E), Tr p h c → Tr q h' c → dT p tab v h c ≤ dT q tab v h' c
 | 0, _, c, hT, _ => hT.elim
 | h + 1, 0, c, _, hT => hT.elim
 | h + 1, h' + 1, (m, e), ⟨x, hx, h0, hO, hK⟩, hT => by
  dsimp only at hx hO hK
  obtain ⟨k, g, hg, hk, hTk, hKq⟩ := b.go hx hT
  have le : ∀ c ∈ subs p x e, two (dT p tab v h c) ∧ two (dT q tab v g c) ∧ dT p tab v h c ≤ dT q tab v g c := fun c hc => ⟨jG h c (hK c hc), jG g c (hKq c hc), b.snd h g c (hK c hc) (hKq c hc)⟩
  have main : dT p tab v (h + 1) (m, e) ≤ dT q tab v (g + 1) (k, e) := by
   rw [dT, dT]
   dsimp only
   rw [hx, hk]
   dsimp only
   rw [aGq b.defs]
   exact (vX LeT.rfl hO le).1
  rcases hg with ⟨e1, e2⟩ | ⟨e1, e2, e3⟩
  ·rw [e1, e2] at main; exact main
  ·refine Int.le_trans main ?_
   rw [e3] at hT ⊢
   obtain ⟨k1, k2, _⟩ := b.kids hT
   rw [← e1] at k1 k2 ⊢
   rw [e2]
   have w1 := jG (tab := tab) (v := v) _ _ k1
   have w2 := jG (tab := tab) (v := v) _ _ k2
   have : dT q tab v (g + 1 + 1) (n, e) = min (dT q tab v (g + 1) (N, e) + dT q tab v (g + 1) (N + 1, e)) 2 := by
    rw [dT]
    dsimp only
    rw [b.par]
    rfl
   rw [this]
   unfold two at w1 w2
   omega
theorem gL.tree {n N : Int} {y : ScopeNode} (b : gL p q n y N) : ∀ (h h' : Nat) (c : Int × E), Tr p h c → Tr q h' c → ∀ a ∈ LN p h c, ∃ g, g ≤ h' ∧ Tr q g a ∧ ∀ x, idx p.Nodes a.1 = some x → ∃ k, idx q.Nodes k = some x ∧ (k, a.2) ∈ LN q h' c
 | 0, _, c, hT, _, _, _ => hT.elim
 | h + 1, 0, c, _, hT, _, _ => hT.elim
 | h + 1, h' + 1, (m, e), ⟨x, hx, h0, hO, hK⟩, hT, a, ha => by
  dsimp only at hx hO hK
  simp only [LN, hx] at ha
  obtain ⟨k, g, hg, hk, hTk, hKq⟩ := b.go hx hT
  have inN : ∀ c ∈ LN q (g + 1) (k, e), c ∈ LN q (h' + 1) (m, e) := fun c hc => by
   rcases hg with ⟨e1, e2⟩ | ⟨e1, e2, e3⟩
   ·rw [e1, e2] at hc; exact hc
   ·rw [e3] at hT ⊢
    rw [LN]
    dsimp only
    rw [b.par]
    rw [e1, e2] at hc
    exact List.mem_cons_of_mem _ (List.mem_flatMap.2 ⟨(N, e), (b.kids hT).2.2, hc⟩)
  cases ha with
  | head =>
   refine ⟨h' + 1, Nat.le_refl _, hT, fun x' hx' => ⟨k, ?_, inN _ (by rw [LN]; exact List.mem_cons_self ..)⟩⟩
   rw [hx] at hx'; cases hx'; exact hk
  | tail _ ha =>
   obtain ⟨c, hc, ha⟩ := List.mem_flatMap.1 ha
   obtain ⟨g', l1, l2, l3⟩ := b.tree h g c (hK c hc) (hKq c hc) a ha
   refine ⟨g', by rcases hg with ⟨rfl, _⟩ | ⟨rfl, _⟩ <;> omega, l2, fun x' hx' => ?_⟩
   obtain ⟨k', a1, a2⟩ := l3 x' hx'
   refine ⟨k', a1, inN _ ?_⟩
   rw [LN]
   dsimp only
   rw [hk]
   dsimp only
   rw [aCw b.defs]
   exact List.mem_cons_of_mem _ (List.mem_flatMap.2 ⟨c, hc, a2⟩)
theorem ln_hn : ∀ (h : Nat) (c : Int × E), ∀ a ∈ LN p h c, ∀ x, idx p.Nodes a.1 = some x → x.Op = 4 → (x.N, a.1) ∈ HN p h c
 | 0, c, a, ha, _, _, _ => by cases ha
 | h + 1, c, a, ha, x, hx, h4 => by
  rw [LN] at ha
  cases ha with
  | head => rw [HN, hx]; dsimp only; rw [if_pos h4]; exact List.mem_append_left _ (List.mem_cons_self ..)
  | tail _ ha =>
   cases hc : idx p.Nodes c.1 with
   | none => rw [hc] at ha; cases ha
   | some z =>
    rw [hc] at ha
    dsimp only at ha
    obtain ⟨k, hk, ha⟩ := List.mem_flatMap.1 ha
    rw [HN, hc]
    exact List.mem_append_right _ (List.mem_flatMap.2 ⟨k, hk, ln_hn h k a ha x hx h4⟩)
theorem aB5 (b : gL p q n y N) : cF q = cF p := by unfold cF; rw [b.main, b.free]
theorem gL.head (b : gL p q n y N) (S : bO p t L H) (S' : bO q t' L' H') {d m : Int} {e : E} {x : ScopeNode} {D : ScopeDef} (h : dY p H d m e x D) : ∃ k, dY q H' d k e x D := by
 have tq := S'.tr
 rw [aB5 b] at tq
 obtain ⟨_, _, _, g⟩ := b.tree H H' (cF p) S.tr tq _ h.ln
 obtain ⟨k, k1, k2⟩ := g x h.hx
 rw [← aB5 b] at k2
 have := ln_hn H' (cF q) _ k2 x k1 h.op
 rw [h.hN] at this
 exact ⟨k, k2, this, k1, h.op, h.hN, by rw [b.defs]; exact h.hD, h.ok, h.kid⟩
theorem gL.both (b : gL p q n y N) (S : bO p t L H) (S' : bO q t' L' H') {c : Int × E} (hc : c ∈ LN p H (cF p)) (v : Int) : two (Go.Proofs.YtmnbfgeljmhekaaGreat.snd p tab c v) ∧ two (Go.Proofs.YtmnbfgeljmhekaaGreat.snd q tab c v) ∧ Go.Proofs.YtmnbfgeljmhekaaGreat.snd p tab c v ≤ Go.Proofs.YtmnbfgeljmhekaaGreat.snd q tab c v := by
 have tq := S'.tr
 rw [aB5 b] at tq
 obtain ⟨g, g1, g2, _⟩ := b.tree H H' (cF p) S.tr tq c hc
 have tp := S.tr60 hc
 have tq := Tr.up g 60 c (by have := S'.low; omega) g2
 exact ⟨jG 60 c tp, jG 60 c tq, b.snd 60 60 c tp tq⟩
theorem aBJ (h : q.Defs = p.Defs) (k : cK q tab) : cK p tab := by unfold cK at *; rwa [h] at k
theorem gL.all (b : gL p q n y N) (S : bO p t L H) (S' : bO q t' L' H') : LeT (eC p H tab) (eC q H' tab) := by
 refine LeT.of (qL S) (aBJ b.defs (qL S')) fun d D X Y hD hX hY => ?_
 obtain ⟨m, e, x, hh, ha⟩ := uP S hD
 obtain ⟨k, hk⟩ := b.head S S' hh
 obtain ⟨k', e', x', hk', ha'⟩ := uP S' (d := d) (D := D) (by rw [b.defs]; exact hD)
 obtain ⟨_, rfl, rfl, _⟩ := hk'.uniq S' hk
 rw [ha] at hX
 rw [ha'] at hY
 cases hX; cases hY
 obtain ⟨_, hs⟩ := S.subs hh.ln hh.hx
 refine ⟨fun c hc => ?_, fun c hc => Int.le_refl _, fun c a' b' h1 h2 i hi => ?_⟩
 ·obtain ⟨u, w⟩ := aCB (LeT.rfl (t := tab)) (f := fun k => Go.Proofs.YtmnbfgeljmhekaaGreat.snd p tab k ((e'.length : Int) + (c : Int))) (g := fun k => Go.Proofs.YtmnbfgeljmhekaaGreat.snd q tab k ((e'.length : Int) + (c : Int))) hh.op (by rw [hh.hN]; exact hh.hD) hh.kid fun k hk => b.both S S' (hs k hk) _
  have w' := (aCO S' (LeT.rfl (t := tab)) hk ((e'.length : Int) + (c : Int))).2
  rw [eK, eK, gE (iA hc), gE (iA hc), nS w, nS w']; exact u
 ·have hc : c < D.Chans.length := by have := (List.getElem?_eq_some_iff.1 h1).1; simpa [eK] using this
  rw [eK] at h1 h2
  dsimp only at h1 h2
  rw [iA hc] at h1 h2
  cases h1; cases h2
  rw [List.length_map, List.length_range] at hi
  obtain ⟨u, w⟩ := wH (D := D) (fun i => Int.le_refl (kc (eA tab d) i)) (b := (e'.length : Int) + (D.Chans.length : Int) + (D.Spots.length : Int)) (c := (c : Int)) (i := (i : Int)) (f := fun r v => Go.Proofs.YtmnbfgeljmhekaaGreat.snd p tab (r.Node, ruE e' d D r) v) (g := fun r v => Go.Proofs.YtmnbfgeljmhekaaGreat.snd q tab (r.Node, ruE e' d D r) v) D.Rules 0 0 0 (fun r hr v => b.both S S' (yH S hh hr) v) (by unfold two; omega) (by unfold two; omega) (Int.le_refl _)
  obtain ⟨_, w'⟩ := wH (D := D) (fun i => Int.le_refl (kc (eA tab d) i)) (b := (e'.length : Int) + (D.Chans.length : Int) + (D.Spots.length : Int)) (c := (c : Int)) (i := (i : Int)) (f := fun r v => Go.Proofs.YtmnbfgeljmhekaaGreat.snd q tab (r.Node, ruE e' d D r) v) (g := fun r v => Go.Proofs.YtmnbfgeljmhekaaGreat.snd q tab (r.Node, ruE e' d D r) v) D.Rules 0 0 0 (fun r hr v => aAx S' LeT.rfl (yH S' hk hr) v) (by unfold two; omega) (by unfold two; omega) (Int.le_refl _)
  rw [gE (iA hi), gE (iA hi), nS w, nS w']; exact u
theorem gL.tables (b : gL p q n y N) (S : bO p t L H) (S' : bO q t' L' H') {R R' : List UsageDef} (g : qV p H R) (g' : qV q H' R') (e' : eC q H' R' = R') : LeT (gH p H R) (gH q H' R') := by
 have ok' := aBJ b.defs g'.ok
 have low : LeT R R' := g.low R' ok' (by have := b.all (tab := R') S S'; rwa [e'] at this)
 obtain ⟨_, l2⟩ := fin_le (H := H) g.ok
 obtain ⟨l3, _⟩ := fin_le (H := H') g'.ok
 exact (l2.trans low).trans l3
end Go.Proofs.YtmnbfgeljmhekaaGreat
set_option maxRecDepth 100000
namespace Go.Proofs.YtmnbfgeljmhekaaGreat
open Go.SX Go.SW Go.Dt
theorem clone_eq {p : ScopeProg} (hp : SmP p) : wS F p = some p := by
 have hn := hp.nodes
 have hd := hp.defs
 rw [wS, yS, List.nil_append, eI (by omega), bsm, bsm, show nK p.Nodes F 0 p.Nodes = some p.Nodes from ?_, bsm, aAc, List.nil_append, eI (by omega), bsm, bsm, show mW p.Defs F 0 p.Defs = some p.Defs from ?_, bsm]
 ·refine fI (fun k (s : Int × List ScopeDef) => mW p.Defs k s.1 s.2) p.Defs.length (fun i => ((i : Int), p.Defs)) _ (fun k i hi => ?_) (fun k => ?_) (by show _ < 4000000; omega)
  ·dsimp only
   obtain ⟨x, hx⟩ := cQ (xs := p.Defs) (i := (i : Int)) (by omega) (by omega)
   obtain ⟨m1, m2, m3, m4⟩ := hp.dfs x (dQ hx)
   have e1 : p.Defs.set (i : Int).toNat { x with Spots := x.Spots } = p.Defs := oF hx
   rw [mW, if_pos (by omega), hx, bsm, aAw, List.nil_append, eI (by omega), bsm, bsm, bsm, e1, hx, bsm, aAC, List.nil_append, eI (by omega), bsm, bsm, bsm, aQ (by omega), bsm]
   have e2 : p.Defs.set (i : Int).toNat { x with Rules := x.Rules } = p.Defs := oF hx
   rw [e2]; rfl
  ·dsimp only
   rw [mW, if_neg (by omega)]
 ·refine fI (fun k (s : Int × List ScopeNode) => nK p.Nodes k s.1 s.2) p.Nodes.length (fun i => ((i : Int), p.Nodes)) _ (fun k i hi => ?_) (fun k => ?_) (by show _ < 4000000; omega)
  ·dsimp only
   obtain ⟨x, hx⟩ := cQ (xs := p.Nodes) (i := (i : Int)) (by omega) (by omega)
   obtain ⟨m1, m2, m3⟩ := hp.args x (dQ hx)
   rw [nK, if_pos (by omega), hx, bsm, aAg, List.nil_append, eI (by omega), bsm, bsm, bsm, aQ (by omega), bsm]
   have e2 : p.Nodes.set (i : Int).toNat { x with Kids := x.Kids } = p.Nodes := oF hx
   rw [e2]; rfl
  ·dsimp only
   rw [nK, if_neg (by omega)]
theorem u8_bd {a : Int} (h : (Lit.int .u8 a).wf = true) : 0 ≤ a ∧ a ≤ 255 := by simpa [Lit.wf, IntKind.min, IntKind.max, IntKind.signed, IntKind.bits] using h
theorem aCM {a b : Int} (ha : 0 ≤ a ∧ a ≤ 255) (hb : 0 < b) : ∃ z, remI .i64 (IntKind.wrap .i64 a) b = some z ∧ 0 ≤ z ∧ z < b := by
 unfold remI
 rw [if_neg (by omega), aEG (by omega) (by omega)]
 exact ⟨_, rfl, Int.tmod_nonneg b ha.1, Int.tmod_lt_of_pos a hb⟩
theorem aGw {y : Int} (hy : 0 < y) {l : List Int} (hl : l.length ≤ 3) (suf : List Int) : ∀ (pre : List Int) (k : Nat) (acc : List ScopeExp), l = pre ++ suf → suf.length < k → acc.length ≤ pre.length → (∀ a ∈ suf, 0 ≤ a ∧ a ≤ 255) → (∀ e ∈ acc, nE e = 1) → ∃ r, nT y l k pre.length acc = some r ∧ r.length ≤ 3 ∧ ∀ e ∈ r, nE e = 1 := by
 induction suf with
 | nil =>
  intro pre k acc hx hk ha _ hn
  obtain _ | k := k
  ·omega
  have hl' := congrArg List.length hx
  rw [List.append_nil] at hl'
  exact ⟨acc, by rw [nT, if_neg (by omega)], by omega, hn⟩
 | cons a suf ih =>
  intro pre k acc hx hk ha hb hn
  obtain _ | k := k
  ·omega
  have hl' := congrArg List.length hx
  rw [List.length_append, List.length_cons] at hl'
  simp only [List.length_cons] at hk
  obtain ⟨z, hz, _⟩ := aCM (hb a (List.mem_cons_self ..)) hy
  rw [nT, if_pos (by omega), show idx l (pre.length : Int) = some a from by rw [hx]; exact cE _ _ _, bsm, hz, bsm, eI (by simp; omega), bsm, aQ (by omega), bsm, bS pre a]
  refine ih (pre ++ [a]) k _ (by rw [hx]; exact cH _ _ _) (by omega) (by simp; omega) (fun b hb' => hb b (List.mem_cons_of_mem _ hb')) fun e he => ?_
  rcases List.mem_append.1 he with he | he
  ·exact hn e he
  ·rw [List.mem_singleton.1 he]; rfl
theorem aHJ {p : ScopeProg} {a1 a2 : Int} {l : List Int} (hp : SmP p) (w1 : (Lit.int .u8 a1).wf = true) (w2 : (Lit.int .u8 a2).wf = true) (_ : l.length ≤ 2000000) (hw : ∀ a ∈ l, (Lit.int .u8 a).wf = true) : aAs F p a1 a2 l = some true := by
 have hpp : (⟨p.Free, p.Nodes, p.Defs, p.Main⟩ : ScopeProg) = p := rfl
 rw [aAs, hpp, aEU hp]
 cases h : eP p with
 | none => rw [show (if (none : Option VS).isSome = true then (0 : Int) else 2) = 2 from rfl, bsm (a := (2 : Int)), if_pos (by decide), xG, bsm]
 | some s =>
  obtain ⟨t, L, t1, _, S⟩ := sees hp h
  obtain ⟨H, h1, h2, _, _, hT, hl, _, _, hz, hall, _⟩ := aAh h
  rw [show (if (some s : Option VS).isSome = true then (0 : Int) else 2) = 0 from rfl, bsm (a := (0 : Int)), if_neg (show ¬ (0 : Int) ≠ 0 from fun q => q rfl), aQ (by omega), bsm]
  by_cases h60 : 60 < (p.Nodes.length : Int) + 2
  ·rw [if_pos h60, xG, bsm]
  rw [if_neg h60]
  have pos : 0 < p.Nodes.length := by
   obtain _ | H := H
   ·exact hT.elim
   ·omega
  obtain ⟨z2, e2, z20, z2l⟩ := aCM (u8_bd w1) (b := (p.Nodes.length : Int)) (by omega)
  obtain ⟨e, he⟩ := hall z2 z20 z2l
  rw [e2, bsm, show pW F p = _ from aFE hp h, bsm, hz _ he, bsm]
  dsimp only
  by_cases e0 : (e.length : Int) = 0
  ·rw [if_pos e0, xG, bsm]
  rw [if_neg e0, clone_eq hp, bsm]
  obtain ⟨z3, e3, _⟩ := aCM (u8_bd w2) (b := (e.length : Int)) (by omega)
  obtain ⟨y, hy⟩ := cQ (xs := p.Nodes) z20 z2l
  have hsl : slc l 0 (min (l.length : Int) 3) = some (l.take (min (l.length : Int) 3).toNat) := by unfold slc; rw [if_pos (by omega)]; rfl
  have hlen : (l.take (min (l.length : Int) 3).toNat).length ≤ 3 := by rw [List.length_take]; omega
  obtain ⟨x1, ex, x1l, x1n⟩ := aGw (y := (e.length : Int)) (by omega) hlen _ [] F [] rfl (by show _ < 4000000; omega) (Nat.le_refl _) (fun a ha => u8_bd (hw a (List.mem_of_mem_take ha))) (fun e he => by cases he)
  rw [e3, bsm, hsl, bsm, show nT (e.length : Int) _ F 0 [] = _ from ex, bsm, hy, bsm, eI (by simp; omega), bsm, aQ (by omega), bsm]
  have hi7 : idx (p.Nodes ++ [y, (⟨2, z3, x1, []⟩ : ScopeNode)]) z2 = some y := by rw [sG, if_pos z2l]; exact hy
  rw [hi7, bsm]
  generalize hq : (⟨p.Free, (p.Nodes ++ [y, (⟨2, z3, x1, []⟩ : ScopeNode)]).set z2.toNat (⟨3, 0, [], [(p.Nodes.length : Int), (p.Nodes.length : Int) + 1]⟩ : ScopeNode), p.Defs, p.Main⟩ : ScopeProg) = q
  have hN : q.Nodes = (p.Nodes ++ [y, (⟨2, z3, x1, []⟩ : ScopeNode)]).set z2.toNat (⟨3, 0, [], [(p.Nodes.length : Int), (p.Nodes.length : Int) + 1]⟩ : ScopeNode) := by rw [← hq]
  have hm := hp.args y (dQ hy)
  have sq : SmP q := by
   refine ⟨by rw [hN]; have := hp.nodes; simp; omega, by rw [← hq]; exact hp.defs, by rw [← hq]; exact hp.free, by rw [← hq]; exact hp.names, fun x hx => ?_, by rw [← hq]; exact hp.dfs⟩
   rw [hN] at hx
   rcases List.mem_or_eq_of_mem_set hx with hx | rfl
   ·rcases List.mem_append.1 hx with hx | hx
    ·exact hp.args x hx
    ·cases hx with
     | head => exact hm
     | tail _ hx =>
      rw [List.mem_singleton.1 hx]
      exact ⟨by show x1.length ≤ _; omega, by simp, fun e he => by rw [x1n e he]; omega⟩
   ·exact ⟨by simp, by simp, fun e he => by cases he⟩
  rw [aEU sq]
  cases h' : eP q with
  | none => rw [show (if (none : Option VS).isSome = true then (0 : Int) else 2) = 2 from rfl, bsm (a := (2 : Int)), if_pos (by decide), xG, bsm]
  | some s' =>
   obtain ⟨t', L', t1', _, S'⟩ := sees sq h'
   have in7 : idx q.Nodes z2 = some ⟨3, 0, [], [(p.Nodes.length : Int), (p.Nodes.length : Int) + 1]⟩ := by rw [hN]; exact aCQ hi7
   have out : ∀ (m : Int) x, m ≠ z2 → idx (p.Nodes ++ [y, (⟨2, z3, x1, []⟩ : ScopeNode)]) m = some x → idx q.Nodes m = some x := fun m x hm hx => by
    have := eY hx
    rw [hN]
    unfold idx at hx ⊢
    rw [if_pos this.1] at hx ⊢
    rw [List.getElem?_set_ne (by omega)]; exact hx
   have b : gL p q z2 y (p.Nodes.length : Int) := by
    refine ⟨by rw [← hq], by rw [← hq], by rw [← hq], hy, out _ _ (by omega) ?_, in7, fun m hm x hx => out m x hm ?_⟩
    ·rw [sG, if_neg (by omega)]
     show idx _ ((p.Nodes.length : Int) - (p.Nodes.length : Int)) = some y
     rw [Int.sub_self]; rfl
    ·rw [sG, if_pos (eY hx).2]; exact hx
   obtain ⟨R, g, hR, r1⟩ := aFm hp h t1 S
   obtain ⟨R', g', hR', r2⟩ := aFm sq h' t1' S'
   rw [show (if (some s' : Option VS).isSome = true then (0 : Int) else 2) = 0 from rfl, bsm (a := (0 : Int)), if_neg (show ¬ (0 : Int) ≠ 0 from fun q => q rfl), r1, bsm, r2, bsm, if_pos rfl, if_pos rfl,
    aGm S (aAz g.ok) (aBJ b.defs (aAz g'.ok)) (aDh g.ku) (aDh g'.ku) (b.tables S S' g g' hR'), bsm, cond_true, xG, bsm, bsm]
end Go.Proofs.YtmnbfgeljmhekaaGreat
namespace Go.SW
open Go.SX
theorem aIl {w w' : World} (h : w.keptBut w' (fun _ => False)) {p : MemPlace} (hp : p.block < w.heap.size) : w.sameAt w' p := by
 obtain ⟨_, _, h⟩ := h
 cases p with
 | cell b off =>
  have := h b hp
  show w'.cell? _ = w.cell? _
  unfold World.cell?
  dsimp only at *
  cases h1 : w.heap[b]? with
  | none => rw [h1] at this; dsimp only at this; rw [this]
  | some o =>
   rw [h1] at this
   cases o with
   | cells c t fr =>
    cases h2 : w'.heap[b]? with
    | none => rw [h2] at this; cases this
    | some o' =>
     rw [h2] at this
     cases o' with
     | cells c' t' fr' =>
      dsimp only at this ⊢
      rw [this.2.2.2 off (fun f => f)]
     | _ => cases this
   | map es clock =>
    cases h2 : w'.heap[b]? with
    | none => rfl
    | some o' =>
     rw [h2] at this
     cases o' with
     | cells => cases this
     | _ => rfl
   | _ => dsimp only at this; rw [this]
 | map b =>
  have := h b hp
  show w'.heap[b]? = w.heap[b]?
  cases h1 : w.heap[b]? with
  | none => rw [h1] at this; exact this
  | some o =>
   rw [h1] at this
   cases o with
   | cells c t fr =>
    cases h2 : w'.heap[b]? with
    | none => rw [h2] at this; cases this
    | some o' =>
     rw [h2] at this
     cases o' with
     | cells c' t' fr' =>
      dsimp only at this
      obtain ⟨rfl, rfl, hs, hc⟩ := this
      have : c' = c := Array.ext_getElem? fun j => hc j (fun f => f)
      rw [this]
     | _ => cases this
   | map es clock =>
    cases h2 : w'.heap[b]? with
    | none => rw [h2] at this; cases this
    | some o' =>
     rw [h2] at this
     cases o' with
     | map es' clock' =>
      rcases this with f | ⟨rfl, rfl⟩
      ·exact f.elim
      ·rfl
     | _ => cases this
   | _ => exact this
theorem aDs {H : Type} {enc : TypeId × Value → H} {P : Program} {W W' : World} (hl : laidOutB P = true) (hm : mapsRowed P = true) (hz : ∀ t e, t < P.types.size → P.underlying t = some (.slice e) → 0 < P.cellsOf e) (hk : W.keptBut W' (fun _ => False)) :
  ∀ {ts : List TypeId} {vs : List Value} {ds : List (DataW H)} {ps : List MemPlace}, (∀ t ∈ ts, t < P.types.size) → DataW.TrodAll enc P W 0 (fun _ => true) true ts vs ds ps → DataW.TrodAll enc P W' 0 (fun b => decide (b < W.heap.size)) true ts vs ds ps
 | [], [], [], _, _, h => h
 | t :: _, _ :: _, _ :: _, ps, ht, h => by
  have hlt := h.lt
  obtain ⟨p, q, ⟨n, hn⟩, h2, e⟩ := h
  refine ⟨p, q, ⟨n, ?_⟩, aDs hl hm hz hk (fun t h => ht t (.tail _ h)) h2, e⟩
  have hp : ∀ x ∈ p, x.block < W.heap.size := fun x hx => hlt x (by rw [e]; exact List.mem_append_left _ hx)
  exact DataW.trod_stays (kids_rows hl hm) (fun a b => hz _ _ a b) (fun f => by cases f) (ht t (.head _)) hn (fun x hx => aIl hk (hp x hx)) (fun x hx => decide_eq_true (hp x hx))
 | [], _ :: _, _, _, _, h => h.elim
 | [], [], _ :: _, _, _, h => h.elim
 | _ :: _, [], _, _, _, h => h.elim
 | _ :: _, _ :: _, [], _, _, h => h.elim
end Go.SW
