/- Parts of the proof: lemmas, and the steps through the program. -/
import Derived.Test.YtmnbfgeljmhekaaGreatKw3
set_option linter.unusedVariables false
set_option linter.unusedSimpArgs false
set_option maxRecDepth 100000
namespace Go.Proofs.YtmnbfgeljmhekaaGreat
open Go.SX Go.SW Go.Dt
def gI (n : Nat) (c : ScopeChan) : Bool := decide (0 ≤ c.At ∧ c.At ≤ (n : Int) ∧ 0 ≤ c.Many ∧ c.Many ≤ 3)
def lU : Nat → List ScopeSpot → Bool
 | _, [] => true
 | i, s :: l => decide (0 ≤ s.In ∧ s.In ≤ (i : Int)) && lU (i + 1) l
def oD (chans : List ScopeChan) (at_ : Int) : List Int → List Int → List Bool → Option (List Bool)
 | _, [], u => some u
 | pre, c :: js, u => match idx chans c with
  | some ch => if ch.At = at_ ∧ c ∉ pre then oD chans at_ (pre ++ [c]) js (u.set c.toNat true) else none
  | none => none
def okR (n : Nat) (r : ScopeRule) : Prop := 0 ≤ r.At ∧ r.At ≤ (n : Int) ∧ 1 ≤ r.Joins.length ∧ r.Joins.length ≤ 3
instance {n : Nat} {r : ScopeRule} : Decidable (okR n r) := by unfold okR; infer_instance
def jK (chans : List ScopeChan) (n : Nat) : List ScopeRule → List Bool → Option (List Bool)
 | [], u => some u
 | r :: rs, u => if okR n r then (oD chans r.At [] r.Joins u).bind (jK chans n rs) else none
def okU (o : Option (List Bool)) : Bool := match o with
 | some u => u.all id
 | none => false
def okD (d : ScopeDef) : Bool := decide (d.Chans.length ≤ 30 ∧ d.Spots.length ≤ 30 ∧ d.Rules.length ≤ 30) && d.Chans.all (gI d.Spots.length) && lU 0 d.Spots && okU (jK d.Chans d.Spots.length d.Rules (List.replicate d.Chans.length false))
def smD (d : ScopeDef) : Prop := d.Chans.length ≤ 2000000 ∧ d.Spots.length ≤ 2000000 ∧ d.Rules.length ≤ 2000000 ∧ ∀ r ∈ d.Rules, r.Joins.length ≤ 2000000
theorem cH {α : Type} {xs : List α} {i : Int} (h0 : 0 ≤ i) (h1 : i < xs.length) : ∃ y, idx xs i = some y := by
 unfold idx; rw [if_pos h0]; exact ⟨xs[i.toNat]'(by omega), by simp⟩
theorem kJ {α : Type} {xs : List α} {i : Int} (h : ¬ (0 ≤ i ∧ i < xs.length)) : idx xs i = none := by
 unfold idx; split
 ·simp; omega
 ·rfl
theorem aHi {c : Int} (suf : List Int) : ∀ (pre : List Int) (k : Nat), suf.length < k → pre.length + suf.length ≤ 3000000 → c ∉ pre →
  ∃ r, oB (pre ++ suf) c k pre.length = some r ∧ ((c ∈ suf ∧ ∃ i : Int, r = .inr i ∧ 0 ≤ i) ∨ (c ∉ suf ∧ r = .inl ())) := by
 induction suf with
 | nil =>
  intro pre k hk _ _
  obtain _ | k := k
  ·omega
  exact ⟨_, by rw [oB, if_neg (by simp)], .inr ⟨by simp, rfl⟩⟩
 | cons e suf ih =>
  intro pre k hk hB hn
  obtain _ | k := k
  ·omega
  simp only [List.length_cons] at hk hB
  by_cases he : c = e
  ·exact ⟨_, by rw [oB, if_pos (cB _ _ _), cA, bsm, if_pos he]; rfl, .inl ⟨by simp [he], _, rfl, by omega⟩⟩
  ·obtain ⟨r, h1, h2⟩ := ih (pre ++ [e]) k (by omega) (by simp; omega) (by simp [hn, he])
   refine ⟨r, ?_, ?_⟩
   ·rw [oB, if_pos (cB _ _ _), cA, bsm, if_neg he, aP (by omega), bsm, cE pre suf e, bS pre e]; exact h1
   ·rcases h2 with ⟨h2, h3⟩ | ⟨h2, h3⟩
    ·exact .inl ⟨by simp [h2], h3⟩
    ·exact .inr ⟨by simp [h2, he], h3⟩
theorem aJg {fuel : Nat} {l : List Int} {c : Int} (hf : l.length < fuel) (hB : l.length ≤ 3000000) : wP fuel l c = some (decide (c ∈ l)) := by
 obtain ⟨r, h1, h2⟩ := aHi (c := c) l [] fuel hf (by simpa using hB) (by simp)
 simp only [List.nil_append, List.length_nil, Int.natCast_zero] at h1
 rw [wP, zQ, h1]
 rcases h2 with ⟨h2, i, rfl, h3⟩ | ⟨h2, rfl⟩
 ·simp [h2, h3]
 ·simp [h2]
theorem aEj {a : Int} {d : ScopeDef} : vF a d = some (if 0 ≤ a ∧ a ≤ (d.Spots.length : Int) then .inl () else .inr flaw) := by
 rw [vF]
 by_cases h : 0 ≤ a
 ·rw [if_pos h]
  by_cases h2 : a ≤ (d.Spots.length : Int)
  ·rw [decide_eq_true h2, eV, if_pos ⟨h, h2⟩]; rfl
  ·rw [decide_eq_false h2, cV, if_neg (fun g => h2 g.2)]; rfl
 ·rw [if_neg h, cV, if_neg (fun g => h g.1)]; rfl
theorem dl1 {sp : List ScopeSpot} {ru : List ScopeRule} (suf : List ScopeChan) : ∀ (pre : List ScopeChan) (k : Nat), suf.length < k → pre.length + suf.length ≤ 3000000 →
  pE ⟨pre ++ suf, sp, ru⟩ k pre.length = some (if suf.all (gI sp.length) = true then .inl () else .inr (.inr flaw)) := by
 induction suf with
 | nil =>
  intro pre k hk _
  obtain _ | k := k
  ·omega
  rw [pE, if_neg (by simp), if_pos (by rfl)]
 | cons e suf ih =>
  intro pre k hk hB
  obtain _ | k := k
  ·omega
  simp only [List.length_cons] at hk hB
  rw [pE, if_pos (cB _ _ _)]
  dsimp only
  rw [cA, bsm, aEj, bsm]
  simp only [List.all_cons, Bool.and_eq_true]
  by_cases h1 : 0 ≤ e.At ∧ e.At ≤ (sp.length : Int)
  ·rw [if_pos h1]
   dsimp only
   by_cases h2 : 0 ≤ e.Many
   ·rw [if_pos h2]
    by_cases h3 : e.Many ≤ 3
    ·rw [decide_eq_true h3, eV, bsm, bsm]
     dsimp only
     rw [aP (by omega), bsm, cE pre suf e, bS pre e, ih (pre ++ [e]) k (by omega) (by simp; omega)]
     have : gI sp.length e = true := decide_eq_true ⟨h1.1, h1.2, h2, h3⟩
     simp [this]
    ·have hn : ¬ (gI sp.length e = true ∧ suf.all (gI sp.length) = true) := by
      rintro ⟨g, _⟩; exact h3 (of_decide_eq_true g).2.2.2
     rw [decide_eq_false h3, cV, if_neg hn]; rfl
   ·have hn : ¬ (gI sp.length e = true ∧ suf.all (gI sp.length) = true) := by
     rintro ⟨g, _⟩; exact h2 (of_decide_eq_true g).2.2.1
    rw [if_neg h2, cV, if_neg hn]; rfl
  ·have hn : ¬ (gI sp.length e = true ∧ suf.all (gI sp.length) = true) := by
    rintro ⟨g, _⟩; exact h1 ⟨(of_decide_eq_true g).1, (of_decide_eq_true g).2.1⟩
   rw [if_neg h1, if_neg hn]; rfl
theorem dl2 {ch : List ScopeChan} {ru : List ScopeRule} (suf : List ScopeSpot) : ∀ (pre : List ScopeSpot) (k : Nat), suf.length < k → pre.length + suf.length ≤ 3000000 →
  pH ⟨ch, pre ++ suf, ru⟩ k pre.length = some (if lU pre.length suf = true then .inl () else .inr (.inr flaw)) := by
 induction suf with
 | nil =>
  intro pre k hk _
  obtain _ | k := k
  ·omega
  rw [pH, if_neg (by simp), if_pos (by rfl)]
 | cons e suf ih =>
  intro pre k hk hB
  obtain _ | k := k
  ·omega
  simp only [List.length_cons] at hk hB
  rw [pH, if_pos (cB _ _ _)]
  dsimp only
  rw [cA, bsm]
  simp only [lU, Bool.and_eq_true, decide_eq_true_eq]
  by_cases h2 : 0 ≤ e.In
  ·rw [if_pos h2]
   by_cases h3 : e.In ≤ (pre.length : Int)
   ·rw [decide_eq_true h3, eV, bsm, bsm]
    dsimp only
    rw [aP (by omega), bsm, cE pre suf e, bS pre e, ih (pre ++ [e]) k (by omega) (by simp; omega)]
    simp [h2, h3]
   ·rw [decide_eq_false h3, cV, if_neg (fun g => h3 g.1.2)]; rfl
  ·rw [if_neg h2, cV, if_neg (fun g => h2 g.1.1)]; rfl
def Like (g : aQ Int Bool) (u : List Bool) : Prop := (∀ i : Nat, g.get i = if u[i]? = some true then some true else none) ∧ g.size = u.countP id
theorem like_upd {g : aQ Int Bool} {u : List Bool} {c : Int} (h : Like g u) (h0 : 0 ≤ c) (h1 : c < u.length) : Like (aQ.upd g c true) (u.set c.toNat true) := by
 obtain ⟨n, rfl⟩ : ∃ n : Nat, c = n := ⟨c.toNat, by omega⟩
 have hn : n < u.length := by omega
 simp only [Int.toNat_natCast]
 refine ⟨fun i => ?_, ?_⟩
 ·simp only [aQ.upd]
  by_cases hi : (i : Int) = n
  ·have : i = n := by omega
   subst this
   rw [if_pos rfl]; simp [hn]
  ·rw [if_neg hi, h.1 i]
   have : n ≠ i := by omega
   simp [this]
 ·simp only [aQ.upd]
  rw [h.1 n, List.countP_set (h := hn), h.2]
  have hge : u[n]? = some u[n] := by simp [hn]
  rw [hge]
  cases hu : u[n] with
  | false => simp
  | true =>
   have hpos : 0 < u.countP id := List.countP_pos_iff.2 ⟨u[n], List.getElem_mem hn, by simpa using hu⟩
   simp; omega
theorem dl4 {ch : List ScopeChan} {sp : List ScopeSpot} {ru : List ScopeRule} {a nd : Int} (suf : List Int) {fuel : Nat} : ∀ (pre : List Int) (k : Nat) (g : aQ Int Bool) (u : List Bool), suf.length < k → pre.length + suf.length < fuel → pre.length + suf.length ≤ 3000000 → u.length = ch.length → Like g u →
  (∃ u' g', oD ch a pre suf u = some u' ∧ u'.length = ch.length ∧ Like g' u' ∧ kM fuel ⟨ch, sp, ru⟩ ⟨a, pre ++ suf, nd⟩ k pre.length g = some (.inl g')) ∨
  (oD ch a pre suf u = none ∧ kM fuel ⟨ch, sp, ru⟩ ⟨a, pre ++ suf, nd⟩ k pre.length g = some (.inr (.inr (.inr flaw)))) := by
 induction suf with
 | nil =>
  intro pre k g u hk _ _ hl hg
  obtain _ | k := k
  ·omega
  exact .inl ⟨u, g, rfl, hl, hg, by rw [kM, if_neg (by simp)]⟩
 | cons e suf ih =>
  intro pre k g u hk hf hB hl hg
  obtain _ | k := k
  ·omega
  simp only [List.length_cons] at hk hB hf
  rw [kM, if_pos (cB _ _ _)]
  dsimp only
  rw [cA, bsm]
  simp only [oD]
  by_cases h1 : 0 ≤ e ∧ e < (ch.length : Int)
  ·obtain ⟨y, hy⟩ := cH h1.1 h1.2
   rw [if_pos h1.1, if_pos h1.2, hy, bsm]
   dsimp only
   by_cases h2 : y.At = a
   ·rw [if_pos h2]
    have hs : slc (pre ++ e :: suf) 0 pre.length = some pre := by
     unfold slc; rw [if_pos ⟨by omega, by omega, by simp; omega⟩]; simp
    rw [hs, bsm, aJg (by omega) (by omega), bsm]
    by_cases h3 : e ∈ pre
    ·rw [decide_eq_true h3, if_neg (fun q => q.2 h3)]
     exact .inr ⟨rfl, by rw [show (!true) = false from rfl, cV]; rfl⟩
    ·rw [decide_eq_false h3, if_pos ⟨h2, h3⟩, show (!false) = true from rfl, eV, bsm, bsm]
     dsimp only
     rw [aP (by omega), bsm, cE pre suf e, bS pre e]
     exact ih (pre ++ [e]) k _ _ (by omega) (by simp; omega) (by simp; omega) (by simpa using hl) (like_upd hg h1.1 (by omega))
   ·rw [if_neg h2, cV, if_neg (fun q => h2 q.1)]
    exact .inr ⟨rfl, rfl⟩
  ·rw [kJ h1]
   refine .inr ⟨rfl, ?_⟩
   by_cases h0 : 0 ≤ e
   ·rw [if_pos h0, if_neg (fun q => h1 ⟨h0, q⟩), cV]; rfl
   ·rw [if_neg h0, cV]; rfl
theorem dl3 {ch : List ScopeChan} {sp : List ScopeSpot} {fuel : Nat} (suf : List ScopeRule) : ∀ (pre : List ScopeRule) (k : Nat) (g : aQ Int Bool) (u : List Bool), suf.length < k → pre.length + suf.length ≤ 3000000 → 2000000 < fuel → (∀ r ∈ suf, r.Joins.length ≤ 2000000) → u.length = ch.length → Like g u →
  (∃ u' g', jK ch sp.length suf u = some u' ∧ u'.length = ch.length ∧ Like g' u' ∧ nV fuel ⟨ch, sp, pre ++ suf⟩ k pre.length g = some (.inl g')) ∨
  (jK ch sp.length suf u = none ∧ nV fuel ⟨ch, sp, pre ++ suf⟩ k pre.length g = some (.inr (.inr flaw))) := by
 induction suf with
 | nil =>
  intro pre k g u hk _ _ _ hl hg
  obtain _ | k := k
  ·omega
  exact .inl ⟨u, g, rfl, hl, hg, by rw [nV, if_neg (by simp)]⟩
 | cons e suf ih =>
  intro pre k g u hk hB hf hJ hl hg
  obtain _ | k := k
  ·omega
  simp only [List.length_cons] at hk hB
  have hj := hJ e (.head _)
  rw [nV, if_pos (cB _ _ _)]
  dsimp only
  rw [cA, bsm, aEj, bsm]
  simp only [jK]
  by_cases h1 : 0 ≤ e.At ∧ e.At ≤ (sp.length : Int)
  ·rw [if_pos h1]
   dsimp only
   by_cases h2 : 0 < (e.Joins.length : Int)
   ·rw [if_pos h2]
    by_cases h3 : (e.Joins.length : Int) ≤ 3
    ·rw [decide_eq_true h3, eV, bsm, if_pos (show okR sp.length e from ⟨h1.1, h1.2, by omega, by omega⟩)]
     have h4 := dl4 (ch := ch) (sp := sp) (ru := pre ++ e :: suf) (a := e.At) (nd := e.Node) e.Joins (fuel := fuel) [] fuel g u (by omega) (by simp; omega) (by simp; omega) hl hg
     simp only [List.nil_append, List.length_nil, Int.natCast_zero] at h4
     rcases h4 with ⟨u', g', a1, a2, a3, a4⟩ | ⟨a1, a4⟩
     ·rw [a1, bsm]
      have : ((kM fuel ⟨ch, sp, pre ++ e :: suf⟩ e fuel 0 g) = some (.inl g')) := a4
      dsimp only
      rw [bsm]; dsimp only
      rw [this, bsm]; dsimp only
      rw [aP (by omega), bsm, cE pre suf e, bS pre e]
      exact ih (pre ++ [e]) k g' u' (by omega) (by simp; omega) hf (fun r hr => hJ r (.tail _ hr)) a2 a3
     ·rw [a1]
      have : ((kM fuel ⟨ch, sp, pre ++ e :: suf⟩ e fuel 0 g) = some (.inr (.inr (.inr flaw)))) := a4
      refine .inr ⟨rfl, ?_⟩
      dsimp only
      rw [bsm]; dsimp only
      rw [this]; rfl
    ·rw [decide_eq_false h3, cV, if_neg (show ¬ okR sp.length e from fun q => h3 (by have := q.2.2.2; omega))]
     exact .inr ⟨rfl, rfl⟩
   ·rw [if_neg h2, cV, if_neg (show ¬ okR sp.length e from fun q => h2 (by have := q.2.2.1; omega))]
    exact .inr ⟨rfl, rfl⟩
  ·rw [if_neg h1, if_neg (show ¬ okR sp.length e from fun q => h1 ⟨q.1, q.2.1⟩)]
   exact .inr ⟨rfl, rfl⟩
theorem def_eq {fuel : Nat} {d : ScopeDef} (hf : 3000000 ≤ fuel) (hs : smD d) : uQ fuel d = some (if okD d = true then .inl () else .inr flaw) := by
 obtain ⟨ch, sp, ru⟩ := d
 obtain ⟨s1, s2, s3, s4⟩ := hs
 dsimp only at s1 s2 s3 s4
 rw [uQ]
 dsimp only
 have e1 := dl1 (sp := sp) (ru := ru) ch [] fuel (by omega) (by simp; omega)
 have e2 := dl2 (ch := ch) (ru := ru) sp [] fuel (by omega) (by simp; omega)
 have e3 := dl3 (ch := ch) (sp := sp) (fuel := fuel) ru [] fuel aQ.none (List.replicate ch.length false) (by omega) (by simp; omega) (by omega) s4 (by simp) ⟨fun i => by simp [aQ.none, List.getElem?_replicate], by simp [aQ.none, List.countP_replicate]⟩
 simp only [List.nil_append, List.length_nil, Int.natCast_zero] at e1 e2 e3
 by_cases l1 : ch.length ≤ 30
 ·rw [if_pos (by omega)]
  by_cases l2 : sp.length ≤ 30
  ·rw [if_pos (by omega)]
   by_cases l3 : ru.length ≤ 30
   ·rw [decide_eq_true (by omega), eV, bsm, bsm]
    dsimp only
    rw [e1, bsm]
    have hok : okD ⟨ch, sp, ru⟩ = (ch.all (gI sp.length) && lU 0 sp && okU (jK ch sp.length ru (List.replicate ch.length false))) := by
     simp only [okD]; rw [decide_eq_true ⟨l1, l2, l3⟩]; simp
    rw [hok]
    cases h1 : ch.all (gI sp.length) with
    | false => simp
    | true =>
     simp only [if_true, Bool.true_and]
     rw [e2, bsm]
     cases h2 : lU 0 sp with
     | false => simp
     | true =>
      simp only [if_true, Bool.true_and]
      rcases e3 with ⟨u, g, a1, a2, a3, a4⟩ | ⟨a1, a4⟩
      ·rw [a4, bsm]
       dsimp only
       rw [a1]
       have hc : ((g.size : Int) = (ch.length : Int)) ↔ okU (some u) = true := by
        show _ ↔ u.all id = true
        rw [a3.2, ← a2, List.all_eq_true]
        constructor
        ·intro h; exact List.countP_eq_length.1 (by omega)
        ·intro h; have := List.countP_eq_length.2 h; omega
       by_cases hh : (g.size : Int) = (ch.length : Int)
       ·rw [decide_eq_true hh, eV, if_pos (hc.1 hh)]; rfl
       ·rw [decide_eq_false hh, cV, if_neg (fun q => hh (hc.2 q))]; rfl
      ·rw [a4, bsm, a1]; simp [okU]
   ·rw [decide_eq_false (by omega), cV, if_neg]; rfl
    intro g; simp only [okD, Bool.and_eq_true, decide_eq_true_eq] at g; exact l3 g.1.1.1.2.2
  ·rw [if_neg (by omega), cV, if_neg]; rfl
   intro g; simp only [okD, Bool.and_eq_true, decide_eq_true_eq] at g; exact l2 g.1.1.1.2.1
 ·rw [if_neg (by omega), cV, if_neg]; rfl
  intro g; simp only [okD, Bool.and_eq_true, decide_eq_true_eq] at g; exact l1 g.1.1.1.1
theorem rl1 {sp : List ScopeSpot} {ru : List ScopeRule} (suf : List ScopeChan) : ∀ (pre : List ScopeChan) (k : Nat), suf.length < k → pre.length + suf.length ≤ 3000000 →
  pB ⟨pre ++ suf, sp, ru⟩ k pre.length = some (if suf.all (gI sp.length) = true then .inl () else .inr false) := by
 induction suf with
 | nil =>
  intro pre k hk _
  obtain _ | k := k
  ·omega
  rw [pB, if_neg (by simp), if_pos (by rfl)]
 | cons e suf ih =>
  intro pre k hk hB
  obtain _ | k := k
  ·omega
  simp only [List.length_cons] at hk hB
  have hall : (e :: suf).all (gI sp.length) = (gI sp.length e && suf.all (gI sp.length)) := rfl
  rw [pB, if_pos (cB _ _ _), hall]
  dsimp only
  rw [cA, bsm]
  by_cases hc : gI sp.length e = true
  ·obtain ⟨c1, c2, c3, c4⟩ := of_decide_eq_true hc
   rw [if_neg (by omega), bsm, if_neg (by omega), bsm, if_neg (by omega), bsm, if_neg (by omega), aP (by omega), bsm, cE pre suf e, bS pre e, ih (pre ++ [e]) k (by omega) (by simp; omega), hc, Bool.true_and]
  ·have hf : gI sp.length e = false := by simpa using hc
   rw [hf, Bool.false_and, if_neg (show ¬ (false = true) from Bool.false_ne_true)]
   have hd : ¬ (0 ≤ e.At ∧ e.At ≤ (sp.length : Int) ∧ 0 ≤ e.Many ∧ e.Many ≤ 3) := of_decide_eq_false hf
   by_cases c1 : e.At < 0
   ·rw [if_pos c1]; rfl
   ·rw [if_neg c1, bsm]
    by_cases c2 : (sp.length : Int) < e.At
    ·rw [if_pos c2]; rfl
    ·rw [if_neg c2, bsm]
     by_cases c3 : e.Many < 0
     ·rw [if_pos c3]; rfl
     ·rw [if_neg c3, bsm, if_pos (by omega)]; rfl
theorem rl2 {ch : List ScopeChan} {ru : List ScopeRule} (suf : List ScopeSpot) : ∀ (pre : List ScopeSpot) (k : Nat), suf.length < k → pre.length + suf.length ≤ 3000000 →
  pM ⟨ch, pre ++ suf, ru⟩ k pre.length = some (if lU pre.length suf = true then .inl () else .inr false) := by
 induction suf with
 | nil =>
  intro pre k hk _
  obtain _ | k := k
  ·omega
  rw [pM, if_neg (by simp), if_pos (by rfl)]
 | cons e suf ih =>
  intro pre k hk hB
  obtain _ | k := k
  ·omega
  simp only [List.length_cons] at hk hB
  have hall : lU pre.length (e :: suf) = (decide (0 ≤ e.In ∧ e.In ≤ (pre.length : Int)) && lU (pre.length + 1) suf) := rfl
  rw [pM, if_pos (cB _ _ _), hall]
  dsimp only
  rw [cA, bsm]
  by_cases hc : 0 ≤ e.In ∧ e.In ≤ (pre.length : Int)
  ·have hp : (pre ++ [e]).length = pre.length + 1 := by simp
   rw [if_neg (by omega), bsm, if_neg (by omega), aP (by omega), bsm, cE pre suf e, bS pre e, ih (pre ++ [e]) k (by omega) (by simp; omega), decide_eq_true hc, Bool.true_and, hp]
  ·rw [decide_eq_false hc, Bool.false_and, if_neg (show ¬ (false = true) from Bool.false_ne_true)]
   by_cases c1 : e.In < 0
   ·rw [if_pos c1]; rfl
   ·rw [if_neg c1, bsm, if_pos (by omega)]; rfl
theorem rl5 {a nd c : Int} {js : List Int} (suf : List Int) : ∀ (pre : List Int) (k : Nat) (post : List Int), js = pre ++ suf ++ post → suf.length < k → pre.length + suf.length ≤ 3000000 →
  pJ ⟨a, js, nd⟩ (pre.length + suf.length : Nat) c k pre.length = some (if c ∈ suf then .inr (.inr (.inr (.inr false))) else .inl ()) := by
 induction suf with
 | nil =>
  intro pre k post _ hk _
  obtain _ | k := k
  ·omega
  rw [pJ, if_neg (by simp), if_neg (by simp)]
 | cons e suf ih =>
  intro pre k post hj hk hB
  obtain _ | k := k
  ·omega
  simp only [List.length_cons] at hk hB
  have hi : idx js (pre.length : Int) = some e := by rw [hj]; exact bE (by simp)
  rw [pJ, if_pos (by simp; omega)]
  dsimp only
  rw [hi, bsm]
  by_cases hc : e = c
  ·rw [if_pos hc, if_pos (by simp [hc])]; rfl
  ·have h := ih (pre ++ [e]) k post (by simp [hj]) (by omega) (by simp; omega)
   have hl : (pre ++ [e]).length + suf.length = pre.length + (e :: suf).length := by simp; omega
   rw [hl] at h
   have hm : (c ∈ e :: suf) ↔ c ∈ suf := by simp [Ne.symm hc]
   rw [if_neg hc, aP (by omega), bsm, bS pre e, h]
   by_cases hs : c ∈ suf
   ·rw [if_pos hs, if_pos (hm.2 hs)]
   ·rw [if_neg hs, if_neg (fun q => hs (hm.1 q))]
theorem rl4 {ch : List ScopeChan} {sp : List ScopeSpot} {ru : List ScopeRule} {a nd : Int} (suf : List Int) {fuel : Nat} : ∀ (pre : List Int) (k : Nat) (u : List Bool), suf.length < k → pre.length + suf.length < fuel → pre.length + suf.length ≤ 3000000 → u.length = ch.length →
  (∃ u', oD ch a pre suf u = some u' ∧ u'.length = ch.length ∧ kH fuel ⟨ch, sp, ru⟩ ⟨a, pre ++ suf, nd⟩ k u pre.length = some (.inl u')) ∨
  (oD ch a pre suf u = none ∧ kH fuel ⟨ch, sp, ru⟩ ⟨a, pre ++ suf, nd⟩ k u pre.length = some (.inr (.inr false))) := by
 induction suf with
 | nil =>
  intro pre k u hk _ _ hl
  obtain _ | k := k
  ·omega
  exact .inl ⟨u, rfl, hl, by rw [kH, if_neg (by simp)]⟩
 | cons e suf ih =>
  intro pre k u hk hf hB hl
  obtain _ | k := k
  ·omega
  simp only [List.length_cons] at hk hB hf
  rw [kH, if_pos (cB _ _ _)]
  dsimp only
  rw [cA, bsm]
  simp only [oD]
  by_cases h1 : 0 ≤ e ∧ e < (ch.length : Int)
  ·obtain ⟨y, hy⟩ := cH h1.1 h1.2
   obtain ⟨b, hb⟩ := cH (xs := u) h1.1 (by omega)
   rw [hy, if_neg (show ¬ e < 0 by omega), if_neg (show ¬ (ch.length : Int) ≤ e by omega), bsm]
   dsimp only
   by_cases h2 : y.At = a
   ·have h5 := rl5 (a := a) (nd := nd) (c := e) (js := pre ++ e :: suf) pre [] fuel (e :: suf) (by simp) (by omega) (by simp; omega)
    simp only [List.length_nil, Nat.zero_add, Int.natCast_zero] at h5
    rw [if_neg (show ¬ (y.At ≠ a) from fun q => q h2), h5, bsm]
    by_cases h3 : e ∈ pre
    ·rw [if_pos h3, if_neg (show ¬ (y.At = a ∧ e ∉ pre) from fun q => q.2 h3)]
     exact .inr ⟨rfl, rfl⟩
    ·rw [if_neg h3, if_pos (show y.At = a ∧ e ∉ pre from ⟨h2, h3⟩)]
     dsimp only
     rw [hb, bsm, bsm]
     dsimp only
     rw [aP (by omega), bsm, cE pre suf e, bS pre e]
     exact ih (pre ++ [e]) k _ (by omega) (by simp; omega) (by simp; omega) (by simpa using hl)
   ·rw [if_pos (show y.At ≠ a from h2), if_neg (show ¬ (y.At = a ∧ e ∉ pre) from fun q => h2 q.1)]
    exact .inr ⟨rfl, rfl⟩
  ·rw [kJ h1]
   refine .inr ⟨rfl, ?_⟩
   by_cases h0 : e < 0
   ·rw [if_pos h0]; rfl
   ·rw [if_neg h0, if_pos (by omega)]; rfl
theorem rl3 {ch : List ScopeChan} {sp : List ScopeSpot} {fuel : Nat} (suf : List ScopeRule) : ∀ (pre : List ScopeRule) (k : Nat) (u : List Bool), suf.length < k → pre.length + suf.length ≤ 3000000 → 2000000 < fuel → (∀ r ∈ suf, r.Joins.length ≤ 2000000) → u.length = ch.length →
  (∃ u', jK ch sp.length suf u = some u' ∧ u'.length = ch.length ∧ oJ fuel ⟨ch, sp, pre ++ suf⟩ k u pre.length = some (.inl u')) ∨
  (jK ch sp.length suf u = none ∧ oJ fuel ⟨ch, sp, pre ++ suf⟩ k u pre.length = some (.inr false)) := by
 induction suf with
 | nil =>
  intro pre k u hk _ _ _ hl
  obtain _ | k := k
  ·omega
  exact .inl ⟨u, rfl, hl, by rw [oJ, if_neg (by simp)]⟩
 | cons e suf ih =>
  intro pre k u hk hB hf hJ hl
  obtain _ | k := k
  ·omega
  simp only [List.length_cons] at hk hB
  have hj := hJ e (.head _)
  rw [oJ, if_pos (cB _ _ _)]
  dsimp only
  rw [cA, bsm]
  simp only [jK]
  by_cases h1 : okR sp.length e
  ·obtain ⟨c1, c2, c3, c4⟩ := h1
   rw [if_pos (show okR sp.length e from ⟨c1, c2, c3, c4⟩), if_neg (show ¬ e.At < 0 by omega), if_neg (show ¬ (sp.length : Int) < e.At by omega), if_neg (show ¬ (e.Joins.length : Int) < 1 by omega), if_neg (show ¬ 3 < (e.Joins.length : Int) by omega)]
   have h4 := rl4 (ch := ch) (sp := sp) (ru := pre ++ e :: suf) (a := e.At) (nd := e.Node) e.Joins (fuel := fuel) [] fuel u (by omega) (by simp; omega) (by simp; omega) hl
   simp only [List.nil_append, List.length_nil, Int.natCast_zero] at h4
   rcases h4 with ⟨u', a1, a2, a4⟩ | ⟨a1, a4⟩
   ·have : ((kH fuel ⟨ch, sp, pre ++ e :: suf⟩ e fuel u 0) = some (.inl u')) := a4
    rw [a1, bsm, this, bsm]
    dsimp only
    rw [aP (by omega), bsm, cE pre suf e, bS pre e]
    exact ih (pre ++ [e]) k u' (by omega) (by simp; omega) hf (fun r hr => hJ r (.tail _ hr)) a2
   ·have : ((kH fuel ⟨ch, sp, pre ++ e :: suf⟩ e fuel u 0) = some (.inr (.inr false))) := a4
    rw [a1, this]
    exact .inr ⟨rfl, rfl⟩
  ·rw [if_neg h1]
   refine .inr ⟨rfl, ?_⟩
   unfold okR at h1
   by_cases c1 : e.At < 0
   ·rw [if_pos c1]; rfl
   ·rw [if_neg c1]
    by_cases c2 : (sp.length : Int) < e.At
    ·rw [if_pos c2]; rfl
    ·rw [if_neg c2]
     by_cases c3 : (e.Joins.length : Int) < 1
     ·rw [if_pos c3]; rfl
     ·rw [if_neg c3, if_pos (by omega)]; rfl
theorem rl6 (suf : List Bool) : ∀ (pre : List Bool) (k : Nat), suf.length < k → pre.length + suf.length ≤ 3000000 → oW (pre ++ suf) k pre.length = some (if suf.all id = true then .inl () else .inr false) := by
 induction suf with
 | nil =>
  intro pre k hk _
  obtain _ | k := k
  ·omega
  rw [oW, if_neg (by simp), if_pos (by rfl)]
 | cons e suf ih =>
  intro pre k hk hB
  obtain _ | k := k
  ·omega
  simp only [List.length_cons] at hk hB
  rw [oW, if_pos (cB _ _ _), cA, bsm]
  cases e with
  | false =>
   rw [cond_false, show (false :: suf).all id = false from rfl, if_neg Bool.false_ne_true]; rfl
  | true =>
   rw [cond_true, aP (by omega), bsm, cE pre suf true, bS pre true, ih (pre ++ [true]) k (by omega) (by simp; omega), show (true :: suf).all id = suf.all id from by simp]
theorem rdef_eq {fuel : Nat} {d : ScopeDef} (hf : 3000000 ≤ fuel) (hs : smD d) : xV fuel d = some (okD d) := by
 obtain ⟨ch, sp, ru⟩ := d
 obtain ⟨s1, s2, s3, s4⟩ := hs
 dsimp only at s1 s2 s3 s4
 rw [xV]
 dsimp only
 have e1 := rl1 (sp := sp) (ru := ru) ch [] fuel (by omega) (by simp; omega)
 have e2 := rl2 (ch := ch) (ru := ru) sp [] fuel (by omega) (by simp; omega)
 have e3 := rl3 (ch := ch) (sp := sp) (fuel := fuel) ru [] fuel (List.replicate ch.length false) (by omega) (by simp; omega) (by omega) s4 (by simp)
 simp only [List.nil_append, List.length_nil, Int.natCast_zero] at e1 e2 e3
 have hmk : mk false (ch.length : Int) = some (List.replicate ch.length false) := by unfold mk; rw [if_pos (by omega)]; simp
 have hok : okD ⟨ch, sp, ru⟩ = (decide (ch.length ≤ 30 ∧ sp.length ≤ 30 ∧ ru.length ≤ 30) && ch.all (gI sp.length) && lU 0 sp && okU (jK ch sp.length ru (List.replicate ch.length false))) := rfl
 by_cases l1 : 30 < ch.length
 ·rw [if_pos (by omega), hok, decide_eq_false (by omega)]; simp
 ·rw [if_neg (by omega)]
  by_cases l2 : 30 < sp.length
  ·rw [if_pos (by omega), hok, decide_eq_false (by omega)]; simp
  ·rw [if_neg (by omega)]
   by_cases l3 : 30 < ru.length
   ·rw [if_pos (by omega), hok, decide_eq_false (by omega)]; simp
   ·rw [if_neg (by omega), e1, bsm, hok, decide_eq_true (by omega)]
    cases h1 : ch.all (gI sp.length) with
    | false => simp
    | true =>
     simp only [if_true, Bool.true_and]
     rw [e2, bsm]
     cases h2 : lU 0 sp with
     | false => simp
     | true =>
      simp only [if_true, Bool.true_and]
      rw [hmk, bsm]
      rcases e3 with ⟨u, a1, a2, a4⟩ | ⟨a1, a4⟩
      ·have h6 := rl6 u [] fuel (by omega) (by simp; omega)
       simp only [List.nil_append, List.length_nil, Int.natCast_zero] at h6
       rw [a4, bsm, a1]
       dsimp only
       rw [h6, bsm]
       have : okU (some u) = u.all id := rfl
       rw [this]
       cases u.all id <;> simp
      ·rw [a4, bsm, a1]; simp [okU]
end Go.Proofs.YtmnbfgeljmhekaaGreat
set_option maxRecDepth 100000
namespace Go.Proofs.YtmnbfgeljmhekaaGreat
open Go.SX Go.SW Go.Dt
structure VS where
 sz : List Int
 met : List Bool
 dfs : List Bool
def shp (op : Int) : Option (Nat × Nat) :=
 if op = 1 ∨ op = 7 then some (0, 0) else if op = 3 then some (2, 0) else if op = 2 then some (0, 1) else if op = 5 then some (2, 2) else if op = 6 ∨ op = 8 then some (1, 3) else if op = 4 then some (1, 4) else none
def okM (p : ScopeProg) (s : VS) (x : ScopeNode) (size : Int) : Nat → Prop
 | 0 => x.N = 0 ∧ x.Args.length = 0
 | 1 => (0 ≤ x.N ∧ x.N < size) ∧ x.Args.length ≤ 3
 | 2 => x.N = 0 ∧ x.Args.length = 1
 | 3 => (0 ≤ x.N ∧ x.N < size) ∧ x.Args.length = 0
 | _ => (0 ≤ x.N ∧ x.N < (p.Defs.length : Int) ∧ idx s.dfs x.N = some false) ∧ x.Args.length = 0
def okN (p : ScopeProg) (s : VS) (x : ScopeNode) (size : Int) : Prop := (∃ k c, shp x.Op = some (k, c) ∧ x.Kids.length = k ∧ okM p s x size c) ∧ x.Args.all (okE size) = true
def own (d : ScopeDef) : Int := (d.Chans.length : Int) + (d.Spots.length : Int)
def brs (ch : List ScopeChan) : List Int → Int
 | [] => 0
 | c :: js => (match idx ch c with | some y => y.Many | none => 0) + brs ch js
def cJ (g : VS → Int → Int → Option VS) : VS → List (Int × Int) → Option VS
 | s, [] => some s
 | s, x :: l => (g s x.1 x.2).bind fun s => cJ g s l
open Classical in
noncomputable def vis (p : ScopeProg) : Nat → VS → Int → Int → Option VS
 | 0, _, _, _ => none
 | f + 1, s, n, size =>
  if 0 ≤ n ∧ n < (p.Nodes.length : Int) ∧ idx s.met n = some false then
   (idx p.Nodes n).bind fun x =>
   if okN p s x size then
    if x.Op = 4 then
     (idx p.Defs x.N).bind fun d =>
     if okD d = true then
      (cJ (vis p f) ⟨s.sz.set n.toNat size, s.met.set n.toNat true, s.dfs.set x.N.toNat true⟩ (d.Rules.map fun r => (r.Node, size + own d + brs d.Chans r.Joins))).bind fun s1 =>
      (cJ (vis p f) s1 (d.Spots.map fun y => (y.Node, size + own d))).bind fun s2 =>
      cJ (vis p f) s2 (x.Kids.map fun k => (k, size + own d))
     else none
    else cJ (vis p f) ⟨s.sz.set n.toNat size, s.met.set n.toNat true, s.dfs⟩ (x.Kids.map fun k => (k, size))
   else none
  else none
def unm (s : VS) : Nat := s.met.countP (fun b => !b)
structure WS (p : ScopeProg) (s : VS) : Prop where
 sz : s.sz.length = p.Nodes.length
 met : s.met.length = p.Nodes.length
 dfs : s.dfs.length = p.Defs.length
structure SmP (p : ScopeProg) : Prop where
 nodes : p.Nodes.length ≤ 2000000
 defs : p.Defs.length ≤ 2000000
 free : p.Free.length ≤ 2000000
 names : ∀ x ∈ p.Free, x.size ≤ 2000000
 args : ∀ x ∈ p.Nodes, x.Args.length ≤ 2000000 ∧ x.Kids.length ≤ 2000000 ∧ ∀ e ∈ x.Args, nE e ≤ 2000000
 dfs : ∀ d ∈ p.Defs, smD d
theorem dU {α : Type} {xs : List α} {i : Int} {y : α} (h : idx xs i = some y) : y ∈ xs := List.mem_of_getElem? (bB h)
theorem aEO {ch : List ScopeChan} {a : Int} : ∀ (js pre : List Int) (u u' : List Bool), oD ch a pre js u = some u' → ∀ c ∈ js, ∃ y, idx ch c = some y
 | [], _, _, _, _, c, h => by cases h
 | e :: js, pre, u, u', h, c, hc => by
  simp only [oD] at h
  cases he : idx ch e with
  | none => rw [he] at h; cases h
  | some y =>
   rw [he] at h
   dsimp only at h
   split at h
   ·cases hc with
    | head => exact ⟨y, he⟩
    | tail _ hc => exact aEO js _ _ _ h c hc
   ·cases h
theorem aDY {ch : List ScopeChan} {n : Nat} : ∀ (rs : List ScopeRule) (u u' : List Bool), jK ch n rs u = some u' → ∀ r ∈ rs, okR n r ∧ ∀ c ∈ r.Joins, ∃ y, idx ch c = some y
 | [], _, _, _, r, h => by cases h
 | e :: rs, u, u', h, r, hr => by
  simp only [jK] at h
  split at h
  ·rename_i h1
   obtain ⟨u1, h2, h3⟩ := bind_some h
   cases hr with
   | head => exact ⟨h1, aEO _ _ _ _ h2⟩
   | tail _ hr => exact aDY rs _ _ h3 r hr
  ·cases h
theorem dT {d : ScopeDef} (h : okD d = true) : d.Chans.length ≤ 30 ∧ d.Spots.length ≤ 30 ∧ d.Rules.length ≤ 30 ∧ (∀ c ∈ d.Chans, 0 ≤ c.Many ∧ c.Many ≤ 3) ∧ ∀ r ∈ d.Rules, r.Joins.length ≤ 3 ∧ ∀ c ∈ r.Joins, ∃ y, idx d.Chans c = some y ∧ 0 ≤ y.Many ∧ y.Many ≤ 3 := by
 simp only [okD, Bool.and_eq_true, decide_eq_true_eq] at h
 obtain ⟨⟨⟨h1, h2⟩, h3⟩, h4⟩ := h
 have hm : ∀ c ∈ d.Chans, 0 ≤ c.Many ∧ c.Many ≤ 3 := fun c hc => by
  have := of_decide_eq_true (List.all_eq_true.1 h2 c hc); exact ⟨this.2.2.1, this.2.2.2⟩
 refine ⟨h1.1, h1.2.1, h1.2.2, hm, fun r hr => ?_⟩
 cases hu : jK d.Chans d.Spots.length d.Rules (List.replicate d.Chans.length false) with
 | none => rw [hu] at h4; cases h4
 | some u =>
  obtain ⟨g1, g2⟩ := aDY _ _ _ hu r hr
  exact ⟨g1.2.2.2, fun c hc => let ⟨y, hy⟩ := g2 c hc; ⟨y, hy, hm y (dU hy)⟩⟩
theorem rW {ch : List ScopeChan} : ∀ {js : List Int}, (∀ c ∈ js, ∃ y, idx ch c = some y ∧ 0 ≤ y.Many ∧ y.Many ≤ 3) → 0 ≤ brs ch js ∧ brs ch js ≤ 3 * js.length
 | [], _ => by simp [brs]
 | c :: js, h => by
  obtain ⟨y, h1, h2, h3⟩ := h c (.head _)
  have := rW (js := js) fun c hc => h c (.tail _ hc)
  simp only [brs, h1, List.length_cons]; omega
theorem aHy {ch : List ScopeChan} {sp : List ScopeSpot} {ru : List ScopeRule} {a nd : Int} (suf : List Int) : ∀ (pre : List Int) (k : Nat) (w : Int), suf.length < k → pre.length + suf.length ≤ 1000 → 0 ≤ w → w ≤ 100000 → (∀ c ∈ suf, ∃ y, idx ch c = some y ∧ 0 ≤ y.Many ∧ y.Many ≤ 3) → w + 3 * suf.length ≤ 100000 →
  oV ⟨ch, sp, ru⟩ ⟨a, pre ++ suf, nd⟩ k w pre.length = some (w + brs ch suf) := by
 induction suf with
 | nil =>
  intro pre k w hk _ _ _ _ _
  obtain _ | k := k
  ·omega
  rw [oV, if_neg (by simp)]; simp [brs]
 | cons e suf ih =>
  intro pre k w hk hB h0 h1 hm hw
  obtain _ | k := k
  ·omega
  simp only [List.length_cons] at hk hB hw
  obtain ⟨y, g1, g2, g3⟩ := hm e (.head _)
  rw [oV, if_pos (cB _ _ _)]
  dsimp only
  rw [cA, bsm, g1, bsm, aP (by omega), bsm, aP (by omega), bsm, cE pre suf e, bS pre e, ih (pre ++ [e]) k _ (by omega) (by simp; omega) (by omega) (by omega) (fun c hc => hm c (.tail _ hc)) (by omega)]
  simp only [brs, g1]; congr 1; omega
theorem aIX {fuel : Nat} {d : ScopeDef} {r : ScopeRule} (hf : 3000 ≤ fuel) (h : okD d = true) (hr : r ∈ d.Rules) : xY fuel d r = some (brs d.Chans r.Joins) := by
 obtain ⟨_, _, _, _, h5⟩ := dT h
 obtain ⟨g1, g2⟩ := h5 r hr
 have := aHy (ch := d.Chans) (sp := d.Spots) (ru := d.Rules) (a := r.At) (nd := r.Node) r.Joins [] fuel 0 (by omega) (by simp; omega) (by omega) (by omega) g2 (by omega)
 simp only [List.nil_append, List.length_nil, Int.natCast_zero] at this
 rw [xY, this, bsm]; congr 1; omega
def lD (p : ScopeProg) (o : Option VS) : Scope_looker ⊕ Value := match o with
 | some s => .inl ⟨p, s.sz, s.met, s.dfs⟩
 | none => .inr flaw
structure Vis (p : ScopeProg) (f : Nat) (rec : Scope_looker → Int → Int → Option (Scope_looker ⊕ Value)) : Prop where
 run : ∀ (s : VS) (n z : Int), WS p s → unm s ≤ f → 0 ≤ z → z + 80 * f ≤ 100000 → rec ⟨p, s.sz, s.met, s.dfs⟩ n z = some (lD p (vis p f s n z))
structure VisO (p : ScopeProg) (f : Nat) : Prop where
 out : ∀ (s : VS) (n z : Int) (s' : VS), WS p s → unm s ≤ f → vis p f s n z = some s' → WS p s' ∧ unm s' + 1 ≤ unm s
theorem nP {p : ScopeProg} {f : Nat} (h : VisO p f) : ∀ (l : List (Int × Int)) (s s' : VS), WS p s → unm s ≤ f → cJ (vis p f) s l = some s' → WS p s' ∧ unm s' ≤ unm s
 | [], s, s', hs, _, e => by cases e; exact ⟨hs, Nat.le_refl _⟩
 | x :: l, s, s', hs, hu, e => by
  obtain ⟨s1, e1, e2⟩ := bind_some e
  obtain ⟨h1, h2⟩ := h.out _ _ _ _ hs hu e1
  obtain ⟨h3, h4⟩ := nP h l s1 s' h1 (by omega) e2
  exact ⟨h3, by omega⟩
section
variable {p : ScopeProg} {f : Nat} {rec : Scope_looker → Int → Int → Option (Scope_looker ⊕ Value)}
theorem ln4 (hv : Vis p f rec) (ho : VisO p f) {op nn : Int} {ar : List ScopeExp} {z : Int} (hz : 0 ≤ z ∧ z + 80 * f ≤ 100000) (suf : List Int) : ∀ (pre : List Int) (k : Nat) (s : VS), suf.length < k → pre.length + suf.length ≤ 3000000 → WS p s → unm s ≤ f →
  nH rec ⟨op, nn, ar, pre ++ suf⟩ z k pre.length p.Free p.Nodes p.Defs p.Main s.sz s.met s.dfs = some (lD p (cJ (vis p f) s (suf.map fun k => (k, z)))) := by
 induction suf with
 | nil =>
  intro pre k s hk _ hs hu
  obtain _ | k := k
  ·omega
  rw [nH, if_neg (by simp)]; rfl
 | cons e suf ih =>
  intro pre k s hk hB hs hu
  obtain _ | k := k
  ·omega
  simp only [List.length_cons] at hk hB
  rw [nH, if_pos (cB _ _ _)]
  dsimp only
  rw [cA, bsm]
  have h1 := hv.run s e z hs hu hz.1 hz.2
  rw [show (⟨⟨p.Free, p.Nodes, p.Defs, p.Main⟩, s.sz, s.met, s.dfs⟩ : Scope_looker) = ⟨p, s.sz, s.met, s.dfs⟩ from rfl, h1, bsm]
  simp only [List.map_cons, cJ]
  cases hc : vis p f s e z with
  | none => rfl
  | some s1 =>
   obtain ⟨h2, h3⟩ := ho.out _ _ _ _ hs hu hc
   simp only [lD]
   rw [aP (by omega), bsm, cE pre suf e, bS pre e, bsm]
   exact ih (pre ++ [e]) k s1 (by omega) (by simp; omega) h2 (by omega)
theorem ln3 (hv : Vis p f rec) (ho : VisO p f) {ch : List ScopeChan} {ru : List ScopeRule} {z : Int} (hz : 0 ≤ z ∧ z + 80 * f ≤ 100000) (suf : List ScopeSpot) : ∀ (pre : List ScopeSpot) (k : Nat) (s : VS), suf.length < k → pre.length + suf.length ≤ 3000000 → WS p s → unm s ≤ f →
  mK rec ⟨ch, pre ++ suf, ru⟩ z k pre.length p.Free p.Nodes p.Defs p.Main s.sz s.met s.dfs = some (match cJ (vis p f) s (suf.map fun y => (y.Node, z)) with
   | some s' => .inl (z, p.Free, p.Nodes, p.Defs, p.Main, s'.sz, s'.met, s'.dfs)
   | none => .inr (.inr flaw)) := by
 induction suf with
 | nil =>
  intro pre k s hk _ hs hu
  obtain _ | k := k
  ·omega
  rw [mK, if_neg (by simp)]; rfl
 | cons e suf ih =>
  intro pre k s hk hB hs hu
  obtain _ | k := k
  ·omega
  simp only [List.length_cons] at hk hB
  rw [mK, if_pos (cB _ _ _)]
  dsimp only
  rw [cA, bsm]
  have h1 := hv.run s e.Node z hs hu hz.1 hz.2
  rw [show (⟨⟨p.Free, p.Nodes, p.Defs, p.Main⟩, s.sz, s.met, s.dfs⟩ : Scope_looker) = ⟨p, s.sz, s.met, s.dfs⟩ from rfl, h1, bsm]
  simp only [List.map_cons, cJ]
  cases hc : vis p f s e.Node z with
  | none => rfl
  | some s1 =>
   obtain ⟨h2, h3⟩ := ho.out _ _ _ _ hs hu hc
   simp only [lD]
   rw [aP (by omega), bsm, cE pre suf e, bS pre e, bsm]
   exact ih (pre ++ [e]) k s1 (by omega) (by simp; omega) h2 (by omega)
theorem ln2 (hv : Vis p f rec) (ho : VisO p f) {fuel : Nat} {d : ScopeDef} (hd : okD d = true) (hf : 3000 ≤ fuel) {z : Int} (hz : 0 ≤ z ∧ z + 9 + 80 * f ≤ 100000) (suf : List ScopeRule) : ∀ (pre : List ScopeRule) (k : Nat) (s : VS), d.Rules = pre ++ suf → suf.length < k → pre.length + suf.length ≤ 3000000 → WS p s → unm s ≤ f →
  oG fuel rec d z k pre.length p.Free p.Nodes p.Defs p.Main s.sz s.met s.dfs = some (match cJ (vis p f) s (suf.map fun r => (r.Node, z + brs d.Chans r.Joins)) with
   | some s' => .inl (p.Free, p.Nodes, p.Defs, p.Main, s'.sz, s'.met, s'.dfs)
   | none => .inr (.inr (.inr flaw))) := by
 induction suf with
 | nil =>
  intro pre k s he hk _ hs hu
  obtain _ | k := k
  ·omega
  rw [oG, he, if_neg (by simp)]; rfl
 | cons e suf ih =>
  intro pre k s he hk hB hs hu
  obtain _ | k := k
  ·omega
  simp only [List.length_cons] at hk hB
  have hmem : e ∈ d.Rules := by rw [he]; simp
  obtain ⟨_, _, _, _, h5⟩ := dT hd
  obtain ⟨g1, g2⟩ := h5 e hmem
  have hb := rW g2
  rw [oG, he, if_pos (cB _ _ _), ← he, show idx d.Rules (pre.length : Int) = some e from by rw [he]; exact cA _ _ _, bsm,
   show (⟨e.At, e.Joins, e.Node⟩ : ScopeRule) = e from rfl, show (⟨d.Chans, d.Spots, d.Rules⟩ : ScopeDef) = d from rfl, aIX hf hd hmem, bsm, aP (by omega), bsm]
  have h1 := hv.run s e.Node (z + brs d.Chans e.Joins) hs hu (by omega) (by omega)
  rw [show (⟨⟨p.Free, p.Nodes, p.Defs, p.Main⟩, s.sz, s.met, s.dfs⟩ : Scope_looker) = ⟨p, s.sz, s.met, s.dfs⟩ from rfl, h1, bsm]
  simp only [List.map_cons, cJ]
  cases hc : vis p f s e.Node (z + brs d.Chans e.Joins) with
  | none => rfl
  | some s1 =>
   obtain ⟨h2, h3⟩ := ho.out _ _ _ _ hs hu hc
   simp only [lD]
   rw [aP (by omega), bsm, bS pre e, bsm]
   exact ih (pre ++ [e]) k s1 (by rw [he]; simp) (by omega) (by simp; omega) h2 (by omega)
end
theorem ln1 {fuel : Nat} (hf : 3000000 ≤ fuel) {op nn : Int} {ks : List Int} {z : Int} (suf : List ScopeExp) : ∀ (pre : List ScopeExp) (k : Nat), suf.length < k → pre.length + suf.length ≤ 3000000 → (∀ e ∈ suf, nE e ≤ 2000000) →
  nQ fuel z ⟨op, nn, pre ++ suf, ks⟩ k pre.length = some (if suf.all (okE z) = true then .inl () else .inr (.inr flaw)) := by
 induction suf with
 | nil =>
  intro pre k hk _ _
  obtain _ | k := k
  ·omega
  rw [nQ, if_neg (by simp), if_pos (by rfl)]
 | cons e suf ih =>
  intro pre k hk hB he
  obtain _ | k := k
  ·omega
  simp only [List.length_cons] at hk hB
  have hn := he e (.head _)
  rw [nQ, if_pos (cB _ _ _), show (e :: suf).all (okE z) = (okE z e && suf.all (okE z)) from rfl]
  dsimp only
  rw [cA, bsm, zX, exp_eq (by omega) (by omega), bsm]
  cases h1 : okE z e with
  | false => rfl
  | true =>
   rw [Bool.true_and, if_pos rfl]
   dsimp only
   rw [aP (by omega), bsm, cE pre suf e, bS pre e]
   exact ih (pre ++ [e]) k (by omega) (by simp; omega) (fun x hx => he x (.tail _ hx))
end Go.Proofs.YtmnbfgeljmhekaaGreat
set_option maxRecDepth 100000
namespace Go.Proofs.YtmnbfgeljmhekaaGreat
open Go.SX Go.SW Go.Dt
theorem aCH {s : VS} {p : ScopeProg} {n : Int} {z : Int} {dfs : List Bool} (h0 : 0 ≤ n) (hm : idx s.met n = some false) : unm ⟨s.sz.set n.toNat z, s.met.set n.toNat true, dfs⟩ + 1 = unm s := by
 obtain ⟨j, rfl, hj, hlt⟩ := uN hm
 simp only [unm, Int.toNat_natCast]
 rw [List.countP_set (h := hlt)]
 have hv : s.met[j] = false := by
  have := List.getElem?_eq_getElem hlt; rw [hj] at this; exact (Option.some.inj this).symm
 have hpos : 0 < s.met.countP (fun b => !b) := List.countP_pos_iff.2 ⟨s.met[j], List.getElem_mem hlt, by rw [hv]; rfl⟩
 rw [hv]; simp; omega
theorem rM {p : ScopeProg} {s : VS} (h : WS p s) {i j : Nat} {z : Int} : WS p ⟨s.sz.set i z, s.met.set i true, s.dfs⟩ ∧ WS p ⟨s.sz.set i z, s.met.set i true, s.dfs.set j true⟩ :=
 ⟨⟨by simp [h.sz], by simp [h.met], h.dfs⟩, ⟨by simp [h.sz], by simp [h.met], by simp [h.dfs]⟩⟩
theorem visO (p : ScopeProg) (f : Nat) : VisO p f := by
 induction f with
 | zero => exact ⟨fun s n z s' _ _ h => by simp [vis] at h⟩
 | succ f ih =>
  refine ⟨fun s n z s' hs hu h => ?_⟩
  simp only [vis] at h
  split at h
  ·rename_i hc
   obtain ⟨x, _, h⟩ := bind_some h
   have hun := fun dfs => aCH (p := p) (z := z) (dfs := dfs) hc.1 hc.2.2
   split at h
   ·split at h
    ·obtain ⟨d, _, h⟩ := bind_some h
     split at h
     ·obtain ⟨s1, e1, h⟩ := bind_some h
      obtain ⟨s2, e2, e3⟩ := bind_some h
      have := hun (s.dfs.set x.N.toNat true)
      obtain ⟨a1, a2⟩ := nP ih _ _ _ (rM hs).2 (by omega) e1
      obtain ⟨b1, b2⟩ := nP ih _ _ _ a1 (by omega) e2
      obtain ⟨c1, c2⟩ := nP ih _ _ _ b1 (by omega) e3
      exact ⟨c1, by omega⟩
     ·cases h
    ·have := hun s.dfs
     obtain ⟨a1, a2⟩ := nP ih _ _ _ (rM hs (j := 0)).1 (by omega) h
     exact ⟨a1, by omega⟩
   ·cases h
  ·cases h
def lW (fuel : Nat) (a0 : Scope_looker) (a1 a2 : Int) (y7 : ScopeNode) (x2 : Int) : Option (Scope_looker ⊕ Value) :=
 (bT (decide ((y7.Args.length : Int) = x2))).bind fun y26 =>
 match y26 with
 | Sum.inr pv15 => some (Sum.inr pv15)
 | Sum.inl _ =>
 (nQ fuel a2 y7 fuel 0).bind fun o => match o with
 | Sum.inr r => some r
 | Sum.inl _ =>
 (if y7.Op = 4 then
  (idx a0.defs y7.N).bind fun _ =>
  (idx a0.p.Defs y7.N).bind fun y30 =>
  (uQ fuel (⟨y30.Chans, y30.Spots, y30.Rules⟩ : ScopeDef)).bind fun y31 =>
  match y31 with
  | Sum.inr pv17 => (some (Sum.inr pv17)).bind fun r => some (Sum.inr r)
  | Sum.inl _ =>
  (uU (⟨y30.Chans, y30.Spots, y30.Rules⟩ : ScopeDef)).bind fun y32 =>
  (chk (a2 + y32)).bind fun z2 =>
  (oG fuel (fF fuel) y30 z2 fuel 0 a0.p.Free a0.p.Nodes a0.p.Defs a0.p.Main (a0.sizes.set a1.toNat a2) (a0.met.set a1.toNat true) (a0.defs.set y7.N.toNat true)).bind fun o => match o with
  | Sum.inr r => some r
  | Sum.inl (x17, x18, x19, x20, x21, x22, x23) =>
  mK (fF fuel) y30 z2 fuel 0 x17 x18 x19 x20 x21 x22 x23
 else
  some (Sum.inl (a2, a0.p.Free, a0.p.Nodes, a0.p.Defs, a0.p.Main, a0.sizes.set a1.toNat a2, a0.met.set a1.toNat true, a0.defs))).bind fun o => match o with
 | Sum.inr r => some r
 | Sum.inl (x9, x10, x11, x12, x13, x14, x15, x16) =>
 nH (fF fuel) y7 x9 fuel 0 x10 x11 x12 x13 x14 x15 x16
theorem own_eq {d : ScopeDef} (h : d.Chans.length ≤ 2000000) (h2 : d.Spots.length ≤ 2000000) : uU d = some (own d) := by
 rw [uU, aP (by omega), bsm]; rfl
section
variable {p : ScopeProg} {f m : Nat}
noncomputable def aU (p : ScopeProg) (f : Nat) (s : VS) (n z : Int) (x : ScopeNode) : Option VS :=
 if x.Op = 4 then
  (idx p.Defs x.N).bind fun d =>
  if okD d = true then
   (cJ (vis p f) ⟨s.sz.set n.toNat z, s.met.set n.toNat true, s.dfs.set x.N.toNat true⟩ (d.Rules.map fun r => (r.Node, z + own d + brs d.Chans r.Joins))).bind fun s1 =>
   (cJ (vis p f) s1 (d.Spots.map fun y => (y.Node, z + own d))).bind fun s2 =>
   cJ (vis p f) s2 (x.Kids.map fun k => (k, z + own d))
  else none
 else cJ (vis p f) ⟨s.sz.set n.toNat z, s.met.set n.toNat true, s.dfs⟩ (x.Kids.map fun k => (k, z))
theorem tail_bad {a0 : Scope_looker} {n z : Int} {x : ScopeNode} {x2 : Int} (h : ¬ (x.Args.length : Int) = x2) : lW m a0 n z x x2 = some (.inr flaw) := by
 rw [lW, decide_eq_false h, cV]; rfl
theorem tail_eq (hp : SmP p) (hm : 3000000 ≤ m) (hv : Vis p f (fF m)) {s : VS} (hs : WS p s) {n z : Int} {x : ScopeNode} (hx : x ∈ p.Nodes) (hun : ∀ dfs, unm ⟨s.sz.set n.toNat z, s.met.set n.toNat true, dfs⟩ ≤ f) (hz : 0 ≤ z ∧ z + 69 + 80 * f ≤ 100000)
  (hN : x.Op = 4 → 0 ≤ x.N ∧ x.N < (p.Defs.length : Int)) {x2 : Int} (h2 : (x.Args.length : Int) = x2) :
  lW m ⟨p, s.sz, s.met, s.dfs⟩ n z x x2 = some (lD p (if x.Args.all (okE z) = true then aU p f s n z x else none)) := by
 obtain ⟨op, nn, ar, ks⟩ := x
 obtain ⟨g1, g2, g3⟩ := hp.args _ hx
 dsimp only at g1 g2 g3 h2 hN
 have ho := visO p f
 rw [lW, decide_eq_true h2, eV, bsm]
 dsimp only
 have e1 := ln1 (fuel := m) hm (op := op) (nn := nn) (ks := ks) (z := z) ar [] m (by omega) (by simp; omega) g3
 simp only [List.nil_append, List.length_nil, Int.natCast_zero] at e1
 rw [e1, bsm]
 cases hall : ar.all (okE z) with
 | false => rfl
 | true =>
  rw [if_pos rfl, if_pos rfl]
  dsimp only
  by_cases h4 : op = 4
  ·subst h4
   obtain ⟨n0, n1⟩ := hN rfl
   obtain ⟨d, hd⟩ := cH n0 n1
   obtain ⟨b, hb⟩ := cH (xs := s.dfs) n0 (by rw [hs.dfs]; exact n1)
   have hsm := hp.dfs d (dU hd)
   have hres : aU p f s n z ⟨4, nn, ar, ks⟩ = if okD d = true then
     (cJ (vis p f) ⟨s.sz.set n.toNat z, s.met.set n.toNat true, s.dfs.set nn.toNat true⟩ (d.Rules.map fun r => (r.Node, z + own d + brs d.Chans r.Joins))).bind fun s1 =>
     (cJ (vis p f) s1 (d.Spots.map fun y => (y.Node, z + own d))).bind fun s2 => cJ (vis p f) s2 (ks.map fun k => (k, z + own d))
     else none := by
    rw [aU, if_pos rfl]; dsimp only; rw [hd, bsm]
   rw [hres, if_pos rfl, hb, bsm, hd, bsm, show (⟨d.Chans, d.Spots, d.Rules⟩ : ScopeDef) = d from rfl, def_eq hm hsm, bsm]
   cases hok : okD d with
   | false => rfl
   | true =>
    rw [if_pos rfl, if_pos rfl]
    dsimp only
    obtain ⟨k1, k2, k3, _, _⟩ := dT hok
    have hown : 0 ≤ own d ∧ own d ≤ 60 := by unfold own; omega
    rw [own_eq (by omega) (by omega), bsm, aP (by omega), bsm]
    have e2 := ln2 hv ho (fuel := m) hok (by omega) (z := z + own d) ⟨by omega, by omega⟩ d.Rules [] m ⟨s.sz.set n.toNat z, s.met.set n.toNat true, s.dfs.set nn.toNat true⟩ rfl (by omega) (by simp; omega) (rM hs).2 (hun _)
    simp only [List.length_nil, Int.natCast_zero] at e2
    rw [e2, bsm]
    cases c2 : cJ (vis p f) ⟨s.sz.set n.toNat z, s.met.set n.toNat true, s.dfs.set nn.toNat true⟩ (d.Rules.map fun r => (r.Node, z + own d + brs d.Chans r.Joins)) with
    | none => rfl
    | some s1 =>
     obtain ⟨w1, u1⟩ := nP ho _ _ _ (rM hs).2 (hun _) c2
     have hu1 := hun (s.dfs.set nn.toNat true)
     dsimp only
     rw [bsm]
     have e3 := ln3 hv ho (ch := d.Chans) (ru := d.Rules) (z := z + own d) ⟨by omega, by omega⟩ d.Spots [] m s1 (by omega) (by simp; omega) w1 (by omega)
     simp only [List.nil_append, List.length_nil, Int.natCast_zero] at e3
     rw [show (⟨d.Chans, d.Spots, d.Rules⟩ : ScopeDef) = d from rfl] at e3
     rw [e3, bsm]
     cases c3 : cJ (vis p f) s1 (d.Spots.map fun y => (y.Node, z + own d)) with
     | none => rfl
     | some s2 =>
      obtain ⟨w2, u2⟩ := nP ho _ _ _ w1 (by omega) c3
      dsimp only
      rw [bsm]
      have e4 := ln4 hv ho (op := 4) (nn := nn) (ar := ar) (z := z + own d) ⟨by omega, by omega⟩ ks [] m s2 (by omega) (by simp; omega) w2 (by omega)
      simp only [List.nil_append, List.length_nil, Int.natCast_zero] at e4
      exact e4
  ·rw [if_neg h4, bsm]
   dsimp only
   have hres : aU p f s n z ⟨op, nn, ar, ks⟩ = cJ (vis p f) ⟨s.sz.set n.toNat z, s.met.set n.toNat true, s.dfs⟩ (ks.map fun k => (k, z)) := by
    rw [aU, if_neg h4]
   rw [hres]
   have e4 := ln4 hv ho (op := op) (nn := nn) (ar := ar) (z := z) ⟨by omega, by omega⟩ ks [] m ⟨s.sz.set n.toNat z, s.met.set n.toNat true, s.dfs⟩ (by omega) (by simp; omega) (rM hs (j := 0)).1 (hun _)
   simp only [List.nil_append, List.length_nil, Int.natCast_zero] at e4
   exact e4
theorem aGh {s : VS} (hs : WS p s) {n z : Int} (h : ¬ (0 ≤ n ∧ n < (p.Nodes.length : Int) ∧ idx s.met n = some false)) : fF (m + 1) ⟨p, s.sz, s.met, s.dfs⟩ n z = some (.inr flaw) := by
 rw [fF]
 by_cases h0 : 0 ≤ n
 ·rw [if_pos h0]
  by_cases h1 : n < (p.Nodes.length : Int)
  ·obtain ⟨b, hb⟩ := cH (xs := s.met) h0 (by rw [hs.met]; exact h1)
   dsimp only
   rw [if_pos h1, hb, bsm]
   cases b with
   | false => exact absurd ⟨h0, h1, hb⟩ h
   | true => rfl
  ·dsimp only
   rw [if_neg h1, cV]; rfl
 ·rw [if_neg h0, cV]; rfl
end
end Go.Proofs.YtmnbfgeljmhekaaGreat
set_option maxRecDepth 100000
namespace Go.Proofs.YtmnbfgeljmhekaaGreat
open Go.SX Go.SW Go.Dt
theorem aHu {op : Int} (h : op = 1 ∨ op = 7) : kV op = some (.iface 197 (.int .i64 0)) := by
 rcases h with rfl | rfl <;> rfl
theorem aHQ : kV 3 = some (.iface 197 (.int .i64 2)) := rfl
theorem aHW : kV 2 = some (.iface 190 (.agg ⟨[]⟩)) := rfl
theorem aGQ : kV 5 = some (.iface 193 (.agg ⟨[]⟩)) := rfl
theorem aJp {op : Int} (h : op = 6 ∨ op = 8) : kV op = some (.iface 191 (.agg ⟨[]⟩)) := by
 rcases h with rfl | rfl <;> rfl
theorem aHd : kV 4 = some (.iface 192 (.agg ⟨[]⟩)) := rfl
theorem aID {op : Int} (h : shp op = none) : kV op = some .nilIface := by
 unfold shp at h
 rw [kV]
 split at h; · cases h
 split at h; · cases h
 split at h; · cases h
 split at h; · cases h
 split at h; · cases h
 split at h; · cases h
 rename_i h1 h2 h3 h4 h5 h6
 rw [if_neg (by omega), bsm, decide_eq_false (by omega), cond_false, if_neg h2, if_neg h3, if_neg h4, if_neg (by omega), bsm, decide_eq_false (by omega), cond_false, if_neg h6]
def jC (m : Nat) (a0 : Scope_looker) (a1 a2 : Int) (y7 : ScopeNode) (y8 : Value) : Option (Scope_looker ⊕ Value) :=
 ((iT y8).bind fun x1 =>
 bif !x1 then
  (mN y8).bind fun y9 =>
  (bT (decide ((y7.Kids.length : Int) = y9))).bind fun y10 =>
  match y10 with
  | Sum.inr pv4 => (some (Sum.inr pv4)).bind fun r => some (Sum.inr r)
  | Sum.inl _ =>
  some (Sum.inl ())
 else
  (bT false).bind fun y11 =>
  match y11 with
  | Sum.inr pv5 => (some (Sum.inr pv5)).bind fun r => some (Sum.inr r)
  | Sum.inl _ =>
  some (Sum.inl ())).bind fun o => match o with
 | Sum.inr r => some r
 | Sum.inl _ =>
 ((eU 190 (.agg #[]) y8).bind fun y12 =>
 match y12 with
 | (_, x3) =>
 bif x3 then
  if 0 ≤ y7.N then
   (bT (decide (y7.N < a2))).bind fun y13 =>
   match y13 with
   | Sum.inr pv6 => (some (Sum.inr pv6)).bind fun r => some (Sum.inr r)
   | Sum.inl _ =>
   some (Sum.inl (min (y7.Args.length : Int) 3))
  else
   (bT false).bind fun y14 =>
   match y14 with
   | Sum.inr pv7 => (some (Sum.inr pv7)).bind fun r => some (Sum.inr r)
   | Sum.inl _ =>
   some (Sum.inl (min (y7.Args.length : Int) 3))
 else
  (eU 191 (.agg #[]) y8).bind fun y15 =>
  match y15 with
  | (_, x4) =>
  bif x4 then
   if 0 ≤ y7.N then
    (bT (decide (y7.N < a2))).bind fun y16 =>
    match y16 with
    | Sum.inr pv8 => (some (Sum.inr pv8)).bind fun r => some (Sum.inr r)
    | Sum.inl _ =>
    some (Sum.inl 0)
   else
    (bT false).bind fun y17 =>
    match y17 with
    | Sum.inr pv9 => (some (Sum.inr pv9)).bind fun r => some (Sum.inr r)
    | Sum.inl _ =>
    some (Sum.inl 0)
  else
   (eU 192 (.agg #[]) y8).bind fun y18 =>
   match y18 with
   | (_, x5) =>
   bif x5 then
    if 0 ≤ y7.N then
     if y7.N < (a0.p.Defs.length : Int) then
      (idx a0.defs y7.N).bind fun y19 =>
      (bT (!y19)).bind fun y20 =>
      match y20 with
      | Sum.inr pv10 => (some (Sum.inr pv10)).bind fun r => some (Sum.inr r)
      | Sum.inl _ =>
      some (Sum.inl 0)
     else
      (bT false).bind fun y21 =>
      match y21 with
      | Sum.inr pv11 => (some (Sum.inr pv11)).bind fun r => some (Sum.inr r)
      | Sum.inl _ =>
      some (Sum.inl 0)
    else
     (bT false).bind fun y22 =>
     match y22 with
     | Sum.inr pv12 => (some (Sum.inr pv12)).bind fun r => some (Sum.inr r)
     | Sum.inl _ =>
     some (Sum.inl 0)
   else
    (eU 193 (.agg #[]) y8).bind fun y23 =>
    match y23 with
    | (_, x6) =>
    bif x6 then
     (bT (decide (y7.N = 0))).bind fun y24 =>
     match y24 with
     | Sum.inr pv13 => (some (Sum.inr pv13)).bind fun r => some (Sum.inr r)
     | Sum.inl _ =>
     some (Sum.inl 1)
    else
     (bT (decide (y7.N = 0))).bind fun y25 =>
     match y25 with
     | Sum.inr pv14 => (some (Sum.inr pv14)).bind fun r => some (Sum.inr r)
     | Sum.inl _ =>
     some (Sum.inl 0)).bind fun o => match o with
 | Sum.inr r => some r
 | Sum.inl x2 => lW m a0 a1 a2 y7 x2
section
variable {p : ScopeProg} {f m : Nat}
theorem rR {s : VS} (hs : WS p s) {n z : Int} {x : ScopeNode} (h : 0 ≤ n ∧ n < (p.Nodes.length : Int) ∧ idx s.met n = some false) (hx : idx p.Nodes n = some x) {v : Value} (hv : kV x.Op = some v) :
  fF (m + 1) ⟨p, s.sz, s.met, s.dfs⟩ n z = jC m ⟨p, s.sz, s.met, s.dfs⟩ n z x v := by
 obtain ⟨h0, h1, h2⟩ := h
 obtain ⟨b, hb⟩ := cH (xs := s.sz) h0 (by rw [hs.sz]; exact h1)
 rw [fF, if_pos h0]
 dsimp only
 rw [if_pos h1, h2, bsm, show (!false) = true from rfl, eV, bsm, bsm]
 dsimp only
 rw [bsm, hb, bsm, hx, bsm, hv, bsm]
 rfl
theorem mid_nil {a0 : Scope_looker} {n z : Int} {x : ScopeNode} : jC m a0 n z x .nilIface = some (.inr flaw) := rfl
theorem tC {a0 : Scope_looker} {n z : Int} {x : ScopeNode} {v : Value} {k : Int} (hn : iT v = some false) (hk : mN v = some k) (h : ¬ (x.Kids.length : Int) = k) : jC m a0 n z x v = some (.inr flaw) := by
 rw [jC, hn, bsm, show (!false) = true from rfl, cond_true, hk, bsm, decide_eq_false h, cV]; rfl
theorem aFH {a0 : Scope_looker} {n z : Int} {x : ScopeNode} {k : Int} (h : (x.Kids.length : Int) = k) : jC m a0 n z x (.iface 197 (.int .i64 k)) = if x.N = 0 then lW m a0 n z x 0 else some (.inr flaw) := by
 rw [jC, show iT (.iface 197 (.int .i64 k)) = some false from rfl, bsm, show (!false) = true from rfl, cond_true, show mN (.iface 197 (.int .i64 k)) = some k from rfl, bsm, decide_eq_true h, eV, bsm, bsm]
 dsimp only
 rw [show eU 190 (.agg #[]) (.iface 197 (.int .i64 k)) = some (.agg #[], false) from rfl, bsm]
 dsimp only
 rw [cond_false, show eU 191 (.agg #[]) (.iface 197 (.int .i64 k)) = some (.agg #[], false) from rfl, bsm]
 dsimp only
 rw [cond_false, show eU 192 (.agg #[]) (.iface 197 (.int .i64 k)) = some (.agg #[], false) from rfl, bsm]
 dsimp only
 rw [cond_false, show eU 193 (.agg #[]) (.iface 197 (.int .i64 k)) = some (.agg #[], false) from rfl, bsm]
 dsimp only
 rw [cond_false]
 by_cases h0 : x.N = 0
 ·rw [decide_eq_true h0, eV, if_pos h0]; rfl
 ·rw [decide_eq_false h0, cV, if_neg h0]; rfl
theorem aHP {a0 : Scope_looker} {n z : Int} {x : ScopeNode} (h : (x.Kids.length : Int) = 0) : jC m a0 n z x (.iface 190 (.agg ⟨[]⟩)) = if 0 ≤ x.N ∧ x.N < z then lW m a0 n z x (min (x.Args.length : Int) 3) else some (.inr flaw) := by
 rw [jC, show iT (.iface 190 (.agg ⟨[]⟩)) = some false from rfl, bsm, show (!false) = true from rfl, cond_true, show mN (.iface 190 (.agg ⟨[]⟩)) = some 0 from rfl, bsm, decide_eq_true h, eV, bsm, bsm]
 dsimp only
 rw [show eU 190 (.agg #[]) (.iface 190 (.agg ⟨[]⟩)) = some (.agg #[], true) from rfl, bsm]
 dsimp only
 rw [cond_true]
 by_cases h0 : 0 ≤ x.N
 ·rw [if_pos h0]
  by_cases h1 : x.N < z
  ·rw [decide_eq_true h1, eV, if_pos ⟨h0, h1⟩]; rfl
  ·rw [decide_eq_false h1, cV, if_neg (fun q => h1 q.2)]; rfl
 ·rw [if_neg h0, cV, if_neg (fun q => h0 q.1)]; rfl
theorem aH8 {a0 : Scope_looker} {n z : Int} {x : ScopeNode} (h : (x.Kids.length : Int) = 1) : jC m a0 n z x (.iface 191 (.agg ⟨[]⟩)) = if 0 ≤ x.N ∧ x.N < z then lW m a0 n z x 0 else some (.inr flaw) := by
 rw [jC, show iT (.iface 191 (.agg ⟨[]⟩)) = some false from rfl, bsm, show (!false) = true from rfl, cond_true, show mN (.iface 191 (.agg ⟨[]⟩)) = some 1 from rfl, bsm, decide_eq_true h, eV, bsm, bsm]
 dsimp only
 rw [show eU 190 (.agg #[]) (.iface 191 (.agg ⟨[]⟩)) = some (.agg #[], false) from rfl, bsm]
 dsimp only
 rw [cond_false, show eU 191 (.agg #[]) (.iface 191 (.agg ⟨[]⟩)) = some (.agg #[], true) from rfl, bsm]
 dsimp only
 rw [cond_true]
 by_cases h0 : 0 ≤ x.N
 ·rw [if_pos h0]
  by_cases h1 : x.N < z
  ·rw [decide_eq_true h1, eV, if_pos ⟨h0, h1⟩]; rfl
  ·rw [decide_eq_false h1, cV, if_neg (fun q => h1 q.2)]; rfl
 ·rw [if_neg h0, cV, if_neg (fun q => h0 q.1)]; rfl
theorem aHg {a0 : Scope_looker} {n z : Int} {x : ScopeNode} (h : (x.Kids.length : Int) = 2) : jC m a0 n z x (.iface 193 (.agg ⟨[]⟩)) = if x.N = 0 then lW m a0 n z x 1 else some (.inr flaw) := by
 rw [jC, show iT (.iface 193 (.agg ⟨[]⟩)) = some false from rfl, bsm, show (!false) = true from rfl, cond_true, show mN (.iface 193 (.agg ⟨[]⟩)) = some 2 from rfl, bsm, decide_eq_true h, eV, bsm, bsm]
 dsimp only
 rw [show eU 190 (.agg #[]) (.iface 193 (.agg ⟨[]⟩)) = some (.agg #[], false) from rfl, bsm]
 dsimp only
 rw [cond_false, show eU 191 (.agg #[]) (.iface 193 (.agg ⟨[]⟩)) = some (.agg #[], false) from rfl, bsm]
 dsimp only
 rw [cond_false, show eU 192 (.agg #[]) (.iface 193 (.agg ⟨[]⟩)) = some (.agg #[], false) from rfl, bsm]
 dsimp only
 rw [cond_false, show eU 193 (.agg #[]) (.iface 193 (.agg ⟨[]⟩)) = some (.agg #[], true) from rfl, bsm]
 dsimp only
 rw [cond_true]
 by_cases h0 : x.N = 0
 ·rw [decide_eq_true h0, eV, if_pos h0]; rfl
 ·rw [decide_eq_false h0, cV, if_neg h0]; rfl
theorem aI7 {s : VS} (hs : WS p s) {n z : Int} {x : ScopeNode} (h : (x.Kids.length : Int) = 1) : jC m ⟨p, s.sz, s.met, s.dfs⟩ n z x (.iface 192 (.agg ⟨[]⟩)) = if 0 ≤ x.N ∧ x.N < (p.Defs.length : Int) ∧ idx s.dfs x.N = some false then lW m ⟨p, s.sz, s.met, s.dfs⟩ n z x 0 else some (.inr flaw) := by
 rw [jC, show iT (.iface 192 (.agg ⟨[]⟩)) = some false from rfl, bsm, show (!false) = true from rfl, cond_true, show mN (.iface 192 (.agg ⟨[]⟩)) = some 1 from rfl, bsm, decide_eq_true h, eV, bsm, bsm]
 dsimp only
 rw [show eU 190 (.agg #[]) (.iface 192 (.agg ⟨[]⟩)) = some (.agg #[], false) from rfl, bsm]
 dsimp only
 rw [cond_false, show eU 191 (.agg #[]) (.iface 192 (.agg ⟨[]⟩)) = some (.agg #[], false) from rfl, bsm]
 dsimp only
 rw [cond_false, show eU 192 (.agg #[]) (.iface 192 (.agg ⟨[]⟩)) = some (.agg #[], true) from rfl, bsm]
 dsimp only
 rw [cond_true]
 by_cases h0 : 0 ≤ x.N
 ·rw [if_pos h0]
  by_cases h1 : x.N < (p.Defs.length : Int)
  ·obtain ⟨b, hb⟩ := cH (xs := s.dfs) h0 (by rw [hs.dfs]; exact h1)
   rw [if_pos h1, hb, bsm]
   cases b with
   | false => rw [if_pos ⟨h0, h1, rfl⟩]; rfl
   | true => rw [if_neg (fun q => by cases q.2.2)]; rfl
  ·rw [if_neg h1, cV, if_neg (fun q => h1 q.2.1)]; rfl
 ·rw [if_neg h0, cV, if_neg (fun q => h0 q.1)]; rfl
theorem vis_go {s : VS} {n z : Int} {x : ScopeNode} (h : 0 ≤ n ∧ n < (p.Nodes.length : Int) ∧ idx s.met n = some false) (hx : idx p.Nodes n = some x) : (okN p s x z → vis p (f + 1) s n z = aU p f s n z x) ∧ (¬ okN p s x z → vis p (f + 1) s n z = none) := by
 constructor
 ·intro ho
  simp only [vis]
  rw [if_pos h, hx, bsm, if_pos ho]; rfl
 ·intro ho
  simp only [vis]
  rw [if_pos h, hx, bsm, if_neg ho]
theorem node_go (hp : SmP p) (hm : 3000000 ≤ m) (hv : Vis p f (fF m)) {s : VS} (hs : WS p s) {n z : Int} (hu : unm s ≤ f + 1) (hz : 0 ≤ z ∧ z + 69 + 80 * f ≤ 100000) (h : 0 ≤ n ∧ n < (p.Nodes.length : Int) ∧ idx s.met n = some false) :
  fF (m + 1) ⟨p, s.sz, s.met, s.dfs⟩ n z = some (lD p (vis p (f + 1) s n z)) := by
 obtain ⟨x, hx⟩ := cH h.1 h.2.1
 obtain ⟨v1, v2⟩ := vis_go (f := f) (z := z) h hx
 have hun : ∀ dfs, unm ⟨s.sz.set n.toNat z, s.met.set n.toNat true, dfs⟩ ≤ f := fun dfs => by
  have := aCH (p := p) (z := z) (dfs := dfs) h.1 h.2.2; omega
 have hN : ∀ {c k : Nat}, shp x.Op = some (k, c) → okM p s x z c → x.Op = 4 → 0 ≤ x.N ∧ x.N < (p.Defs.length : Int) := fun {c k} h1 h2 h4 => by
  rw [h4] at h1
  have : (1, 4) = (k, c) := Option.some.inj h1
  cases this; exact ⟨h2.1.1, h2.1.2.1⟩
 have fin : ∀ {k c : Nat} (x2 : Int), shp x.Op = some (k, c) → (x.Kids.length : Int) = k → ((x.Args.length : Int) = x2 → okM p s x z c) → (okM p s x z c → (x.Args.length : Int) = x2) → lW m ⟨p, s.sz, s.met, s.dfs⟩ n z x x2 = some (lD p (vis p (f + 1) s n z)) := fun {k c} x2 h1 h2 h3 h4 => by
  by_cases ha : (x.Args.length : Int) = x2
  ·rw [tail_eq hp hm hv hs (dU hx) hun hz (hN h1 (h3 ha)) ha]
   congr 2
   by_cases hall : x.Args.all (okE z) = true
   ·rw [if_pos hall, v1 ⟨⟨k, c, h1, by omega, h3 ha⟩, hall⟩]
   ·rw [if_neg hall, v2 (fun q => hall q.2)]
  ·rw [tail_bad ha, v2]; rfl
   rintro ⟨⟨k', c', g1, _, g3⟩, _⟩
   rw [h1] at g1; cases g1
   exact ha (h4 g3)
 have bad : ∀ {k c : Nat}, shp x.Op = some (k, c) → ¬ ((x.Kids.length : Int) = k ∧ okM p s x z c) → some (lD p (vis p (f + 1) s n z)) = some (.inr flaw) := fun {k c} h1 h2 => by
  rw [v2]; rfl
  rintro ⟨⟨k', c', g1, g2, g3⟩, _⟩
  rw [h1] at g1; cases g1
  exact h2 ⟨by omega, g3⟩
 by_cases o1 : x.Op = 1 ∨ x.Op = 7
 ·have hsh : shp x.Op = some (0, 0) := by unfold shp; rw [if_pos o1]
  rw [rR hs h hx (aHu o1)]
  by_cases hk : (x.Kids.length : Int) = 0
  ·rw [aFH hk]
   by_cases hn : x.N = 0
   ·rw [if_pos hn]; exact fin 0 hsh hk (fun q => ⟨hn, by omega⟩) (fun q => by have := q.2; omega)
   ·rw [if_neg hn, bad hsh (fun q => hn q.2.1)]
  ·rw [tC rfl rfl hk, bad hsh (fun q => hk q.1)]
 ·by_cases o3 : x.Op = 3
  ·have hsh : shp x.Op = some (2, 0) := by unfold shp; rw [if_neg o1, if_pos o3]
   rw [rR hs h hx (by rw [o3]; exact aHQ)]
   by_cases hk : (x.Kids.length : Int) = 2
   ·rw [aFH hk]
    by_cases hn : x.N = 0
    ·rw [if_pos hn]; exact fin 0 hsh hk (fun q => ⟨hn, by omega⟩) (fun q => by have := q.2; omega)
    ·rw [if_neg hn, bad hsh (fun q => hn q.2.1)]
   ·rw [tC rfl rfl hk, bad hsh (fun q => hk q.1)]
  ·by_cases o2 : x.Op = 2
   ·have hsh : shp x.Op = some (0, 1) := by unfold shp; rw [if_neg o1, if_neg o3, if_pos o2]
    rw [rR hs h hx (by rw [o2]; exact aHW)]
    by_cases hk : (x.Kids.length : Int) = 0
    ·rw [aHP hk]
     by_cases hn : 0 ≤ x.N ∧ x.N < z
     ·rw [if_pos hn]; exact fin _ hsh hk (fun q => ⟨hn, by omega⟩) (fun q => by have := q.2; omega)
     ·rw [if_neg hn, bad hsh (fun q => hn q.2.1)]
    ·rw [tC rfl rfl hk, bad hsh (fun q => hk q.1)]
   ·by_cases o5 : x.Op = 5
    ·have hsh : shp x.Op = some (2, 2) := by unfold shp; rw [if_neg o1, if_neg o3, if_neg o2, if_pos o5]
     rw [rR hs h hx (by rw [o5]; exact aGQ)]
     by_cases hk : (x.Kids.length : Int) = 2
     ·rw [aHg hk]
      by_cases hn : x.N = 0
      ·rw [if_pos hn]; exact fin 1 hsh hk (fun q => ⟨hn, by omega⟩) (fun q => by have := q.2; omega)
      ·rw [if_neg hn, bad hsh (fun q => hn q.2.1)]
     ·rw [tC rfl rfl hk, bad hsh (fun q => hk q.1)]
    ·by_cases o6 : x.Op = 6 ∨ x.Op = 8
     ·have hsh : shp x.Op = some (1, 3) := by unfold shp; rw [if_neg o1, if_neg o3, if_neg o2, if_neg o5, if_pos o6]
      rw [rR hs h hx (aJp o6)]
      by_cases hk : (x.Kids.length : Int) = 1
      ·rw [aH8 hk]
       by_cases hn : 0 ≤ x.N ∧ x.N < z
       ·rw [if_pos hn]; exact fin 0 hsh hk (fun q => ⟨hn, by omega⟩) (fun q => by have := q.2; omega)
       ·rw [if_neg hn, bad hsh (fun q => hn q.2.1)]
      ·rw [tC rfl rfl hk, bad hsh (fun q => hk q.1)]
     ·by_cases o4 : x.Op = 4
      ·have hsh : shp x.Op = some (1, 4) := by unfold shp; rw [if_neg o1, if_neg o3, if_neg o2, if_neg o5, if_neg o6, if_pos o4]
       rw [rR hs h hx (by rw [o4]; exact aHd)]
       by_cases hk : (x.Kids.length : Int) = 1
       ·rw [aI7 hs hk]
        by_cases hn : 0 ≤ x.N ∧ x.N < (p.Defs.length : Int) ∧ idx s.dfs x.N = some false
        ·rw [if_pos hn]; exact fin 0 hsh hk (fun q => ⟨hn, by omega⟩) (fun q => by have := q.2; omega)
        ·rw [if_neg hn, bad hsh (fun q => hn q.2.1)]
       ·rw [tC rfl rfl hk, bad hsh (fun q => hk q.1)]
      ·have hsh : shp x.Op = none := by unfold shp; rw [if_neg o1, if_neg o3, if_neg o2, if_neg o5, if_neg o6, if_neg o4]
       rw [rR hs h hx (aID hsh), mid_nil, v2]; rfl
       rintro ⟨⟨k', c', g1, _⟩, _⟩
       rw [hsh] at g1; cases g1
end
theorem zY {p : ScopeProg} {f : Nat} {s : VS} {n z : Int} (h : ¬ (0 ≤ n ∧ n < (p.Nodes.length : Int) ∧ idx s.met n = some false)) : vis p f s n z = none := by
 cases f with
 | zero => rfl
 | succ f => simp only [vis]; rw [if_neg h]
theorem aEV {s : VS} {n : Int} (h : idx s.met n = some false) : 0 < unm s := List.countP_pos_iff.2 ⟨false, dU h, rfl⟩
theorem pvis {p : ScopeProg} (hp : SmP p) {b : Nat} (hb : 3000000 ≤ b) (f : Nat) : Vis p f (fF (b + f + 1)) := by
 induction f with
 | zero =>
  refine ⟨fun s n z hs hu h0 h1 => ?_⟩
  have h : ¬ (0 ≤ n ∧ n < (p.Nodes.length : Int) ∧ idx s.met n = some false) := fun q => by have := aEV q.2.2; omega
  rw [aGh hs h, zY h]; rfl
 | succ f ih =>
  refine ⟨fun s n z hs hu h0 h1 => ?_⟩
  by_cases h : 0 ≤ n ∧ n < (p.Nodes.length : Int) ∧ idx s.met n = some false
  ·exact node_go hp (m := b + f + 1) (by omega) ih hs hu ⟨h0, by omega⟩ h
  ·rw [aGh hs h, zY h]; rfl
end Go.Proofs.YtmnbfgeljmhekaaGreat
set_option maxRecDepth 100000
namespace Go.Proofs.YtmnbfgeljmhekaaGreat
open Go.SX Go.SW Go.Dt
def ob (l : List Bool) : List Int := l.map fun b => if b = true then 1 else 0
theorem jJ {l : List Bool} : (ob l).length = l.length := by simp [ob]
theorem aCK {l : List Bool} {i : Int} {b : Bool} (h : idx l i = some b) : idx (ob l) i = some (if b = true then 1 else 0) := by
 obtain ⟨j, rfl, hj, _⟩ := uN h
 exact bE (by simp [ob, hj])
theorem ob_set {l : List Bool} {i : Nat} : ob (l.set i true) = (ob l).set i 1 := by simp [ob, List.map_set]
theorem ob_rep {n : Nat} : ob (List.replicate n false) = List.replicate n 0 := by simp [ob]
def ROut (p : ScopeProg) (o : Option VS) (L : Ref03_look) : Prop := match o with
 | some s => L = ⟨p, s.sz, ob s.met, ob s.dfs, false⟩
 | none => L.bad = true ∧ L.owner.length = p.Nodes.length ∧ L.users.length = p.Defs.length
structure RVis (p : ScopeProg) (f : Nat) (rec : Ref03_look → Int → Int → Option Ref03_look) : Prop where
 run : ∀ (s : VS) (n z : Int), WS p s → unm s ≤ f → 0 ≤ z → z + 80 * f ≤ 100000 → ∃ L, rec ⟨p, s.sz, ob s.met, ob s.dfs, false⟩ n z = some L ∧ ROut p (vis p f s n z) L
theorem aIO {ch : List ScopeChan} {sp : List ScopeSpot} {ru : List ScopeRule} {a nd : Int} (suf : List Int) : ∀ (pre : List Int) (k : Nat) (w : Int), suf.length < k → pre.length + suf.length ≤ 1000 → 0 ≤ w → w ≤ 100000 → (∀ c ∈ suf, ∃ y, idx ch c = some y ∧ 0 ≤ y.Many ∧ y.Many ≤ 3) → w + 3 * suf.length ≤ 100000 →
  pF ⟨ch, sp, ru⟩ ⟨a, pre ++ suf, nd⟩ k w pre.length = some (w + brs ch suf) := by
 induction suf with
 | nil =>
  intro pre k w hk _ _ _ _ _
  obtain _ | k := k
  ·omega
  rw [pF, if_neg (by simp)]; simp [brs]
 | cons e suf ih =>
  intro pre k w hk hB h0 h1 hm hw
  obtain _ | k := k
  ·omega
  simp only [List.length_cons] at hk hB hw
  obtain ⟨y, g1, g2, g3⟩ := hm e (.head _)
  rw [pF, if_pos (cB _ _ _)]
  dsimp only
  rw [cA, bsm, g1, bsm, aP (by omega), bsm, aP (by omega), bsm, cE pre suf e, bS pre e, ih (pre ++ [e]) k _ (by omega) (by simp; omega) (by omega) (by omega) (fun c hc => hm c (.tail _ hc)) (by omega)]
  simp only [brs, g1]; congr 1; omega
theorem more_eq {fuel : Nat} {d : ScopeDef} {r : ScopeRule} (hf : 3000 ≤ fuel) (h : okD d = true) (hr : r ∈ d.Rules) : xK fuel d r = some (brs d.Chans r.Joins) := by
 obtain ⟨_, _, _, _, h5⟩ := dT h
 obtain ⟨g1, g2⟩ := h5 r hr
 have := aIO (ch := d.Chans) (sp := d.Spots) (ru := d.Rules) (a := r.At) (nd := r.Node) r.Joins [] fuel 0 (by omega) (by simp; omega) (by omega) (by omega) g2 (by omega)
 simp only [List.nil_append, List.length_nil, Int.natCast_zero] at this
 rw [xK, this, bsm]; congr 1; omega
theorem qV {rec : Ref03_look → Int → Int → Option Ref03_look} {y : ScopeNode} {z i : Int} {k : Nat} {a : List ByteArray} {b : List ScopeNode} {c : List ScopeDef} {d : Int} {sz ow us : List Int} :
  jH rec y z (k + 1) i a b c d sz ow us true = some ⟨⟨a, b, c, d⟩, sz, ow, us, true⟩ := by
 rw [jH]; split
 ·rw [cond_true]
 ·rfl
theorem d1_bad {fuel : Nat} {rec : Ref03_look → Int → Int → Option Ref03_look} {y : ScopeDef} {z i : Int} {k : Nat} {a : List ByteArray} {b : List ScopeNode} {c : List ScopeDef} {d : Int} {sz ow us : List Int} :
  lP fuel rec y z (k + 1) i a b c d sz ow us true = some (a, b, c, d, sz, ow, us, true) := by
 rw [lP]; split
 ·rw [cond_true]
 ·rfl
theorem aBu {rec : Ref03_look → Int → Int → Option Ref03_look} {y : ScopeDef} {z i : Int} {k : Nat} {a : List ByteArray} {b : List ScopeNode} {c : List ScopeDef} {d : Int} {sz ow us : List Int} :
  lV rec y z (k + 1) i a b c d sz ow us true = some ⟨⟨a, b, c, d⟩, sz, ow, us, true⟩ := by
 rw [lV]; split
 ·rw [cond_true]
 ·rfl
section
variable {p : ScopeProg} {f : Nat} {rec : Ref03_look → Int → Int → Option Ref03_look}
theorem rk2 (hv : RVis p f rec) {op nn : Int} {ar : List ScopeExp} {z : Int} (hz : 0 ≤ z ∧ z + 80 * f ≤ 100000) (suf : List Int) : ∀ (pre : List Int) (k : Nat) (s : VS), suf.length < k → pre.length + suf.length ≤ 3000000 → WS p s → unm s ≤ f →
  ∃ L, jH rec ⟨op, nn, ar, pre ++ suf⟩ z k pre.length p.Free p.Nodes p.Defs p.Main s.sz (ob s.met) (ob s.dfs) false = some L ∧ ROut p (cJ (vis p f) s (suf.map fun k => (k, z))) L := by
 induction suf with
 | nil =>
  intro pre k s hk _ hs hu
  obtain _ | k := k
  ·omega
  exact ⟨_, by rw [jH, if_neg (by simp)], rfl⟩
 | cons e suf ih =>
  intro pre k s hk hB hs hu
  obtain _ | k := k
  ·omega
  simp only [List.length_cons] at hk hB
  obtain ⟨L, h1, h2⟩ := hv.run s e z hs hu hz.1 hz.2
  rw [jH, if_pos (cB _ _ _), cond_false]
  dsimp only
  rw [cA, bsm, show (⟨⟨p.Free, p.Nodes, p.Defs, p.Main⟩, s.sz, ob s.met, ob s.dfs, false⟩ : Ref03_look) = ⟨p, s.sz, ob s.met, ob s.dfs, false⟩ from rfl, h1, bsm, aP (by omega), bsm, cE pre suf e, bS pre e]
  simp only [List.map_cons, cJ]
  cases hc : vis p f s e z with
  | none =>
   rw [hc] at h2
   obtain ⟨g1, g2, g3⟩ := h2
   obtain _ | k := k
   ·omega
   rw [g1, qV]
   exact ⟨_, rfl, rfl, g2, g3⟩
  | some s1 =>
   rw [hc] at h2
   have h2 : L = _ := h2
   subst h2
   obtain ⟨w1, u1⟩ := (visO p f).out _ _ _ _ hs hu hc
   rw [bsm]
   exact ih (pre ++ [e]) k s1 (by omega) (by simp; omega) w1 (by omega)
theorem rd2 (hv : RVis p f rec) {ch : List ScopeChan} {ru : List ScopeRule} {z : Int} (hz : 0 ≤ z ∧ z + 80 * f ≤ 100000) (suf : List ScopeSpot) : ∀ (pre : List ScopeSpot) (k : Nat) (s : VS), suf.length < k → pre.length + suf.length ≤ 3000000 → WS p s → unm s ≤ f →
  ∃ L, lV rec ⟨ch, pre ++ suf, ru⟩ z k pre.length p.Free p.Nodes p.Defs p.Main s.sz (ob s.met) (ob s.dfs) false = some L ∧ ROut p (cJ (vis p f) s (suf.map fun y => (y.Node, z))) L := by
 induction suf with
 | nil =>
  intro pre k s hk _ hs hu
  obtain _ | k := k
  ·omega
  exact ⟨_, by rw [lV, if_neg (by simp)], rfl⟩
 | cons e suf ih =>
  intro pre k s hk hB hs hu
  obtain _ | k := k
  ·omega
  simp only [List.length_cons] at hk hB
  obtain ⟨L, h1, h2⟩ := hv.run s e.Node z hs hu hz.1 hz.2
  rw [lV, if_pos (cB _ _ _), cond_false]
  dsimp only
  rw [cA, bsm, show (⟨⟨p.Free, p.Nodes, p.Defs, p.Main⟩, s.sz, ob s.met, ob s.dfs, false⟩ : Ref03_look) = ⟨p, s.sz, ob s.met, ob s.dfs, false⟩ from rfl, h1, bsm, aP (by omega), bsm, cE pre suf e, bS pre e]
  simp only [List.map_cons, cJ]
  cases hc : vis p f s e.Node z with
  | none =>
   rw [hc] at h2
   obtain ⟨g1, g2, g3⟩ := h2
   obtain _ | k := k
   ·omega
   rw [g1, aBu]
   exact ⟨_, rfl, rfl, g2, g3⟩
  | some s1 =>
   rw [hc] at h2
   have h2 : L = _ := h2
   subst h2
   obtain ⟨w1, u1⟩ := (visO p f).out _ _ _ _ hs hu hc
   rw [bsm]
   exact ih (pre ++ [e]) k s1 (by omega) (by simp; omega) w1 (by omega)
abbrev T8 := List ByteArray × List ScopeNode × List ScopeDef × Int × List Int × List Int × List Int × Bool
def ROut8 (p : ScopeProg) (o : Option VS) (t : T8) : Prop := match o with
 | some s => t = (p.Free, p.Nodes, p.Defs, p.Main, s.sz, ob s.met, ob s.dfs, false)
 | none => t.2.2.2.2.2.2.2 = true ∧ t.2.2.2.2.2.1.length = p.Nodes.length ∧ t.2.2.2.2.2.2.1.length = p.Defs.length
theorem rd1 (hv : RVis p f rec) {fuel : Nat} {d : ScopeDef} (hd : okD d = true) (hf : 3000 ≤ fuel) {z : Int} (hz : 0 ≤ z ∧ z + 9 + 80 * f ≤ 100000) (suf : List ScopeRule) : ∀ (pre : List ScopeRule) (k : Nat) (s : VS), d.Rules = pre ++ suf → suf.length < k → pre.length + suf.length ≤ 3000000 → WS p s → unm s ≤ f →
  ∃ t, lP fuel rec d z k pre.length p.Free p.Nodes p.Defs p.Main s.sz (ob s.met) (ob s.dfs) false = some t ∧ ROut8 p (cJ (vis p f) s (suf.map fun r => (r.Node, z + brs d.Chans r.Joins))) t := by
 induction suf with
 | nil =>
  intro pre k s he hk _ hs hu
  obtain _ | k := k
  ·omega
  exact ⟨_, by rw [lP, he, if_neg (by simp)], rfl⟩
 | cons e suf ih =>
  intro pre k s he hk hB hs hu
  obtain _ | k := k
  ·omega
  simp only [List.length_cons] at hk hB
  have hmem : e ∈ d.Rules := by rw [he]; simp
  obtain ⟨_, _, _, _, h5⟩ := dT hd
  obtain ⟨g1, g2⟩ := h5 e hmem
  have hb := rW g2
  obtain ⟨L, h1, h2⟩ := hv.run s e.Node (z + brs d.Chans e.Joins) hs hu (by omega) (by omega)
  rw [lP, he, if_pos (cB _ _ _), ← he, cond_false, show idx d.Rules (pre.length : Int) = some e from by rw [he]; exact cA _ _ _, bsm, bsm,
   show (⟨d.Chans, d.Spots, d.Rules⟩ : ScopeDef) = d from rfl, more_eq hf hd hmem, bsm, aP (by omega), bsm,
   show (⟨⟨p.Free, p.Nodes, p.Defs, p.Main⟩, s.sz, ob s.met, ob s.dfs, false⟩ : Ref03_look) = ⟨p, s.sz, ob s.met, ob s.dfs, false⟩ from rfl, h1, bsm, aP (by omega), bsm, bS pre e]
  simp only [List.map_cons, cJ]
  cases hc : vis p f s e.Node (z + brs d.Chans e.Joins) with
  | none =>
   rw [hc] at h2
   obtain ⟨g1, g2, g3⟩ := h2
   obtain _ | k := k
   ·omega
   rw [g1, d1_bad]
   exact ⟨_, rfl, rfl, g2, g3⟩
  | some s1 =>
   rw [hc] at h2
   have h2 : L = _ := h2
   subst h2
   obtain ⟨w1, u1⟩ := (visO p f).out _ _ _ _ hs hu hc
   rw [bsm]
   exact ih (pre ++ [e]) k s1 (by rw [he]; simp) (by omega) (by simp; omega) w1 (by omega)
theorem rdef {m : Nat} (hv : RVis p f (eX m)) {d : ScopeDef} (hd : okD d = true) (hsm : smD d) (hm : 3000000 ≤ m) {z : Int} (hz : 0 ≤ z ∧ z + 9 + 80 * f ≤ 100000) {s : VS} (hs : WS p s) (hu : unm s ≤ f) :
  ∃ L, pK (m + 1) ⟨p, s.sz, ob s.met, ob s.dfs, false⟩ d z = some L ∧ ROut p ((cJ (vis p f) s (d.Rules.map fun r => (r.Node, z + brs d.Chans r.Joins))).bind fun s1 => cJ (vis p f) s1 (d.Spots.map fun y => (y.Node, z))) L := by
 obtain ⟨c1, c2, c3, _⟩ := hsm
 obtain ⟨t, h1, h2⟩ := rd1 hv hd (fuel := m) (by omega) hz d.Rules [] m s rfl (by omega) (by simp; omega) hs hu
 simp only [List.length_nil, Int.natCast_zero] at h1
 rw [pK, h1, bsm]
 cases hc : cJ (vis p f) s (d.Rules.map fun r => (r.Node, z + brs d.Chans r.Joins)) with
 | none =>
  rw [hc] at h2
  obtain ⟨a, b, c, e, sz, ow, us, bd⟩ := t
  obtain ⟨g1, g2, g3⟩ := h2
  dsimp only at g1 g2 g3
  subst g1
  obtain ⟨m, rfl⟩ : ∃ k, m = k + 1 := ⟨m - 1, by omega⟩
  dsimp only
  rw [aBu]
  exact ⟨_, rfl, rfl, g2, g3⟩
 | some s1 =>
  rw [hc] at h2
  have h2 : t = _ := h2
  subst h2
  obtain ⟨w1, u1⟩ := nP (visO p f) _ _ _ hs hu hc
  obtain ⟨L, h3, h4⟩ := rd2 hv (ch := d.Chans) (ru := d.Rules) (z := z) ⟨by omega, by omega⟩ d.Spots [] m s1 (by omega) (by simp; omega) w1 (by omega)
  simp only [List.nil_append, List.length_nil, Int.natCast_zero] at h3
  exact ⟨L, h3, h4⟩
theorem rdef_bad {m : Nat} (hm : 0 < m) {L : Ref03_look} (hb : L.bad = true) {d : ScopeDef} {z : Int} : pK (m + 1) L d z = some L := by
 obtain ⟨k, rfl⟩ : ∃ k, m = k + 1 := ⟨m - 1, by omega⟩
 obtain ⟨q, sz, ow, us, bd⟩ := L
 dsimp only at hb
 subst hb
 rw [pK]
 dsimp only
 rw [d1_bad, bsm]
 dsimp only
 rw [aBu]
end
theorem rn1_bad {fuel : Nat} {op nn : Int} {ks : List Int} {z : Int} (suf : List ScopeExp) : ∀ (pre : List ScopeExp) (k : Nat), suf.length < k → pre.length + suf.length ≤ 3000000 →
  jX fuel z ⟨op, nn, pre ++ suf, ks⟩ k pre.length true = some true := by
 induction suf with
 | nil =>
  intro pre k hk _
  obtain _ | k := k
  ·omega
  rw [jX, if_neg (by simp)]
 | cons e suf ih =>
  intro pre k hk hB
  obtain _ | k := k
  ·omega
  simp only [List.length_cons] at hk hB
  rw [jX, if_pos (cB _ _ _), cond_true, bsm, aP (by omega), bsm, cE pre suf e, bS pre e]
  exact ih (pre ++ [e]) k (by omega) (by simp; omega)
theorem rn1 {fuel : Nat} (hf : 3000000 ≤ fuel) {op nn : Int} {ks : List Int} {z : Int} (suf : List ScopeExp) : ∀ (pre : List ScopeExp) (k : Nat), suf.length < k → pre.length + suf.length ≤ 3000000 → (∀ e ∈ suf, nE e ≤ 2000000) →
  jX fuel z ⟨op, nn, pre ++ suf, ks⟩ k pre.length false = some (!suf.all (okE z)) := by
 induction suf with
 | nil =>
  intro pre k hk _ _
  obtain _ | k := k
  ·omega
  rw [jX, if_neg (by simp)]; rfl
 | cons e suf ih =>
  intro pre k hk hB he
  obtain _ | k := k
  ·omega
  simp only [List.length_cons] at hk hB
  have hn := he e (.head _)
  rw [jX, if_pos (cB _ _ _), cond_false, show (e :: suf).all (okE z) = (okE z e && suf.all (okE z)) from rfl]
  dsimp only
  rw [cA, bsm, aIS (by omega) (by omega), bsm, bsm, aP (by omega), bsm, cE pre suf e, bS pre e]
  cases h1 : okE z e with
  | false => exact rn1_bad suf (pre ++ [e]) k (by omega) (by simp; omega)
  | true =>
   rw [Bool.true_and]
   exact ih (pre ++ [e]) k (by omega) (by simp; omega) (fun x hx => he x (.tail _ hx))
end Go.Proofs.YtmnbfgeljmhekaaGreat
set_option maxRecDepth 100000
namespace Go.Proofs.YtmnbfgeljmhekaaGreat
open Go.SX Go.SW Go.Dt
def tailR (fuel : Nat) (a0 : Ref03_look) (a1 a2 z1 : Int) (y5 : ScopeNode) : Option Ref03_look :=
 (jX fuel a2 y5 fuel 0 a0.bad).bind fun x1 =>
 ((if y5.Op = 2 then
  some (decide (y5.Op = 2))
 else
  if y5.Op = 6 then
   some (decide (y5.Op = 6))
  else
   some (decide (y5.Op = 8))).bind fun x16 =>
 bif x16 then
  bif x1 then
   some (Sum.inl (a2, a0.p.Free, a0.p.Nodes, a0.p.Defs, a0.p.Main, a0.sizes.set a1.toNat a2, a0.owner.set a1.toNat z1, a0.users, true))
  else
   if y5.N < 0 then
    some (Sum.inl (a2, a0.p.Free, a0.p.Nodes, a0.p.Defs, a0.p.Main, a0.sizes.set a1.toNat a2, a0.owner.set a1.toNat z1, a0.users, true))
   else
    some (Sum.inl (a2, a0.p.Free, a0.p.Nodes, a0.p.Defs, a0.p.Main, a0.sizes.set a1.toNat a2, a0.owner.set a1.toNat z1, a0.users, decide (a2 ≤ y5.N)))
 else
  if y5.Op = 4 then
   if y5.N < 0 then
    (some (⟨(⟨a0.p.Free, a0.p.Nodes, a0.p.Defs, a0.p.Main⟩ : ScopeProg), a0.sizes.set a1.toNat a2, a0.owner.set a1.toNat z1, a0.users, true⟩ : Ref03_look)).bind fun r => some (Sum.inr r)
   else
    if (a0.p.Defs.length : Int) ≤ y5.N then
     (some (⟨(⟨a0.p.Free, a0.p.Nodes, a0.p.Defs, a0.p.Main⟩ : ScopeProg), a0.sizes.set a1.toNat a2, a0.owner.set a1.toNat z1, a0.users, true⟩ : Ref03_look)).bind fun r => some (Sum.inr r)
    else
     (idx a0.users y5.N).bind fun y9 =>
     if 0 < y9 then
      (some (⟨(⟨a0.p.Free, a0.p.Nodes, a0.p.Defs, a0.p.Main⟩ : ScopeProg), a0.sizes.set a1.toNat a2, a0.owner.set a1.toNat z1, a0.users, true⟩ : Ref03_look)).bind fun r => some (Sum.inr r)
     else
      (idx a0.users y5.N).bind fun y10 =>
      (chk (y10 + 1)).bind fun z3 =>
      (idx a0.users y5.N).bind fun _ =>
      (idx a0.p.Defs y5.N).bind fun y12 =>
      (tR y12).bind fun y13 =>
      (chk (a2 + y13)).bind fun z4 =>
      (idx a0.p.Defs y5.N).bind fun y14 =>
      ((pK fuel) (⟨(⟨a0.p.Free, a0.p.Nodes, a0.p.Defs, a0.p.Main⟩ : ScopeProg), a0.sizes.set a1.toNat a2, a0.owner.set a1.toNat z1, a0.users.set y5.N.toNat z3, x1⟩ : Ref03_look) y14 z4).bind fun y15 =>
      some (Sum.inl (z4, y15.p.Free, y15.p.Nodes, y15.p.Defs, y15.p.Main, y15.sizes, y15.owner, y15.users, y15.bad))
  else
   bif x1 then
    some (Sum.inl (a2, a0.p.Free, a0.p.Nodes, a0.p.Defs, a0.p.Main, a0.sizes.set a1.toNat a2, a0.owner.set a1.toNat z1, a0.users, true))
   else
    some (Sum.inl (a2, a0.p.Free, a0.p.Nodes, a0.p.Defs, a0.p.Main, a0.sizes.set a1.toNat a2, a0.owner.set a1.toNat z1, a0.users, decide (y5.N ≠ 0)))).bind fun o => match o with
 | Sum.inr r => some r
 | Sum.inl (x7, x8, x9, x10, x11, x12, x13, x14, x15) =>
 jH (eX fuel) y5 x7 fuel 0 x8 x9 x10 x11 x12 x13 x14 x15
theorem rown_eq {d : ScopeDef} (h : d.Chans.length ≤ 2000000) (h2 : d.Spots.length ≤ 2000000) : tR d = some (own d) := by
 rw [tR, aP (by omega), bsm]; rfl
def kN (p : ScopeProg) (s : VS) (x : ScopeNode) (z : Int) : Prop :=
 if x.Op = 2 ∨ x.Op = 6 ∨ x.Op = 8 then 0 ≤ x.N ∧ x.N < z else if x.Op = 4 then 0 ≤ x.N ∧ x.N < (p.Defs.length : Int) ∧ idx s.dfs x.N = some false else x.N = 0
section
variable {p : ScopeProg} {f m : Nat}
theorem jT {q : ScopeProg} {sz ow us : List Int} (h1 : ow.length = p.Nodes.length) (h2 : us.length = p.Defs.length) : ROut p none ⟨q, sz, ow, us, true⟩ := ⟨rfl, h1, h2⟩
open Classical in
theorem tailR_eq (hp : SmP p) (hall : ∀ d ∈ p.Defs, okD d = true) (hm : 3000001 ≤ m) (hv : RVis p f (eX m)) (hv' : RVis p f (eX (m - 1))) {s : VS} (hs : WS p s) {n z : Int} {x : ScopeNode} (hx : x ∈ p.Nodes)
  (hun : ∀ dfs, unm ⟨s.sz.set n.toNat z, s.met.set n.toNat true, dfs⟩ ≤ f) (hz : 0 ≤ z ∧ z + 69 + 80 * f ≤ 100000) :
  ∃ L, tailR m ⟨p, s.sz, ob s.met, ob s.dfs, false⟩ n z 1 x = some L ∧ ROut p (if x.Args.all (okE z) = true ∧ kN p s x z then aU p f s n z x else none) L := by
 obtain ⟨op, nn, ar, ks⟩ := x
 obtain ⟨g1, g2, g3⟩ := hp.args _ hx
 dsimp only at g1 g2 g3
 obtain ⟨m', rfl⟩ : ∃ k, m = k + 1 := ⟨m - 1, by omega⟩
 simp only [Nat.add_sub_cancel] at hv'
 have e1 := rn1 (fuel := m' + 1) (by omega) (op := op) (nn := nn) (ks := ks) (z := z) ar [] (m' + 1) (by omega) (by simp; omega) g3
 simp only [List.nil_append, List.length_nil, Int.natCast_zero] at e1
 have hsets : (ob s.met).set n.toNat 1 = ob (s.met.set n.toNat true) := ob_set.symm
 have hl1 : ((ob s.met).set n.toNat 1).length = p.Nodes.length := by simp [jJ, hs.met]
 have hl2 : (ob s.dfs).length = p.Defs.length := by rw [jJ, hs.dfs]
 rw [tailR]
 dsimp only
 rw [e1, bsm]
 have jW : ∀ (zz : Int) (s1 : VS), 0 ≤ zz → zz + 80 * f ≤ 100000 → WS p s1 → unm s1 ≤ f → ∃ L, jH (eX (m' + 1)) ⟨op, nn, ar, ks⟩ zz (m' + 1) 0 p.Free p.Nodes p.Defs p.Main s1.sz (ob s1.met) (ob s1.dfs) false = some L ∧ ROut p (cJ (vis p f) s1 (ks.map fun k => (k, zz))) L := fun zz s1 a b c d => by
  have := rk2 hv (op := op) (nn := nn) (ar := ar) (z := zz) ⟨a, b⟩ ks [] (m' + 1) s1 (by omega) (by simp; omega) c d
  simpa only [List.nil_append, List.length_nil, Int.natCast_zero] using this
 have w1 := (rM hs (p := p) (i := n.toNat) (j := 0) (z := z)).1
 have hne4 : op ≠ 4 → aU p f s n z ⟨op, nn, ar, ks⟩ = cJ (vis p f) ⟨s.sz.set n.toNat z, s.met.set n.toNat true, s.dfs⟩ (ks.map fun k => (k, z)) := fun h => by rw [aU, if_neg h]
 by_cases o2 : op = 2 ∨ op = 6 ∨ op = 8
 ·have hb : ((if op = 2 then some (decide (op = 2)) else if op = 6 then some (decide (op = 6)) else some (decide (op = 8))) : Option Bool) = some true := by
   rcases o2 with rfl | rfl | rfl <;> rfl
  have hk : kN p s ⟨op, nn, ar, ks⟩ z ↔ (0 ≤ nn ∧ nn < z) := by unfold kN; rw [if_pos o2]
  rw [hb, bsm, cond_true]
  cases hall2 : ar.all (okE z) with
  | false =>
   rw [Bool.not_false, cond_true, bsm]
   dsimp only
   rw [qV, if_neg (fun q => by cases q.1)]
   exact ⟨_, rfl, jT hl1 hl2⟩
  | true =>
   rw [Bool.not_true, cond_false]
   by_cases n0 : nn < 0
   ·rw [if_pos n0, bsm]
    dsimp only
    rw [qV, if_neg (fun q => by have := hk.1 q.2; omega)]
    exact ⟨_, rfl, jT hl1 hl2⟩
   ·rw [if_neg n0, bsm]
    dsimp only
    by_cases n1 : z ≤ nn
    ·rw [decide_eq_true n1, qV, if_neg (fun q => by have := hk.1 q.2; omega)]
     exact ⟨_, rfl, jT hl1 hl2⟩
    ·rw [decide_eq_false n1, if_pos ⟨rfl, hk.2 ⟨by omega, by omega⟩⟩, hne4 (by omega), hsets]
     exact jW z ⟨s.sz.set n.toNat z, s.met.set n.toNat true, s.dfs⟩ hz.1 (by omega) w1 (hun _)
 ·have hb : ((if op = 2 then some (decide (op = 2)) else if op = 6 then some (decide (op = 6)) else some (decide (op = 8))) : Option Bool) = some false := by
   rw [if_neg (by omega), if_neg (by omega), decide_eq_false (by omega)]
  rw [hb, bsm, cond_false]
  by_cases o4 : op = 4
  ·subst o4
   have hk : kN p s ⟨4, nn, ar, ks⟩ z ↔ (0 ≤ nn ∧ nn < (p.Defs.length : Int) ∧ idx s.dfs nn = some false) := by unfold kN; rw [if_neg o2, if_pos rfl]
   rw [if_pos rfl]
   by_cases n0 : nn < 0
   ·rw [if_pos n0, bsm, bsm]
    dsimp only
    rw [if_neg (fun q => by have := hk.1 q.2; omega)]
    exact ⟨_, rfl, jT hl1 hl2⟩
   ·rw [if_neg n0]
    by_cases n1 : (p.Defs.length : Int) ≤ nn
    ·rw [if_pos n1, bsm, bsm]
     dsimp only
     rw [if_neg (fun q => by have := hk.1 q.2; omega)]
     exact ⟨_, rfl, jT hl1 hl2⟩
    ·rw [if_neg n1]
     obtain ⟨b, hbb⟩ := cH (xs := s.dfs) (show 0 ≤ nn by omega) (by rw [hs.dfs]; omega)
     obtain ⟨d, hd⟩ := cH (xs := p.Defs) (show 0 ≤ nn by omega) (by omega)
     have hok := hall d (dU hd)
     have hsm := hp.dfs d (dU hd)
     obtain ⟨k1, k2, k3, _, _⟩ := dT hok
     have hown : 0 ≤ own d ∧ own d ≤ 60 := by unfold own; omega
     rw [aCK hbb, bsm]
     cases b with
     | true =>
      rw [if_pos rfl, if_pos (by omega), bsm, bsm]
      dsimp only
      rw [if_neg (fun q => by have := (hk.1 q.2).2.2; rw [hbb] at this; cases this)]
      exact ⟨_, rfl, jT hl1 hl2⟩
     | false =>
      have hkk : kN p s ⟨4, nn, ar, ks⟩ z := hk.2 ⟨by omega, by omega, hbb⟩
      rw [if_neg Bool.false_ne_true, if_neg (by omega), bsm, aP (by omega), bsm, bsm, hd, bsm, rown_eq (by omega) (by omega), bsm, aP (by omega), bsm, bsm]
      have hsetd : (ob s.dfs).set nn.toNat (0 + 1) = ob (s.dfs.set nn.toNat true) := ob_set.symm
      have w2 := (rM hs (p := p) (i := n.toNat) (j := nn.toNat) (z := z)).2
      rw [hsets, hsetd]
      cases hall2 : ar.all (okE z) with
      | false =>
       rw [Bool.not_false, rdef_bad (by omega) rfl, bsm, bsm]
       dsimp only
       rw [qV, if_neg (fun q => by cases q.1)]
       exact ⟨_, rfl, jT (by rw [← hsets]; exact hl1) (by rw [jJ]; simp [hs.dfs])⟩
      | true =>
       rw [Bool.not_true, if_pos ⟨rfl, hkk⟩]
       obtain ⟨L, h1, h2⟩ := rdef hv' hok hsm (by omega) (z := z + own d) ⟨by omega, by omega⟩ w2 (hun (s.dfs.set nn.toNat true))
       rw [show (⟨⟨p.Free, p.Nodes, p.Defs, p.Main⟩, s.sz.set n.toNat z, ob (s.met.set n.toNat true), ob (s.dfs.set nn.toNat true), false⟩ : Ref03_look) = ⟨p, s.sz.set n.toNat z, ob (s.met.set n.toNat true), ob (s.dfs.set nn.toNat true), false⟩ from rfl, h1, bsm, bsm]
       dsimp only
       have hres : aU p f s n z ⟨4, nn, ar, ks⟩ = ((cJ (vis p f) ⟨s.sz.set n.toNat z, s.met.set n.toNat true, s.dfs.set nn.toNat true⟩ (d.Rules.map fun r => (r.Node, z + own d + brs d.Chans r.Joins))).bind fun s1 => cJ (vis p f) s1 (d.Spots.map fun y => (y.Node, z + own d))).bind fun s2 => cJ (vis p f) s2 (ks.map fun k => (k, z + own d)) := by
        rw [aU, if_pos rfl]; dsimp only; rw [hd, bsm, if_pos hok, Option.bind_assoc]
       rw [hres]
       cases hc : (cJ (vis p f) ⟨s.sz.set n.toNat z, s.met.set n.toNat true, s.dfs.set nn.toNat true⟩ (d.Rules.map fun r => (r.Node, z + own d + brs d.Chans r.Joins))).bind fun s1 => cJ (vis p f) s1 (d.Spots.map fun y => (y.Node, z + own d)) with
       | none =>
        rw [hc] at h2
        obtain ⟨q1, q2, q3⟩ := h2
        rw [q1, qV]
        exact ⟨_, rfl, rfl, q2, q3⟩
       | some s2 =>
        rw [hc] at h2
        have h2 : L = _ := h2
        subst h2
        obtain ⟨s1, a1, a2⟩ := bind_some hc
        obtain ⟨b1, b2⟩ := nP (visO p f) _ _ _ w2 (hun _) a1
        have := hun (s.dfs.set nn.toNat true)
        obtain ⟨c1, c2⟩ := nP (visO p f) _ _ _ b1 (by omega) a2
        rw [bsm]
        exact jW (z + own d) s2 (by omega) (by omega) c1 (by omega)
  ·have hk : kN p s ⟨op, nn, ar, ks⟩ z ↔ nn = 0 := by unfold kN; rw [if_neg o2, if_neg o4]
   rw [if_neg o4]
   cases hall2 : ar.all (okE z) with
   | false =>
    rw [Bool.not_false, cond_true, bsm]
    dsimp only
    rw [qV, if_neg (fun q => by cases q.1)]
    exact ⟨_, rfl, jT hl1 hl2⟩
   | true =>
    rw [Bool.not_true, cond_false, bsm]
    dsimp only
    by_cases n1 : nn ≠ 0
    ·rw [decide_eq_true n1, qV, if_neg (fun q => n1 (hk.1 q.2))]
     exact ⟨_, rfl, jT hl1 hl2⟩
    ·rw [decide_eq_false n1, if_pos ⟨rfl, hk.2 (by omega)⟩, hne4 o4, hsets]
     exact jW z ⟨s.sz.set n.toNat z, s.met.set n.toNat true, s.dfs⟩ hz.1 (by omega) w1 (hun _)
theorem aGC {op : Int} {k c : Nat} (h : shp op = some (k, c)) : tQ op = some (if c = 1 then -1 else if c = 2 then 1 else 0, (k : Int), true) := by
 unfold shp at h
 split at h
 ·rename_i h1; cases h; rcases h1 with rfl | rfl <;> rfl
 split at h
 ·rename_i h1; cases h; subst h1; rfl
 split at h
 ·rename_i h1; cases h; subst h1; rfl
 split at h
 ·rename_i h1; cases h; subst h1; rfl
 split at h
 ·rename_i h1; cases h; rcases h1 with rfl | rfl <;> rfl
 split at h
 ·rename_i h1; cases h; subst h1; rfl
 ·cases h
theorem aGu {op : Int} (h : shp op = none) : tQ op = some (0, 0, false) := by
 unfold shp at h
 rw [tQ]
 split at h; · cases h
 split at h; · cases h
 split at h; · cases h
 split at h; · cases h
 split at h; · cases h
 split at h; · cases h
 rename_i h1 h2 h3 h4 h5 h6
 rw [if_neg (by omega), bsm, decide_eq_false (by omega), cond_false, if_neg h3, if_neg h2, if_neg h4, if_neg h6, if_neg (by omega), bsm, decide_eq_false (by omega), cond_false]
def qM (c : Nat) (l : Nat) : Prop := if c = 1 then l ≤ 3 else if c = 2 then l = 1 else l = 0
theorem aBZ {s : VS} {x : ScopeNode} {z : Int} {k c : Nat} (h : shp x.Op = some (k, c)) : okM p s x z c ↔ kN p s x z ∧ qM c x.Args.length := by
 have h0 := h
 unfold shp at h
 unfold kN qM
 split at h
 ·rename_i h1; cases h; rw [if_neg (by omega), if_neg (by omega)]; simp [okM]
 split at h
 ·rename_i h1; cases h; rw [if_neg (by omega), if_neg (by omega)]; simp [okM]
 split at h
 ·rename_i h1; cases h; rw [if_pos (.inl h1)]; simp [okM]
 split at h
 ·rename_i h1; cases h; rw [if_neg (by omega), if_neg (by omega)]; simp [okM]
 split at h
 ·rename_i h1; cases h; rw [if_pos (.inr h1)]; simp [okM]
 split at h
 ·rename_i h1; cases h; rw [if_neg (by omega), if_pos h1]; simp [okM]
 ·cases h
open Classical in
theorem rnode_go (hp : SmP p) (hall : ∀ d ∈ p.Defs, okD d = true) (hm : 3000001 ≤ m) (hv : RVis p f (eX m)) (hv' : RVis p f (eX (m - 1))) {s : VS} (hs : WS p s) {n z : Int} (hu : unm s ≤ f + 1) (hz : 0 ≤ z ∧ z + 69 + 80 * f ≤ 100000) (h : 0 ≤ n ∧ n < (p.Nodes.length : Int) ∧ idx s.met n = some false) :
  ∃ L, eX (m + 1) ⟨p, s.sz, ob s.met, ob s.dfs, false⟩ n z = some L ∧ ROut p (vis p (f + 1) s n z) L := by
 obtain ⟨x, hx⟩ := cH h.1 h.2.1
 obtain ⟨v1, v2⟩ := vis_go (f := f) (z := z) h hx
 have hun : ∀ dfs, unm ⟨s.sz.set n.toNat z, s.met.set n.toNat true, dfs⟩ ≤ f := fun dfs => by
  have := aCH (p := p) (z := z) (dfs := dfs) h.1 h.2.2; omega
 obtain ⟨b, hb⟩ := cH (xs := s.sz) h.1 (by rw [hs.sz]; exact h.2.1)
 have hl1 : ((ob s.met).set n.toNat 1).length = p.Nodes.length := by simp [jJ, hs.met]
 have hl2 : (ob s.dfs).length = p.Defs.length := by rw [jJ, hs.dfs]
 have hgo := tailR_eq hp hall hm hv hv' hs (n := n) (z := z) (dU hx) hun hz
 rw [eX]
 dsimp only
 rw [if_neg (by omega), if_neg (by omega), aCK h.2.2, bsm, if_neg Bool.false_ne_true, if_neg (by omega), bsm, aP (by omega), bsm, bsm, hb, bsm, hx, bsm]
 cases hsh : shp x.Op with
 | none =>
  rw [aGu hsh, bsm]
  dsimp only
  rw [Bool.not_false, cond_true, bsm, bsm, v2 (by rintro ⟨⟨k, c, g, _⟩, _⟩; rw [hsh] at g; cases g)]
  exact ⟨_, rfl, jT hl1 hl2⟩
 | some kc =>
  obtain ⟨k, c⟩ := kc
  rw [aGC hsh, bsm]
  dsimp only
  rw [Bool.not_true, cond_false]
  by_cases hk : (x.Kids.length : Int) ≠ (k : Int)
  ·rw [if_pos hk, bsm, bsm, v2 (by rintro ⟨⟨k', c', g, g2, _⟩, _⟩; rw [hsh] at g; cases g; omega)]
   exact ⟨_, rfl, jT hl1 hl2⟩
  ·rw [if_neg hk]
   have hfin : (if x.Args.all (okE z) = true ∧ kN p s x z then aU p f s n z x else none) = vis p (f + 1) s n z ∨ ¬ qM c x.Args.length := by
    by_cases ha : qM c x.Args.length
    ·left
     by_cases hq : x.Args.all (okE z) = true ∧ kN p s x z
     ·rw [if_pos hq, v1 ⟨⟨k, c, hsh, by omega, (aBZ hsh).2 ⟨hq.2, ha⟩⟩, hq.1⟩]
     ·rw [if_neg hq, v2]
      rintro ⟨⟨k', c', g, _, g3⟩, g4⟩
      rw [hsh] at g; cases g
      exact hq ⟨g4, ((aBZ hsh).1 g3).1⟩
    ·exact .inr ha
   have hbad : ¬ qM c x.Args.length → vis p (f + 1) s n z = none := fun ha => v2 (by
    rintro ⟨⟨k', c', g, _, g3⟩, _⟩
    rw [hsh] at g; cases g
    exact ha ((aBZ hsh).1 g3).2)
   obtain ⟨L, e1, e2⟩ := hgo
   by_cases ha : qM c x.Args.length
   ·rw [hfin.resolve_right (fun q => q ha)] at e2
    refine ⟨L, ?_, e2⟩
    rw [← e1]
    unfold qM at ha
    by_cases c1 : c = 1
    ·rw [if_pos c1] at ha ⊢
     rw [if_pos (by omega), if_neg (by omega), if_neg (by omega), bsm]; rfl
    ·rw [if_neg c1] at ha ⊢
     by_cases c2 : c = 2
     ·rw [if_pos c2] at ha ⊢
      rw [if_neg (by omega), if_pos (by omega), if_neg (by omega), bsm]; rfl
     ·rw [if_neg c2] at ha ⊢
      rw [if_neg (by omega), if_pos (by omega), if_neg (by omega), bsm]; rfl
   ·rw [hbad ha]
    refine ⟨⟨p, s.sz.set n.toNat z, (ob s.met).set n.toNat 1, ob s.dfs, true⟩, ?_, jT hl1 hl2⟩
    unfold qM at ha
    by_cases c1 : c = 1
    ·rw [if_pos c1] at ha ⊢
     rw [if_pos (by omega), if_pos (by omega), bsm, bsm]; rfl
    ·rw [if_neg c1] at ha ⊢
     by_cases c2 : c = 2
     ·rw [if_pos c2] at ha ⊢
      rw [if_neg (by omega), if_pos (by omega), if_pos (by omega), bsm, bsm]; rfl
     ·rw [if_neg c2] at ha ⊢
      rw [if_neg (by omega), if_pos (by omega), if_pos (by omega), bsm, bsm]; rfl
theorem aGc {s : VS} (hs : WS p s) {n z : Int} (h : ¬ (0 ≤ n ∧ n < (p.Nodes.length : Int) ∧ idx s.met n = some false)) : ∃ L, eX (m + 1) ⟨p, s.sz, ob s.met, ob s.dfs, false⟩ n z = some L ∧ ROut p none L := by
 have hl1 : (ob s.met).length = p.Nodes.length := by rw [jJ, hs.met]
 have hl2 : (ob s.dfs).length = p.Defs.length := by rw [jJ, hs.dfs]
 refine ⟨⟨p, s.sz, ob s.met, ob s.dfs, true⟩, ?_, jT hl1 hl2⟩
 rw [eX]
 dsimp only
 by_cases h0 : n < 0
 ·rw [if_pos h0]
 ·rw [if_neg h0]
  by_cases h1 : (p.Nodes.length : Int) ≤ n
  ·rw [if_pos h1]
  ·rw [if_neg h1]
   obtain ⟨b, hb⟩ := cH (xs := s.met) (show 0 ≤ n by omega) (by rw [hs.met]; omega)
   cases b with
   | false => exact absurd ⟨by omega, by omega, hb⟩ h
   | true => rw [aCK hb, bsm, if_pos rfl, if_pos (by omega)]
end
theorem rvis {p : ScopeProg} (hp : SmP p) (hall : ∀ d ∈ p.Defs, okD d = true) (f : Nat) : ∀ g, 3000003 + 2 * f ≤ g → RVis p f (eX g) := by
 induction f with
 | zero =>
  intro g hg
  obtain ⟨g, rfl⟩ : ∃ k, g = k + 1 := ⟨g - 1, by omega⟩
  refine ⟨fun s n z hs hu h0 h1 => ?_⟩
  have h : ¬ (0 ≤ n ∧ n < (p.Nodes.length : Int) ∧ idx s.met n = some false) := fun q => by have := aEV q.2.2; omega
  rw [zY h]; exact aGc hs h
 | succ f ih =>
  intro g hg
  obtain ⟨g, rfl⟩ : ∃ k, g = k + 1 := ⟨g - 1, by omega⟩
  refine ⟨fun s n z hs hu h0 h1 => ?_⟩
  by_cases h : 0 ≤ n ∧ n < (p.Nodes.length : Int) ∧ idx s.met n = some false
  ·exact rnode_go hp hall (m := g) (by omega) (ih g (by omega)) (ih (g - 1) (by omega)) hs hu ⟨h0, by omega⟩ h
  ·rw [zY h]; exact aGc hs h
end Go.Proofs.YtmnbfgeljmhekaaGreat
set_option maxRecDepth 100000
namespace Go.Proofs.YtmnbfgeljmhekaaGreat
open Go.SX Go.SW Go.Dt
abbrev F : Nat := 4000000
theorem aF3 : ∀ x y : List UInt8, Op.bytesLess x y = (!(Op.bytesLess y x || decide (y = x)))
 | [], [] => rfl
 | [], b :: y => by simp [Op.bytesLess]
 | a :: x, [] => by simp [Op.bytesLess]
 | a :: x, b :: y => by
  have ih := aF3 x y
  simp only [Op.bytesLess, ih]
  by_cases h1 : a < b
  ·have h2 : ¬ b < a := fun h => by have := UInt8.lt_trans h1 h; exact absurd this (by simp)
   have h3 : b ≠ a := fun h => by subst h; exact absurd h1 (by simp)
   simp [h1, h2, h3]
  ·by_cases h2 : b < a
   ·have h3 : a ≠ b := fun h => by subst h; exact absurd h2 (by simp)
    simp [h1, h2, h3]
   ·have h3 : a = b := by
     have a1 := UInt8.not_lt.1 h1; have a2 := UInt8.not_lt.1 h2
     exact UInt8.le_antisymm a2 a1
    subst h3
    simp
theorem slt_sle (a b : ByteArray) : slt a b = !sle b a := by
 have he : decide (b = a) = decide (b.toList = a.toList) := by
  rw [decide_eq_decide]
  exact ⟨fun h => by rw [h], fun h => (by have := (aBL (i := b) (j := a)); rw [beq_iff_eq.2 h] at this; exact of_decide_eq_true this.symm)⟩
 unfold sle slt
 rw [he]; exact aF3 _ _
theorem aGr (s : ByteArray) : ∀ (k : Nat) (i : Int), rG s k i = lQ s k i
 | 0, _ => rfl
 | k + 1, i => by
  rw [rG, lQ]
  simp only [aGr s k]
theorem aFp {s : ByteArray} (hs : s.size ≤ 2000000) : ∀ (k i : Nat), s.size < k + i → i ≤ s.size → lQ s k (i : Int) = some (.inr false) ∨ lQ s k (i : Int) = some (.inl ())
 | 0, i, h, h2 => by omega
 | k + 1, i, h, h2 => by
  rw [lQ]
  by_cases hi : i < s.size
  ·have hx : sidx s (i : Int) = some ((s[i]'hi).toNat : Int) := by
    unfold sidx; rw [if_pos (by omega)]; simp [hi]
   rw [if_pos (by omega), hx, bsm]
   by_cases c1 : ((s[i]'hi).toNat : Int) < 97
   ·rw [if_pos c1]; exact .inl rfl
   ·rw [if_neg c1, bsm]
    by_cases c2 : 122 < ((s[i]'hi).toNat : Int)
    ·rw [if_pos c2]; exact .inl rfl
    ·rw [if_neg c2, aP (by omega), bsm]
     exact aFp hs k (i + 1) (by omega) (by omega)
  ·rw [if_neg (by omega)]; exact .inr rfl
open Classical in
theorem has_loop {a : ByteArray} (suf : List ByteArray) : ∀ (pre : List ByteArray) (k : Nat), suf.length < k → pre.length + suf.length ≤ 3000000 → pY (pre ++ suf) a k pre.length = some (if a ∈ suf then .inr true else .inl ()) := by
 induction suf with
 | nil =>
  intro pre k hk _
  obtain _ | k := k
  ·omega
  rw [pY, if_neg (by simp), if_neg (by simp)]
 | cons e suf ih =>
  intro pre k hk hB
  obtain _ | k := k
  ·omega
  simp only [List.length_cons] at hk hB
  rw [pY, if_pos (cB _ _ _), cA, bsm]
  by_cases he : e = a
  ·rw [if_pos he, if_pos (by simp [he])]; rfl
  ·have hm : (a ∈ e :: suf) ↔ a ∈ suf := by simp [Ne.symm he]
   rw [if_neg he, aP (by omega), bsm, cE pre suf e, bS pre e, ih (pre ++ [e]) k (by omega) (by simp; omega)]
   by_cases hs : a ∈ suf
   ·rw [if_pos hs, if_pos (hm.2 hs)]
   ·rw [if_neg hs, if_neg (fun q => hs (hm.1 q))]
open Classical in
theorem has_eq {l : List ByteArray} {a : ByteArray} (h : l.length ≤ 3000000) : yP F l a = some (decide (a ∈ l)) := by
 have := has_loop (a := a) l [] F (by show l.length < 4000000; omega) (by simp; omega)
 simp only [List.nil_append, List.length_nil, Int.natCast_zero] at this
 rw [yP, this, bsm]
 by_cases hs : a ∈ l
 ·rw [if_pos hs]; simp [hs]
 ·rw [if_neg hs]; simp [hs]
theorem upd_get {g : aQ ByteArray Bool} {k s : ByteArray} : (aQ.upd g k true).get s = if s = k then some true else g.get s := rfl
theorem aDL {s : ByteArray} (hs : s.size ≤ 2000000) : ∃ b, sK F s = some b ∧ wH F s = some b := by
 have hl := aFp hs F 0 (by show s.size < 4000000 + 0; omega) (by omega)
 simp only [Int.natCast_zero] at hl
 rw [sK, wH, aGr]
 by_cases c1 : (s.size : Int) < 1
 ·rw [if_pos c1]
  refine ⟨false, ?_, rfl⟩
  rcases hl with h | h <;> rw [h, bsm]
  dsimp only
  rw [if_neg (by omega)]; rfl
 ·rw [if_neg c1]
  by_cases c2 : 8 < (s.size : Int)
  ·rw [if_pos c2]
   refine ⟨false, ?_, rfl⟩
   rcases hl with h | h <;> rw [h, bsm]
   dsimp only
   rw [if_pos (by omega), if_neg (by omega)]; rfl
  ·rw [if_neg c2]
   rcases hl with h | h
   ·rw [h]; exact ⟨false, rfl, rfl⟩
   ·rw [h, bsm, bsm]
    dsimp only
    rw [if_pos (by omega), if_pos (by omega), has_eq (by simp), bsm]
    refine ⟨_, ?_, rfl⟩
    rw [aAn, bsm, bsm]
    congr 2
    simp only [upd_get, aQ.none, List.mem_cons, List.not_mem_nil, or_false]
    repeat' split
    all_goals simp_all
def nm (s : ByteArray) : Bool := (sK F s).getD false
theorem nm_p {s : ByteArray} (hs : s.size ≤ 2000000) : sK F s = some (nm s) := by
 obtain ⟨b, h, _⟩ := aDL hs; unfold nm; rw [h]; rfl
theorem nm_r {s : ByteArray} (hs : s.size ≤ 2000000) : wH F s = some (nm s) := by
 obtain ⟨b, h, h2⟩ := aDL hs; unfold nm; rw [h, h2]; rfl
def okF : Option ByteArray → List ByteArray → Bool
 | _, [] => true
 | q, s :: l => nm s && (match q with | none => true | some q => slt q s) && okF (some s) l
theorem aFD {α : Type} {pre suf : List α} {y : α} (h : 0 < pre.length) : ∃ q, pre.getLast? = some q ∧ idx (pre ++ y :: suf) ((pre.length : Int) - 1) = some q := by
 have hne : pre ≠ [] := fun e => by rw [e] at h; simp at h
 have hd := List.dropLast_concat_getLast hne
 generalize pre.dropLast = d, pre.getLast hne = q at hd
 subst hd
 refine ⟨q, by simp, ?_⟩
 rw [show (((d ++ [q]).length : Int) - 1) = (d.length : Int) from by simp]
 exact bE (by simp)
theorem fl1 {nodes : List ScopeNode} {defs : List ScopeDef} {mn : Int} (suf : List ByteArray) : ∀ (pre : List ByteArray) (k : Nat), suf.length < k → pre.length + suf.length ≤ 3000000 → (∀ x ∈ suf, x.size ≤ 2000000) →
  nI F ⟨pre ++ suf, nodes, defs, mn⟩ k pre.length = some (if okF pre.getLast? suf = true then .inl () else .inr (.inr flaw)) := by
 induction suf with
 | nil =>
  intro pre k hk _ _
  obtain _ | k := k
  ·omega
  rw [nI, if_neg (by simp), if_pos (by rfl)]
 | cons e suf ih =>
  intro pre k hk hB hx
  obtain _ | k := k
  ·omega
  simp only [List.length_cons] at hk hB
  have hgl : (pre ++ [e]).getLast? = some e := by simp
  rw [nI, if_pos (cB _ _ _)]
  dsimp only
  rw [cA, bsm, nm_p (hx e (.head _)), bsm]
  have hst : okF pre.getLast? (e :: suf) = (nm e && (match pre.getLast? with | none => true | some q => slt q e) && okF (some e) suf) := by
   cases pre.getLast? <;> rfl
  cases hn : nm e with
  | false => rw [hst, hn, Bool.false_and, Bool.false_and]; rfl
  | true =>
   rw [cond_true]
   rw [hn, Bool.true_and] at hst
   have hnext := ih (pre ++ [e]) k (by omega) (by simp; omega) (fun x h => hx x (.tail _ h))
   rw [hgl] at hnext
   by_cases h0 : (pre.length : Int) = 0
   ·have : pre = [] := List.eq_nil_of_length_eq_zero (by omega)
    subst this
    have hst : okF ([] : List ByteArray).getLast? (e :: suf) = okF (some e) suf := by rw [hst]; rfl
    rw [if_pos h0, eV, bsm, hst]
    dsimp only
    rw [bsm]; dsimp only
    rw [aP (by simp), bsm, cE [] suf e, bS [] e, hnext]
   ·obtain ⟨q, h1, h2⟩ := aFD (pre := pre) (suf := suf) (y := e) (by omega)
    have hst : okF pre.getLast? (e :: suf) = (slt q e && okF (some e) suf) := by rw [hst, h1]
    rw [if_neg h0, aP (by omega), bsm, h2, bsm, hst]
    cases hl : slt q e with
    | false => rfl
    | true =>
     rw [eV, bsm, Bool.true_and]
     dsimp only
     rw [bsm]; dsimp only
     rw [aP (by omega), bsm, cE pre suf e, bS pre e, hnext]
theorem fr_bad {p : ScopeProg} (suf : List ByteArray) : ∀ (pre : List ByteArray) (k : Nat), p.Free = pre ++ suf → suf.length < k → pre.length + suf.length ≤ 3000000 → jZ F p k pre.length true = some true := by
 induction suf with
 | nil =>
  intro pre k he hk _
  obtain _ | k := k
  ·omega
  rw [jZ, he, if_neg (by simp)]
 | cons e suf ih =>
  intro pre k he hk hB
  obtain _ | k := k
  ·omega
  simp only [List.length_cons] at hk hB
  rw [jZ, he, if_pos (cB _ _ _), cond_true, bsm, aP (by omega), bsm, bS pre e]
  exact ih (pre ++ [e]) k (by rw [he]; simp) (by omega) (by simp; omega)
theorem fr1 {p : ScopeProg} (suf : List ByteArray) : ∀ (pre : List ByteArray) (k : Nat), p.Free = pre ++ suf → suf.length < k → pre.length + suf.length ≤ 3000000 → (∀ x ∈ suf, x.size ≤ 2000000) →
  jZ F p k pre.length false = some (!okF pre.getLast? suf) := by
 induction suf with
 | nil =>
  intro pre k he hk _ _
  obtain _ | k := k
  ·omega
  rw [jZ, he, if_neg (by simp)]; rfl
 | cons e suf ih =>
  intro pre k he hk hB hx
  obtain _ | k := k
  ·omega
  simp only [List.length_cons] at hk hB
  have hgl : (pre ++ [e]).getLast? = some e := by simp
  have hst : okF pre.getLast? (e :: suf) = (nm e && (match pre.getLast? with | none => true | some q => slt q e) && okF (some e) suf) := by
   cases pre.getLast? <;> rfl
  have hnext := ih (pre ++ [e]) k (by rw [he]; simp) (by omega) (by simp; omega) (fun x h => hx x (.tail _ h))
  have hbadn := fr_bad (p := p) suf (pre ++ [e]) k (by rw [he]; simp) (by omega) (by simp; omega)
  rw [hgl] at hnext
  rw [jZ, he, if_pos (cB _ _ _), cond_false, cA, bsm, nm_r (hx e (.head _)), bsm, hst]
  cases hn : nm e with
  | false =>
   rw [Bool.not_false, cond_true, bsm, aP (by omega), bsm, bS pre e, hbadn]; rfl
  | true =>
   rw [Bool.not_true, cond_false, Bool.true_and]
   by_cases h0 : 0 < (pre.length : Int)
   ·obtain ⟨q, h1, h2⟩ := aFD (pre := pre) (suf := suf) (y := e) (by omega)
    have hst2 : (match pre.getLast? with | none => true | some q => slt q e) = !sle e q := by rw [h1]; exact slt_sle q e
    rw [hst2, if_pos h0, bsm, aP (by omega), bsm, h2, bsm, bsm, aP (by omega), bsm, bS pre e]
    cases hl : sle e q with
    | true => rw [hbadn]; rfl
    | false => rw [hnext]; rfl
   ·have : pre = [] := List.eq_nil_of_length_eq_zero (by omega)
    subst this
    rw [if_neg h0, bsm, aP (by simp), bsm, bS [] e, hnext]; simp
end Go.Proofs.YtmnbfgeljmhekaaGreat
set_option maxRecDepth 100000
namespace Go.Proofs.YtmnbfgeljmhekaaGreat
open Go.SX Go.SW Go.Dt
def start (p : ScopeProg) : VS := ⟨List.replicate p.Nodes.length 0, List.replicate p.Nodes.length false, List.replicate p.Defs.length false⟩
open Classical in
noncomputable def eC (p : ScopeProg) : Option VS :=
 if p.Free.length ≤ 12 ∧ p.Nodes.length ≤ 60 ∧ p.Defs.length ≤ 12 ∧ okF none p.Free = true then
  (vis p p.Nodes.length (start p) p.Main p.Free.length).bind fun s => if s.met.all id = true ∧ s.dfs.all id = true then some s else none
 else none
theorem yO {p : ScopeProg} : WS p (start p) := ⟨by simp [start], by simp [start], by simp [start]⟩
theorem xJ {p : ScopeProg} : unm (start p) = p.Nodes.length := by simp [unm, start, List.countP_replicate]
def GD (p : ScopeProg) (s : VS) : Prop := ∀ i : Nat, s.dfs[i]? = some true → ∃ d, p.Defs[i]? = some d ∧ okD d = true
theorem xF {p : ScopeProg} {g : VS → Int → Int → Option VS} (h : ∀ s n z s', g s n z = some s' → GD p s → GD p s') : ∀ (l : List (Int × Int)) (s s' : VS), cJ g s l = some s' → GD p s → GD p s'
 | [], s, s', e, h0 => by cases e; exact h0
 | x :: l, s, s', e, h0 => by
  obtain ⟨s1, e1, e2⟩ := bind_some e
  exact xF h l s1 s' e2 (h _ _ _ _ e1 h0)
theorem vis_gd {p : ScopeProg} (f : Nat) : ∀ (s : VS) (n z : Int) (s' : VS), vis p f s n z = some s' → GD p s → GD p s' := by
 induction f with
 | zero => intro s n z s' h; simp [vis] at h
 | succ f ih =>
  intro s n z s' h h0
  simp only [vis] at h
  split at h
  ·obtain ⟨x, _, h⟩ := bind_some h
   split at h
   ·split at h
    ·obtain ⟨d, hd, h⟩ := bind_some h
     split at h
     ·rename_i hok
      obtain ⟨s1, e1, h⟩ := bind_some h
      obtain ⟨s2, e2, e3⟩ := bind_some h
      refine xF ih _ _ _ e3 (xF ih _ _ _ e2 (xF ih _ _ _ e1 ?_))
      intro i hi
      by_cases hn : x.N.toNat = i
      ·obtain ⟨j, hj, hj2, _⟩ := uN hd
       rw [← hn, hj]; simp only [Int.toNat_natCast]
       exact ⟨d, hj2, hok⟩
      ·simp only [List.getElem?_set_ne hn] at hi
       exact h0 i hi
     ·cases h
    ·exact xF ih _ _ _ h h0
   ·cases h
  ·cases h
theorem chk_defs {p : ScopeProg} {s : VS} (h : eC p = some s) : ∀ d ∈ p.Defs, okD d = true := by
 unfold eC at h
 split at h
 ·obtain ⟨s1, h1, h2⟩ := bind_some h
  split at h2
  ·rename_i hc
   cases h2
   have hg := vis_gd _ _ _ _ _ h1 (fun i hi => by simp [start, List.getElem?_replicate] at hi)
   have hw := ((visO p p.Nodes.length).out _ _ _ _ yO (by rw [xJ]; exact Nat.le_refl _) h1).1
   intro d hd
   obtain ⟨i, hi⟩ := List.mem_iff_getElem?.1 hd
   have hlt := (List.getElem?_eq_some_iff.1 hi).1
   have hlt2 : i < s.dfs.length := by rw [hw.dfs]; exact hlt
   have ht : s.dfs[i] = true := List.all_eq_true.1 hc.2 _ (List.getElem_mem hlt2)
   obtain ⟨d', h3, h4⟩ := hg i (by rw [List.getElem?_eq_getElem hlt2, ht])
   rw [hi] at h3; cases h3; exact h4
  ·cases h2
 ·cases h
theorem aGX (suf : List Bool) : ∀ (pre : List Bool) (k : Nat), suf.length < k → pre.length + suf.length ≤ 3000000 → ∃ r, pC (pre ++ suf) false k pre.length = some r ∧ ((suf.all id = false ∧ ∃ i : Int, r = .inr i ∧ 0 ≤ i) ∨ (suf.all id = true ∧ r = .inl ())) := by
 induction suf with
 | nil =>
  intro pre k hk _
  obtain _ | k := k
  ·omega
  exact ⟨_, by rw [pC, if_neg (by simp)], .inr ⟨rfl, rfl⟩⟩
 | cons e suf ih =>
  intro pre k hk hB
  obtain _ | k := k
  ·omega
  simp only [List.length_cons] at hk hB
  rw [pC, if_pos (cB _ _ _), cA, bsm]
  cases e with
  | false => exact ⟨_, rfl, .inl ⟨rfl, _, rfl, by omega⟩⟩
  | true =>
   rw [show (false == true) = false from rfl, cond_false, aP (by omega), bsm, cE pre suf true, bS pre true]
   obtain ⟨r, h1, h2⟩ := ih (pre ++ [true]) k (by omega) (by simp; omega)
   exact ⟨r, h1, by simpa using h2⟩
theorem aDG {l : List Bool} (h : l.length ≤ 3000000) : wC F l false = some (!l.all id) := by
 obtain ⟨r, h1, h2⟩ := aGX l [] F (by show l.length < 4000000; omega) (by simp; omega)
 simp only [List.nil_append, List.length_nil, Int.natCast_zero] at h1
 rw [wC, aBc, h1]
 rcases h2 with ⟨h2, i, rfl, h3⟩ | ⟨h2, rfl⟩
 ·rw [h2]; simp [h3]
 ·rw [h2]; rfl
theorem aDV {p : ScopeProg} (hp : SmP p) : wE F p = some (lD p (eC p)) := by
 obtain ⟨fr, nodes, defs, mn⟩ := p
 have hf := hp.free; have hn := hp.nodes; have hd := hp.defs
 dsimp only at hf hn hd
 rw [wE]
 dsimp only
 unfold eC
 dsimp only
 by_cases l1 : fr.length ≤ 12
 ·rw [if_pos (by omega)]
  by_cases l2 : nodes.length ≤ 60
  ·rw [if_pos (by omega)]
   by_cases l3 : defs.length ≤ 12
   ·rw [decide_eq_true (by omega), eV, bsm, bsm]
    dsimp only
    have e1 : nI F ⟨fr, nodes, defs, mn⟩ F 0 = some (if okF none fr = true then .inl () else .inr (.inr flaw)) := fl1 (nodes := nodes) (defs := defs) (mn := mn) fr [] F (by show fr.length < 4000000; omega) (by simp; omega) hp.names
    rw [e1, bsm]
    by_cases hok : okF none fr = true
    ·rw [if_pos hok, if_pos ⟨l1, l2, l3, hok⟩]
     dsimp only
     have hmk : ∀ {α : Type} (a : α) (k : Nat), k ≤ 60 → mk a (k : Int) = some (List.replicate k a) := fun a k hk => by unfold mk; rw [if_pos (by omega)]; simp
     rw [hmk 0 _ l2, bsm, hmk false _ l2, bsm, hmk false _ (by omega), bsm]
     have hv := pvis hp (b := 4000000 - nodes.length - 1) (by omega) nodes.length
     rw [show 4000000 - nodes.length - 1 + nodes.length + 1 = F from by show _ = 4000000; omega] at hv
     have hrun := hv.run (start ⟨fr, nodes, defs, mn⟩) mn fr.length yO (by rw [xJ]; exact Nat.le_refl _) (by omega) (by omega)
     rw [show (⟨⟨fr, nodes, defs, mn⟩, List.replicate nodes.length 0, List.replicate nodes.length false, List.replicate defs.length false⟩ : Scope_looker) = ⟨⟨fr, nodes, defs, mn⟩, (start ⟨fr, nodes, defs, mn⟩).sz, (start ⟨fr, nodes, defs, mn⟩).met, (start ⟨fr, nodes, defs, mn⟩).dfs⟩ from rfl, hrun, bsm]
     cases hc : vis ⟨fr, nodes, defs, mn⟩ nodes.length (start ⟨fr, nodes, defs, mn⟩) mn fr.length with
     | none => rfl
     | some s =>
      obtain ⟨w, _⟩ := (visO _ _).out _ _ _ _ yO (by rw [xJ]; exact Nat.le_refl _) hc
      have wm : s.met.length = nodes.length := w.met
      have wd : s.dfs.length = defs.length := w.dfs
      simp only [lD]
      rw [bsm, aDG (by omega), bsm]
      cases hm : s.met.all id with
      | false => rw [if_neg (fun q => by cases q.1)]; rfl
      | true =>
       rw [Bool.not_true, Bool.not_false, cond_true, aDG (by omega), bsm]
       cases hm2 : s.dfs.all id with
       | false => rw [if_neg (fun q => by cases q.2)]; rfl
       | true => rw [if_pos ⟨rfl, rfl⟩]; rfl
    ·rw [if_neg hok, if_neg (fun q => hok q.2.2.2)]; rfl
   ·rw [decide_eq_false (by omega), cV, if_neg (fun q => l3 q.2.2.1)]; rfl
  ·rw [if_neg (by omega), cV, if_neg (fun q => l2 q.2.1)]; rfl
 ·rw [if_neg (by omega), cV, if_neg (fun q => l1 q.1)]; rfl
theorem aEs {p : ScopeProg} (hp : SmP p) : sJ F p = some (if (eC p).isSome = true then 0 else 2) := by
 rw [sJ, aBe, show (⟨p.Free, p.Nodes, p.Defs, p.Main⟩ : ScopeProg) = p from rfl, aDV hp, bsm]
 cases eC p with
 | none => rfl
 | some s => rfl
theorem aE4 {p : ScopeProg} (suf : List ScopeDef) : ∀ (pre : List ScopeDef) (k : Nat), p.Defs = pre ++ suf → suf.length < k → pre.length + suf.length ≤ 3000000 → kY F p k pre.length true = some true := by
 induction suf with
 | nil =>
  intro pre k he hk _
  obtain _ | k := k
  ·omega
  rw [kY, he, if_neg (by simp)]
 | cons e suf ih =>
  intro pre k he hk hB
  obtain _ | k := k
  ·omega
  simp only [List.length_cons] at hk hB
  rw [kY, he, if_pos (cB _ _ _), cond_true, bsm, aP (by omega), bsm, bS pre e]
  exact ih (pre ++ [e]) k (by rw [he]; simp) (by omega) (by simp; omega)
theorem al2 {p : ScopeProg} (hp : SmP p) (suf : List ScopeDef) : ∀ (pre : List ScopeDef) (k : Nat), p.Defs = pre ++ suf → suf.length < k → pre.length + suf.length ≤ 3000000 → kY F p k pre.length false = some (!suf.all okD) := by
 induction suf with
 | nil =>
  intro pre k he hk _
  obtain _ | k := k
  ·omega
  rw [kY, he, if_neg (by simp)]; rfl
 | cons e suf ih =>
  intro pre k he hk hB
  obtain _ | k := k
  ·omega
  simp only [List.length_cons] at hk hB
  have hmem : e ∈ p.Defs := by rw [he]; simp
  rw [kY, he, if_pos (cB _ _ _), cond_false, cA, bsm, rdef_eq (by show 3000000 ≤ 4000000; omega) (hp.dfs e hmem), bsm, bsm, aP (by omega), bsm, bS pre e]
  cases h : okD e with
  | false => rw [Bool.not_false, aE4 suf (pre ++ [e]) k (by rw [he]; simp) (by omega) (by simp; omega), show (e :: suf).all okD = (okD e && suf.all okD) from rfl, h]; rfl
  | true => rw [Bool.not_true, ih (pre ++ [e]) k (by rw [he]; simp) (by omega) (by simp; omega), show (e :: suf).all okD = (okD e && suf.all okD) from rfl, h, Bool.true_and]
theorem aEP {L : Ref03_look} (suf : List Int) : ∀ (pre : List Int) (k : Nat), L.owner = pre ++ suf → suf.length < k → pre.length + suf.length ≤ 3000000 → kE L k pre.length true = some true := by
 induction suf with
 | nil =>
  intro pre k he hk _
  obtain _ | k := k
  ·omega
  rw [kE, he, if_neg (by simp)]
 | cons e suf ih =>
  intro pre k he hk hB
  obtain _ | k := k
  ·omega
  simp only [List.length_cons] at hk hB
  rw [kE, he, if_pos (cB _ _ _), cond_true, bsm, aP (by omega), bsm, bS pre e]
  exact ih (pre ++ [e]) k (by rw [he]; simp) (by omega) (by simp; omega)
theorem aBW {L : Ref03_look} (suf : List Int) : ∀ (pre : List Int) (k : Nat), L.users = pre ++ suf → suf.length < k → pre.length + suf.length ≤ 3000000 → kI L k pre.length true = some true := by
 induction suf with
 | nil =>
  intro pre k he hk _
  obtain _ | k := k
  ·omega
  rw [kI, he, if_neg (by simp)]
 | cons e suf ih =>
  intro pre k he hk hB
  obtain _ | k := k
  ·omega
  simp only [List.length_cons] at hk hB
  rw [kI, he, if_pos (cB _ _ _), cond_true, bsm, aP (by omega), bsm, bS pre e]
  exact ih (pre ++ [e]) k (by rw [he]; simp) (by omega) (by simp; omega)
theorem al3 {L : Ref03_look} (suf : List Bool) : ∀ (pre : List Int) (k : Nat), L.owner = pre ++ ob suf → suf.length < k → pre.length + suf.length ≤ 3000000 → kE L k pre.length false = some (!suf.all id) := by
 induction suf with
 | nil =>
  intro pre k he hk _
  obtain _ | k := k
  ·omega
  rw [kE, he, if_neg (by simp [ob])]; rfl
 | cons e suf ih =>
  intro pre k he hk hB
  obtain _ | k := k
  ·omega
  simp only [List.length_cons] at hk hB
  have hob : ob (e :: suf) = (if e = true then 1 else 0) :: ob suf := rfl
  rw [hob] at he
  have he2 := he; rw [cE] at he2
  rw [kE, he, if_pos (cB _ _ _), cond_false, cA, bsm, bsm, aP (by omega), bsm, bS pre (if e = true then 1 else 0)]
  cases e with
  | false =>
   rw [if_neg Bool.false_ne_true] at he2 ⊢
   rw [decide_eq_true (by omega), aEP (ob suf) (pre ++ [0]) k he2 (by rw [jJ]; omega) (by rw [jJ]; simp; omega)]; rfl
  | true =>
   rw [if_pos rfl] at he2 ⊢
   rw [decide_eq_false (by omega), ih (pre ++ [1]) k he2 (by omega) (by simp; omega)]; simp
theorem al4 {L : Ref03_look} (suf : List Bool) : ∀ (pre : List Int) (k : Nat), L.users = pre ++ ob suf → suf.length < k → pre.length + suf.length ≤ 3000000 → kI L k pre.length false = some (!suf.all id) := by
 induction suf with
 | nil =>
  intro pre k he hk _
  obtain _ | k := k
  ·omega
  rw [kI, he, if_neg (by simp [ob])]; rfl
 | cons e suf ih =>
  intro pre k he hk hB
  obtain _ | k := k
  ·omega
  simp only [List.length_cons] at hk hB
  have hob : ob (e :: suf) = (if e = true then 1 else 0) :: ob suf := rfl
  rw [hob] at he
  have he2 := he; rw [cE] at he2
  rw [kI, he, if_pos (cB _ _ _), cond_false, cA, bsm, bsm, aP (by omega), bsm, bS pre (if e = true then 1 else 0)]
  cases e with
  | false =>
   rw [if_neg Bool.false_ne_true] at he2 ⊢
   rw [decide_eq_true (by omega), aBW (ob suf) (pre ++ [0]) k he2 (by rw [jJ]; omega) (by rw [jJ]; simp; omega)]; rfl
  | true =>
   rw [if_pos rfl] at he2 ⊢
   rw [decide_eq_false (by omega), ih (pre ++ [1]) k he2 (by omega) (by simp; omega)]; simp
def AOut (p : ScopeProg) (o : Option VS) (L : Ref03_look) : Prop := match o with
 | some s => L = ⟨p, s.sz, ob s.met, ob s.dfs, false⟩
 | none => L.bad = true
theorem hQ {p : ScopeProg} (hp : SmP p) : ∃ L, vN F p = some L ∧ AOut p (eC p) L := by
 have hdefs : eC p ≠ none → ∀ d ∈ p.Defs, okD d = true := fun h => by
  cases hc : eC p with
  | none => exact absurd hc h
  | some s => exact chk_defs hc
 obtain ⟨fr, nodes, defs, mn⟩ := p
 have hf := hp.free; have hn := hp.nodes; have hd := hp.defs
 dsimp only at hf hn hd
 rw [vN]
 dsimp only
 have hno : ∀ (q : ¬ (fr.length ≤ 12 ∧ nodes.length ≤ 60 ∧ defs.length ≤ 12 ∧ okF none fr = true)), eC ⟨fr, nodes, defs, mn⟩ = none := fun q => by unfold eC; rw [if_neg q]
 by_cases l1 : 12 < fr.length
 ·rw [if_pos (by omega), hno (fun q => by omega)]; exact ⟨_, rfl, rfl⟩
 ·rw [if_neg (by omega)]
  by_cases l2 : 60 < nodes.length
  ·rw [if_pos (by omega), hno (fun q => by omega)]; exact ⟨_, rfl, rfl⟩
  ·rw [if_neg (by omega)]
   by_cases l3 : 12 < defs.length
   ·rw [if_pos (by omega), hno (fun q => by omega)]; exact ⟨_, rfl, rfl⟩
   ·rw [if_neg (by omega)]
    have e1 : jZ F ⟨fr, nodes, defs, mn⟩ F 0 false = some (!okF none fr) := fr1 (p := ⟨fr, nodes, defs, mn⟩) fr [] F rfl (by show fr.length < 4000000; omega) (by simp; omega) hp.names
    have hmk : ∀ (k : Nat), k ≤ 60 → mk (0 : Int) (k : Int) = some (List.replicate k 0) := fun k hk => by unfold mk; rw [if_pos (by omega)]; simp
    rw [e1, bsm]
    cases hok : okF none fr with
    | false =>
     have e2 := aE4 (p := ⟨fr, nodes, defs, mn⟩) defs [] F rfl (by show defs.length < 4000000; omega) (by simp; omega)
     simp only [List.length_nil, Int.natCast_zero] at e2
     rw [Bool.not_false, e2, bsm, hmk _ (by omega), bsm, bsm, hmk _ (by omega), bsm, cond_true, hno (fun q => by rw [hok] at q; cases q.2.2.2)]
     exact ⟨_, rfl, rfl⟩
    | true =>
     have e2 := al2 hp (p := ⟨fr, nodes, defs, mn⟩) defs [] F rfl (by show defs.length < 4000000; omega) (by simp; omega)
     simp only [List.length_nil, Int.natCast_zero] at e2
     rw [Bool.not_true, e2, bsm, hmk _ (by omega), bsm, bsm, hmk _ (by omega), bsm]
     cases had : defs.all okD with
     | false =>
      have : eC ⟨fr, nodes, defs, mn⟩ = none := by
       cases hc : eC ⟨fr, nodes, defs, mn⟩ with
       | none => rfl
       | some s =>
        have := List.all_eq_true.2 (hdefs (by rw [hc]; simp))
        dsimp only at this
        rw [had] at this; cases this
      rw [this, Bool.not_false, cond_true]
      exact ⟨_, rfl, rfl⟩
     | true =>
      rw [Bool.not_true, cond_false]
      have hv := rvis hp (List.all_eq_true.1 had) nodes.length F (by show _ ≤ 4000000; omega)
      obtain ⟨L, h1, h2⟩ := hv.run (start ⟨fr, nodes, defs, mn⟩) mn fr.length yO (by rw [xJ]; exact Nat.le_refl _) (by omega) (by omega)
      have hst : (⟨⟨fr, nodes, defs, mn⟩, List.replicate nodes.length 0, List.replicate nodes.length 0, List.replicate defs.length 0, false⟩ : Ref03_look) = ⟨⟨fr, nodes, defs, mn⟩, (start ⟨fr, nodes, defs, mn⟩).sz, ob (start ⟨fr, nodes, defs, mn⟩).met, ob (start ⟨fr, nodes, defs, mn⟩).dfs, false⟩ := by
       simp [start, ob_rep]
      rw [hst, h1, bsm]
      have hcv : eC ⟨fr, nodes, defs, mn⟩ = (vis ⟨fr, nodes, defs, mn⟩ nodes.length (start ⟨fr, nodes, defs, mn⟩) mn fr.length).bind fun s => if s.met.all id = true ∧ s.dfs.all id = true then some s else none := by
       unfold eC; rw [if_pos ⟨by show fr.length ≤ 12; omega, by show nodes.length ≤ 60; omega, by show defs.length ≤ 12; omega, hok⟩]
      rw [hcv]
      cases hc : vis ⟨fr, nodes, defs, mn⟩ nodes.length (start ⟨fr, nodes, defs, mn⟩) mn fr.length with
      | none =>
       rw [hc] at h2
       obtain ⟨g1, g2, g3⟩ := h2
       dsimp only at g2 g3
       have e3 := aEP (L := L) L.owner [] F rfl (by rw [g2]; show nodes.length < 4000000; omega) (by simp; omega)
       have e4 := aBW (L := L) L.users [] F rfl (by rw [g3]; show defs.length < 4000000; omega) (by simp; omega)
       simp only [List.length_nil, Int.natCast_zero] at e3 e4
       rw [g1, e3, bsm, e4, bsm]
       exact ⟨_, rfl, rfl⟩
      | some s =>
       rw [hc] at h2
       have h2 : L = _ := h2
       subst h2
       obtain ⟨w, _⟩ := (visO _ _).out _ _ _ _ yO (by rw [xJ]; exact Nat.le_refl _) hc
       have wm : s.met.length = nodes.length := w.met
       have wd : s.dfs.length = defs.length := w.dfs
       have e3 := al3 (L := ⟨⟨fr, nodes, defs, mn⟩, s.sz, ob s.met, ob s.dfs, false⟩) s.met [] F rfl (by show s.met.length < 4000000; omega) (by simp; omega)
       simp only [List.length_nil, Int.natCast_zero] at e3
       dsimp only
       rw [e3, bsm, bsm]
       cases hm : s.met.all id with
       | false =>
        have e4 := aBW (L := ⟨⟨fr, nodes, defs, mn⟩, s.sz, ob s.met, ob s.dfs, false⟩) (ob s.dfs) [] F rfl (by rw [jJ]; show s.dfs.length < 4000000; omega) (by rw [jJ]; simp; omega)
        simp only [List.length_nil, Int.natCast_zero] at e4
        rw [Bool.not_false, e4, bsm, if_neg (fun q => by cases q.1)]
        exact ⟨_, rfl, rfl⟩
       | true =>
        have e4 := al4 (L := ⟨⟨fr, nodes, defs, mn⟩, s.sz, ob s.met, ob s.dfs, false⟩) s.dfs [] F rfl (by show s.dfs.length < 4000000; omega) (by simp; omega)
        simp only [List.length_nil, Int.natCast_zero] at e4
        rw [Bool.not_true, e4, bsm]
        cases hm2 : s.dfs.all id with
        | false => rw [if_neg (fun q => by cases q.2)]; exact ⟨_, rfl, rfl⟩
        | true => rw [if_pos ⟨rfl, rfl⟩]; exact ⟨_, rfl, rfl⟩
theorem aE0 {p : ScopeProg} (hp : SmP p) : tV F p = some (if (eC p).isSome = true then 0 else 2) := by
 obtain ⟨L, h1, h2⟩ := hQ hp
 rw [tV, show (⟨p.Free, p.Nodes, p.Defs, p.Main⟩ : ScopeProg) = p from rfl, h1, bsm]
 cases hc : eC p with
 | none => rw [hc] at h2; have h2 : L.bad = true := h2; rw [h2]; rfl
 | some s => rw [hc] at h2; have h2 : L = _ := h2; subst h2; rfl
theorem aJt {p : ScopeProg} (hp : SmP p) {s : VS} (h : eC p = some s) : aAO F p = some s.sz := by
 obtain ⟨L, h1, h2⟩ := hQ hp
 rw [h] at h2
 have h2 : L = _ := h2
 subst h2
 rw [aAO, show (⟨p.Free, p.Nodes, p.Defs, p.Main⟩ : ScopeProg) = p from rfl, h1, bsm]
end Go.Proofs.YtmnbfgeljmhekaaGreat
set_option maxRecDepth 100000
namespace Go.Proofs.YtmnbfgeljmhekaaGreat
open Go.SX Go.SW Go.Dt
theorem aGs {p : ScopeProg} {sz : List Int} {met dfs : List Bool} (hl : sz.length = p.Nodes.length) (hB : sz.length ≤ 1000) : ∀ (d i k : Nat), i + d = sz.length → d < k → mR ⟨p, sz, met, dfs⟩ p (fun x => sU x.1 x.2) k (sz.take i) i = some sz
 | 0, i, k, h, hk => by
  obtain _ | k := k
  ·omega
  rw [mR, if_neg (by omega), List.take_of_length_le (by omega)]
 | d + 1, i, k, h, hk => by
  obtain _ | k := k
  ·omega
  have hi : i < sz.length := by omega
  rw [mR, if_pos (by omega)]
  dsimp only
  rw [sU, show idx sz (i : Int) = some sz[i] from bE (List.getElem?_eq_getElem hi), bsm, bsm]
  have hr : dN (sz.take i ++ [sz[i]]) = some (sz.take (i + 1)) := by
   have : sz.take i ++ [sz[i]] = sz.take (i + 1) := by rw [List.take_add_one, List.getElem?_eq_getElem hi]; rfl
   rw [this]; unfold dN; rw [if_pos (by simp; omega)]
  rw [hr, bsm, aP (by omega), bsm]
  exact aGs hl hB d (i + 1) k (by omega) (by omega)
theorem sizes_eq {p : ScopeProg} (hp : SmP p) {s : VS} (h : eC p = some s) (hl : s.sz.length = p.Nodes.length) (hB : p.Nodes.length ≤ 60) : uY F p = some (s.sz, 0) := by
 have e := aGs (p := p) (sz := s.sz) (met := s.met) (dfs := s.dfs) hl (by omega) s.sz.length 0 F (by omega) (by rw [hl]; show _ < 4000000; omega)
 rw [List.take_zero] at e
 rw [uY, aAP, zC, show (⟨p.Free, p.Nodes, p.Defs, p.Main⟩ : ScopeProg) = p from rfl, aDV hp, bsm, h]
 simp only [lD]
 rw [yI]
 have e' : mR ⟨p, s.sz, s.met, s.dfs⟩ p (fun x => sU x.1 x.2) F [] 0 = some s.sz := e
 rw [e', bsm, bsm, bsm, bsm]
abbrev E := List (Option (Int × Int))
def chs (m : Int) (d : ScopeDef) : E := (List.range d.Chans.length).map fun c : Nat => some (m, (c : Int))
def inE (e : E) (m : Int) (d : ScopeDef) : E := e ++ chs m d ++ List.replicate d.Spots.length none
def ruE (e : E) (m : Int) (d : ScopeDef) (r : ScopeRule) : E := inE e m d ++ List.replicate (brs d.Chans r.Joins).toNat none
def subs (p : ScopeProg) (x : ScopeNode) (e : E) : List (Int × E) :=
 if x.Op = 4 then match idx p.Defs x.N with
  | some d => d.Rules.map (fun r => (r.Node, ruE e x.N d r)) ++ (d.Spots.map (fun y => (y.Node, inE e x.N d)) ++ x.Kids.map (fun k => (k, inE e x.N d)))
  | none => []
 else x.Kids.map (fun k => (k, e))
def LN (p : ScopeProg) : Nat → Int × E → List (Int × E)
 | 0, _ => []
 | h + 1, q => q :: (match idx p.Nodes q.1 with | some x => (subs p x q.2).flatMap (LN p h) | none => [])
def HN (p : ScopeProg) : Nat → Int × E → List (Int × Int)
 | 0, _ => []
 | h + 1, q => match idx p.Nodes q.1 with | some x => (if x.Op = 4 then [(x.N, q.1)] else []) ++ (subs p x q.2).flatMap (HN p h) | none => []
def okT (p : ScopeProg) (x : ScopeNode) (size : Int) : Prop :=
 ((x.Op = 1 ∨ x.Op = 7) ∧ x.Kids.length = 0) ∨ ((x.Op = 3 ∨ x.Op = 5) ∧ x.Kids.length = 2) ∨ (x.Op = 2 ∧ x.Args.length ≤ 3 ∧ x.Kids.length = 0 ∧ 0 ≤ x.N ∧ x.N < size) ∨ ((x.Op = 6 ∨ x.Op = 8) ∧ x.Kids.length = 1) ∨ (x.Op = 4 ∧ x.Kids.length = 1 ∧ 0 ≤ x.N ∧ ∃ d, idx p.Defs x.N = some d ∧ okD d = true)
def Tr (p : ScopeProg) : Nat → Int × E → Prop
 | 0, _ => False
 | h + 1, q => ∃ x, idx p.Nodes q.1 = some x ∧ 0 ≤ q.1 ∧ okT p x q.2.length ∧ ∀ k ∈ subs p x q.2, Tr p h k
structure Chg (s s' : VS) (N : List (Int × E)) (D : List (Int × Int)) : Prop where
 nn : (N.map (·.1)).Nodup
 dn : (D.map (·.1)).Nodup
 new : ∀ q ∈ N, idx s.met q.1 = some false ∧ idx s'.met q.1 = some true ∧ idx s'.sz q.1 = some (q.2.length : Int)
 newd : ∀ q ∈ D, idx s.dfs q.1 = some false ∧ idx s'.dfs q.1 = some true
 old : ∀ i, i ∉ N.map (·.1) → idx s'.met i = idx s.met i ∧ idx s'.sz i = idx s.sz i
 oldd : ∀ i, i ∉ D.map (·.1) → idx s'.dfs i = idx s.dfs i
 ls : s'.sz.length = s.sz.length
 lm : s'.met.length = s.met.length
theorem Chg.nil {s : VS} : Chg s s [] [] := ⟨List.nodup_nil, List.nodup_nil, fun i h => (by cases h), fun i h => (by cases h), fun i _ => ⟨rfl, rfl⟩, fun i _ => rfl, rfl, rfl⟩
theorem Chg.trans {s s1 s2 : VS} {N N' : List (Int × E)} {D D' : List (Int × Int)} (h : Chg s s1 N D) (k : Chg s1 s2 N' D') : Chg s s2 (N ++ N') (D ++ D') := by
 have hd : ∀ i ∈ N.map (·.1), i ∉ N'.map (·.1) := fun i hi hi' => by
  obtain ⟨q, hq, rfl⟩ := List.mem_map.1 hi
  obtain ⟨q', hq', e⟩ := List.mem_map.1 hi'
  have a := (h.new q hq).2.1
  have b := (k.new q' hq').1
  rw [e, a] at b; cases b
 have hdd : ∀ i ∈ D.map (·.1), i ∉ D'.map (·.1) := fun i hi hi' => by
  obtain ⟨q, hq, rfl⟩ := List.mem_map.1 hi
  obtain ⟨q', hq', e⟩ := List.mem_map.1 hi'
  have a := (h.newd q hq).2
  have b := (k.newd q' hq').1
  rw [e, a] at b; cases b
 refine ⟨?_, ?_, fun q hq => ?_, fun q hq => ?_, fun i hi => ?_, fun i hi => ?_, by rw [k.ls, h.ls], by rw [k.lm, h.lm]⟩
 ·rw [List.map_append]; exact List.nodup_append.2 ⟨h.nn, k.nn, fun a ha b hb e => hd a ha (e ▸ hb)⟩
 ·rw [List.map_append]; exact List.nodup_append.2 ⟨h.dn, k.dn, fun a ha b hb e => hdd a ha (e ▸ hb)⟩
 ·rcases List.mem_append.1 hq with hq | hq
  ·have o := k.old q.1 (hd _ (List.mem_map.2 ⟨q, hq, rfl⟩))
   obtain ⟨a, b, c⟩ := h.new q hq
   exact ⟨a, by rw [o.1, b], by rw [o.2, c]⟩
  ·have o := h.old q.1 (fun z => hd _ z (List.mem_map.2 ⟨q, hq, rfl⟩))
   obtain ⟨a, b, c⟩ := k.new q hq
   exact ⟨by rw [← o.1, a], b, c⟩
 ·rcases List.mem_append.1 hq with hq | hq
  ·have o := k.oldd q.1 (hdd _ (List.mem_map.2 ⟨q, hq, rfl⟩))
   obtain ⟨a, b⟩ := h.newd q hq
   exact ⟨a, by rw [o, b]⟩
  ·have o := h.oldd q.1 (fun z => hdd _ z (List.mem_map.2 ⟨q, hq, rfl⟩))
   obtain ⟨a, b⟩ := k.newd q hq
   exact ⟨by rw [← o, a], b⟩
 ·rw [List.map_append, List.mem_append, not_or] at hi
  have a := h.old i hi.1
  have b := k.old i hi.2
  exact ⟨by rw [b.1, a.1], by rw [b.2, a.2]⟩
 ·rw [List.map_append, List.mem_append, not_or] at hi
  rw [k.oldd i hi.2, h.oldd i hi.1]
def mark (s : VS) (n z : Int) (x : ScopeNode) : VS := ⟨s.sz.set n.toNat z, s.met.set n.toNat true, if x.Op = 4 then s.dfs.set x.N.toNat true else s.dfs⟩
theorem xO {g : VS → Int → Int → Option VS} : ∀ (l m : List (Int × Int)) (s : VS), cJ g s (l ++ m) = (cJ g s l).bind fun s => cJ g s m
 | [], m, s => rfl
 | x :: l, m, s => by
  simp only [List.cons_append, cJ]
  cases g s x.1 x.2 with
  | none => rfl
  | some s1 => exact xO l m s1
theorem aDW {m : Int} {d : ScopeDef} : (chs m d).length = d.Chans.length := by simp [chs]
theorem pO {e : E} {m : Int} {d : ScopeDef} : ((inE e m d).length : Int) = e.length + own d := by simp only [inE, own, List.length_append, aDW, List.length_replicate]; omega
theorem zP {e : E} {m : Int} {d : ScopeDef} {r : ScopeRule} (h : okD d = true) (hr : r ∈ d.Rules) : ((ruE e m d r).length : Int) = e.length + own d + brs d.Chans r.Joins := by
 have b := rW (ch := d.Chans) (js := r.Joins) ((dT h).2.2.2.2 r hr).2
 rw [ruE, List.length_append, List.length_replicate]
 have := pO (e := e) (m := m) (d := d)
 omega
theorem aFq {p : ScopeProg} {f : Nat} {s s' : VS} {n : Int} {e : E} (h : vis p (f + 1) s n e.length = some s') :
  ∃ x, idx p.Nodes n = some x ∧ 0 ≤ n ∧ idx s.met n = some false ∧ okT p x e.length ∧ (x.Op = 4 → idx s.dfs x.N = some false) ∧ cJ (vis p f) (mark s n e.length x) ((subs p x e).map fun q => (q.1, (q.2.length : Int))) = some s' := by
 simp only [vis] at h
 split at h
 ·rename_i h1
  cases hx : idx p.Nodes n with
  | none => rw [hx] at h; cases h
  | some x =>
   rw [hx, bsm] at h
   split at h
   ·rename_i h2
    refine ⟨x, rfl, h1.1, h1.2.2, ?_⟩
    obtain ⟨⟨k, c, hk, hl, hm⟩, _⟩ := h2
    split at h
    ·rename_i h4
     have hm' : (0 ≤ x.N ∧ x.N < (p.Defs.length : Int) ∧ idx s.dfs x.N = some false) ∧ x.Args.length = 0 := by
      rw [h4] at hk
      simp [shp] at hk
      obtain ⟨rfl, rfl⟩ := hk
      exact hm
     have hk1 : x.Kids.length = 1 := by
      rw [h4] at hk
      simp [shp] at hk
      omega
     cases hd : idx p.Defs x.N with
     | none => rw [hd] at h; cases h
     | some d =>
      rw [hd, bsm] at h
      split at h
      ·rename_i h5
       refine ⟨Or.inr (Or.inr (Or.inr (Or.inr ⟨h4, hk1, hm'.1.1, d, hd, h5⟩))), fun _ => hm'.1.2.2, ?_⟩
       rw [subs, if_pos h4, hd, mark, if_pos h4]
       dsimp only
       rw [List.map_append, List.map_append, xO]
       have e1 : (d.Rules.map (fun r => (r.Node, ruE e x.N d r))).map (fun q => (q.1, (q.2.length : Int))) = d.Rules.map fun r => (r.Node, (e.length : Int) + own d + brs d.Chans r.Joins) := by
        rw [List.map_map]; exact List.map_congr_left fun r hr => by show (r.Node, ((ruE e x.N d r).length : Int)) = _; rw [zP h5 hr]
       have e2 : (d.Spots.map (fun y => (y.Node, inE e x.N d))).map (fun q => (q.1, (q.2.length : Int))) = d.Spots.map fun y => (y.Node, (e.length : Int) + own d) := by
        rw [List.map_map]; exact List.map_congr_left fun r hr => by show (r.Node, ((inE e x.N d).length : Int)) = _; rw [pO]
       have e3 : (x.Kids.map (fun y => (y, inE e x.N d))).map (fun q => (q.1, (q.2.length : Int))) = x.Kids.map fun y => (y, (e.length : Int) + own d) := by
        rw [List.map_map]; exact List.map_congr_left fun r hr => by show (r, ((inE e x.N d).length : Int)) = _; rw [pO]
       rw [e1, e2, e3]
       obtain ⟨s1, a1, h⟩ := bind_some h
       rw [a1, bsm, xO]
       exact h
      ·cases h
    ·rename_i h4
     refine ⟨?_, fun q => absurd q h4, ?_⟩
     ·unfold shp at hk
      repeat' split at hk
      all_goals first | (cases hk; done) | skip
      all_goals cases hk
      ·left; exact ⟨‹_›, hl⟩
      ·right; left; exact ⟨Or.inl ‹_›, hl⟩
      ·right; right; left; exact ⟨‹_›, hm.2, hl, hm.1.1, hm.1.2⟩
      ·right; left; exact ⟨Or.inr ‹_›, hl⟩
      ·right; right; right; left; exact ⟨‹_›, hl⟩
     ·rw [subs, if_neg h4, mark, if_neg h4, List.map_map]
      exact h
   ·cases h
 ·cases h
theorem aFP {p : ScopeProg} {f : Nat} (g : Nat) (ih : ∀ (s s' : VS) (q : Int × E), vis p f s q.1 q.2.length = some s' → s.sz.length = s.met.length → Chg s s' (LN p g q) (HN p g q) ∧ Tr p g q) : ∀ (l : List (Int × E)) (s s' : VS), cJ (vis p f) s (l.map fun q => (q.1, (q.2.length : Int))) = some s' → s.sz.length = s.met.length → Chg s s' (l.flatMap (LN p g)) (l.flatMap (HN p g)) ∧ ∀ q ∈ l, Tr p g q
 | [], s, s', h, _ => by cases h; exact ⟨Chg.nil, fun q h => by cases h⟩
 | q :: l, s, s', h, w => by
  simp only [List.map_cons, cJ] at h
  obtain ⟨s1, h1, h2⟩ := bind_some h
  obtain ⟨a, b⟩ := ih s s1 q h1 w
  obtain ⟨c, d⟩ := aFP g ih l s1 s' h2 (by rw [a.ls, a.lm, w])
  refine ⟨?_, fun q' hq' => ?_⟩
  ·simp only [List.flatMap_cons]; exact a.trans c
  ·cases hq' with
   | head => exact b
   | tail _ hq' => exact d q' hq'
theorem xM {α : Type} {l : List α} {n : Int} {b : α} (h0 : 0 ≤ n) (h : n < l.length) : idx (l.set n.toNat b) n = some b := by
 have : idx (l.set n.toNat b) (n.toNat : Int) = some b := bE (by rw [List.getElem?_set, if_pos rfl, if_pos (by omega)])
 rwa [Int.toNat_of_nonneg h0] at this
theorem wN {α : Type} {l : List α} {n i : Int} {b : α} (h0 : 0 ≤ n) (h : i ≠ n) : idx (l.set n.toNat b) i = idx l i := by
 unfold idx
 split
 ·rename_i hi
  exact List.getElem?_set_ne (by omega)
 ·rfl
theorem eA {α : Type} {l : List α} {n : Int} {a : α} (h : idx l n = some a) : 0 ≤ n ∧ n < l.length := by
 by_cases c : 0 ≤ n ∧ n < l.length
 ·exact c
 ·rw [kJ c] at h; cases h
theorem aDI {s : VS} {n : Int} {e : E} {x : ScopeNode} (h0 : 0 ≤ n) (hm : idx s.met n = some false) (hd : x.Op = 4 → idx s.dfs x.N = some false) (w : s.sz.length = s.met.length) : Chg s (mark s n e.length x) [(n, e)] (if x.Op = 4 then [(x.N, n)] else []) := by
 have l := eA hm
 refine ⟨(by simp), ?_, fun q hq => ?_, fun q hq => ?_, fun i hi => ?_, fun i hi => ?_, by simp [mark], by simp [mark]⟩
 ·split
  ·simp
  ·simp
 ·cases hq with
  | head => exact ⟨hm, xM h0 l.2, xM h0 (by omega)⟩
  | tail _ hq => cases hq
 ·split at hq
  ·rename_i h4
   cases hq with
   | head => exact ⟨hd h4, by rw [mark, if_pos h4]; exact xM (eA (hd h4)).1 (eA (hd h4)).2⟩
   | tail _ hq => cases hq
  ·cases hq
 ·have : i ≠ n := fun q => hi (by rw [q]; exact List.mem_singleton.2 rfl)
  exact ⟨wN h0 this, wN h0 this⟩
 ·rw [mark]
  split at hi
  ·rename_i h4
   have : i ≠ x.N := fun q => hi (by rw [q]; exact List.mem_singleton.2 rfl)
   rw [if_pos h4]
   exact wN (eA (hd h4)).1 this
  ·rename_i h4
   rw [if_neg h4]
theorem wR {p : ScopeProg} : ∀ (f : Nat) (s s' : VS) (q : Int × E), vis p f s q.1 q.2.length = some s' → s.sz.length = s.met.length → Chg s s' (LN p f q) (HN p f q) ∧ Tr p f q
 | 0, s, s', q, h, _ => by cases h
 | f + 1, s, s', ⟨n, e⟩, h, w => by
  obtain ⟨x, hx, h0, hm, hT, hD, hv⟩ := aFq h
  have c := aDI (e := e) h0 hm hD w
  obtain ⟨a, b⟩ := aFP f (wR f) _ _ _ hv (by rw [c.ls, c.lm, w])
  refine ⟨?_, ⟨x, hx, h0, hT, b⟩⟩
  have t := c.trans a
  simp only [LN, HN, hx]
  exact t
end Go.Proofs.YtmnbfgeljmhekaaGreat
set_option maxRecDepth 100000
namespace Go.Proofs.YtmnbfgeljmhekaaGreat
open Go.SX Go.SW Go.Dt
def eQ {σ β : Type} (g : σ → β → Option σ) : σ → List β → Option σ
 | s, [] => some s
 | s, b :: l => (g s b).bind fun s => eQ g s l
theorem wU {σ β : Type} {g : σ → β → Option σ} : ∀ (l m : List β) (s : σ), eQ g s (l ++ m) = (eQ g s l).bind fun s => eQ g s m
 | [], m, s => rfl
 | x :: l, m, s => by
  simp only [List.cons_append, eQ]
  cases g s x with
  | none => rfl
  | some s1 => exact wU l m s1
theorem iH {α : Type} (o : Option α) : (o.bind fun y => some y) = o := by cases o <;> rfl
theorem vA {α γ : Type} {o : Option α} {f g : α → Option γ} (h : ∀ a, f a = g a) : o.bind f = o.bind g := by
 cases o with
 | none => rfl
 | some a => rw [bsm, bsm]; exact h a
theorem ukids {σ : Type} {Y : Int → σ → Option σ} {x : ScopeNode} (suf : List Int) : ∀ (pre : List Int) (k : Nat) (s : σ), x.Kids = pre ++ suf → suf.length < k → pre.length + suf.length ≤ 3000000 → nN Y x k pre.length s = eQ (fun s b => Y b s) s suf := by
 induction suf with
 | nil =>
  intro pre k s hx hk hB
  obtain _ | k := k
  ·omega
  rw [nN, if_neg (show ¬ (pre.length : Int) < (x.Kids.length : Int) from by rw [hx]; simp)]; rfl
 | cons e suf ih =>
  intro pre k s hx hk hB
  obtain _ | k := k
  ·omega
  rw [nN, if_pos (show (pre.length : Int) < (x.Kids.length : Int) from by rw [hx]; exact cB pre suf e), show idx x.Kids (pre.length : Int) = some e from by rw [hx]; exact cA pre suf e, bsm]
  simp only [List.length_cons] at hk hB
  show _ = (Y e s).bind _
  refine vA fun s1 => ?_
  rw [aP (by omega), bsm, bS pre e]
  exact ih (pre ++ [e]) k s1 (by rw [hx]; exact cE pre suf e) (by omega) (by simp; omega)
theorem uspots {σ : Type} {Y : Int → σ → Option σ} {d : ScopeDef} (suf : List ScopeSpot) : ∀ (pre : List ScopeSpot) (k : Nat) (s : σ), d.Spots = pre ++ suf → suf.length < k → pre.length + suf.length ≤ 3000000 → qC Y d k pre.length s = eQ (fun s b => Y b s) s (suf.map (·.Node)) := by
 induction suf with
 | nil =>
  intro pre k s hx hk hB
  obtain _ | k := k
  ·omega
  rw [qC, if_neg (show ¬ (pre.length : Int) < (d.Spots.length : Int) from by rw [hx]; simp)]; rfl
 | cons e suf ih =>
  intro pre k s hx hk hB
  obtain _ | k := k
  ·omega
  rw [qC, if_pos (show (pre.length : Int) < (d.Spots.length : Int) from by rw [hx]; exact cB pre suf e), show idx d.Spots (pre.length : Int) = some e from by rw [hx]; exact cA pre suf e, bsm]
  simp only [List.length_cons] at hk hB
  show _ = (Y e.Node s).bind _
  refine vA fun s1 => ?_
  rw [aP (by omega), bsm, bS pre e]
  exact ih (pre ++ [e]) k s1 (by rw [hx]; exact cE pre suf e) (by omega) (by simp; omega)
theorem urules {σ : Type} {Y : Int → σ → Option σ} {d : ScopeDef} (suf : List ScopeRule) : ∀ (pre : List ScopeRule) (k : Nat) (s : σ), d.Rules = pre ++ suf → suf.length < k → pre.length + suf.length ≤ 3000000 → qB Y d k pre.length s = eQ (fun s b => Y b s) s (suf.map (·.Node)) := by
 induction suf with
 | nil =>
  intro pre k s hx hk hB
  obtain _ | k := k
  ·omega
  rw [qB, if_neg (show ¬ (pre.length : Int) < (d.Rules.length : Int) from by rw [hx]; simp)]; rfl
 | cons e suf ih =>
  intro pre k s hx hk hB
  obtain _ | k := k
  ·omega
  rw [qB, if_pos (show (pre.length : Int) < (d.Rules.length : Int) from by rw [hx]; exact cB pre suf e), show idx d.Rules (pre.length : Int) = some e from by rw [hx]; exact cA pre suf e, bsm]
  simp only [List.length_cons] at hk hB
  show _ = (Y e.Node s).bind _
  refine vA fun s1 => ?_
  rw [aP (by omega), bsm, bS pre e]
  exact ih (pre ++ [e]) k s1 (by rw [hx]; exact cE pre suf e) (by omega) (by simp; omega)
def uK (p : ScopeProg) (x : ScopeNode) : List Int := x.Kids ++ (if x.Op = 4 then match idx p.Defs x.N with | some d => d.Spots.map (·.Node) ++ d.Rules.map (·.Node) | none => [] else [])
theorem aCY {σ : Type} {fuel : Nat} {Y : Int → σ → Option σ} {s : σ} {t : Usage_text} {d : ScopeDef} {n : Int} (hd : idx t.ScopeProg.Defs n = some d) (hf : 100 ≤ fuel) (ho : okD d = true) : sE fuel Y s t n = eQ (fun s b => Y b s) s (d.Spots.map (·.Node)) := by
 have b := dT ho
 rw [sE, hd, bsm]
 exact uspots d.Spots [] fuel s rfl (by omega) (by simp; omega)
theorem under_eq {σ : Type} {fuel : Nat} {Y : Int → σ → Option σ} {s : σ} {t : Usage_text} {x : ScopeNode} {n z : Int} (hx : idx t.ScopeProg.Nodes n = some x) (hf : 100 ≤ fuel) (hT : okT t.ScopeProg x z) : xE fuel Y s t n = eQ (fun s b => Y b s) s (uK t.ScopeProg x) := by
 have hk : x.Kids.length ≤ 2 := by rcases hT with h | h | h | h | h <;> omega
 have e1 : ∀ s0, nN Y x fuel 0 s0 = eQ (fun s b => Y b s) s0 x.Kids := fun s0 => ukids x.Kids [] fuel s0 rfl (by omega) (by simp; omega)
 rw [xE, hx, bsm, e1, uK, wU]
 refine vA fun s1 => ?_
 by_cases h4 : x.Op = 4
 ·rw [if_neg (fun q => q h4), if_pos h4]
  have : ∃ d, idx t.ScopeProg.Defs x.N = some d ∧ okD d = true := by
   rcases hT with h | h | h | h | ⟨_, _, _, h⟩
   ·omega
   ·omega
   ·omega
   ·omega
   ·exact h
  obtain ⟨d, hd, ho⟩ := this
  have b := dT ho
  have e2 : (fun (x : Int) (t : σ) => uV Y x t) = Y := by
   funext a b; exact iH _
  rw [qJ, bsm, e2]
  dsimp only
  rw [aCY hd hf ho, hd]
  dsimp only
  rw [wU]
  refine vA fun s2 => ?_
  rw [bsm]
  exact urules d.Rules [] fuel s2 rfl (by omega) (by simp; omega)
 ·rw [if_pos h4, if_neg h4]; rfl
structure Fld {α : Type} (R : E → α → Prop) (N : List (Int × E)) (D : List (Int × Int)) (s s' : List α × List Int) : Prop where
 l1 : s'.1.length = s.1.length
 l2 : s'.2.length = s.2.length
 on : ∀ q ∈ N, ∃ y, idx s'.1 q.1 = some y ∧ R q.2 y
 hd : ∀ q ∈ D, idx s'.2 q.1 = some q.2
 off : ∀ i, i ∉ N.map (·.1) → idx s'.1 i = idx s.1 i
 offh : ∀ i, i ∉ D.map (·.1) → idx s'.2 i = idx s.2 i
variable {α : Type} {R : E → α → Prop}
theorem Fld.nil {s : List α × List Int} : Fld R [] [] s s := ⟨rfl, rfl, fun q h => (by cases h), fun q h => (by cases h), fun i _ => rfl, fun i _ => rfl⟩
theorem nd_map {β γ : Type} {f : β → γ} {l m : List β} (h : ((l ++ m).map f).Nodup) {a b : β} (ha : a ∈ l) (hb : b ∈ m) : f a ≠ f b := by
 rw [List.map_append, List.nodup_append] at h
 exact h.2.2 _ (List.mem_map.2 ⟨a, ha, rfl⟩) _ (List.mem_map.2 ⟨b, hb, rfl⟩)
theorem Fld.trans {N N' : List (Int × E)} {D D' : List (Int × Int)} {s s1 s2 : List α × List Int} (h : Fld R N D s s1) (k : Fld R N' D' s1 s2) (hn : ((N ++ N').map (·.1)).Nodup) (hd : ((D ++ D').map (·.1)).Nodup) : Fld R (N ++ N') (D ++ D') s s2 := by
 refine ⟨by rw [k.l1, h.l1], by rw [k.l2, h.l2], fun q hq => ?_, fun q hq => ?_, fun i hi => ?_, fun i hi => ?_⟩
 ·rcases List.mem_append.1 hq with hq | hq
  ·rw [k.off q.1 (fun z => by obtain ⟨b, hb, e⟩ := List.mem_map.1 z; exact nd_map hn hq hb e.symm)]; exact h.on q hq
  ·exact k.on q hq
 ·rcases List.mem_append.1 hq with hq | hq
  ·rw [k.offh q.1 (fun z => by obtain ⟨b, hb, e⟩ := List.mem_map.1 z; exact nd_map hd hq hb e.symm)]; exact h.hd q hq
  ·exact k.hd q hq
 ·rw [List.map_append, List.mem_append, not_or] at hi
  rw [k.off i hi.2, h.off i hi.1]
 ·rw [List.map_append, List.mem_append, not_or] at hi
  rw [k.offh i hi.2, h.offh i hi.1]
theorem Fld.congr {N N' : List (Int × E)} {D D' : List (Int × Int)} {s s1 : List α × List Int} (h : Fld R N D s s1) (hn : ∀ q, q ∈ N ↔ q ∈ N') (hd : ∀ q, q ∈ D ↔ q ∈ D') : Fld R N' D' s s1 := by
 refine ⟨h.l1, h.l2, fun q hq => h.on q ((hn q).2 hq), fun q hq => h.hd q ((hd q).2 hq), fun i hi => h.off i fun z => hi ?_, fun i hi => h.offh i fun z => hi ?_⟩
 ·obtain ⟨q, hq, e⟩ := List.mem_map.1 z; exact List.mem_map.2 ⟨q, (hn q).1 hq, e⟩
 ·obtain ⟨q, hq, e⟩ := List.mem_map.1 z; exact List.mem_map.2 ⟨q, (hd q).1 hq, e⟩
theorem aDw {p : ScopeProg} {h : Nat} {β : Type} {key : β → Int × E} {g : List α × List Int → β → Option (List α × List Int)} (l : List β) : ∀ (s : List α × List Int), (∀ b ∈ l, ∀ s0 : List α × List Int, s0.1.length = s.1.length → s0.2.length = s.2.length → ((LN p h (key b)).map (·.1)).Nodup → ((HN p h (key b)).map (·.1)).Nodup → ∃ s', g s0 b = some s' ∧ Fld R (LN p h (key b)) (HN p h (key b)) s0 s') →
  ((l.flatMap fun b => LN p h (key b)).map (·.1)).Nodup → ((l.flatMap fun b => HN p h (key b)).map (·.1)).Nodup → ∃ s', eQ g s l = some s' ∧ Fld R (l.flatMap fun b => LN p h (key b)) (l.flatMap fun b => HN p h (key b)) s s' := by
 induction l with
 | nil => intro s _ _ _; exact ⟨s, rfl, Fld.nil⟩
 | cons b l ih =>
  intro s hg hn hd
  rw [List.flatMap_cons] at hn hd
  have hn' := hn; have hd' := hd
  rw [List.map_append, List.nodup_append] at hn' hd'
  obtain ⟨s1, e1, f1⟩ := hg b (List.mem_cons_self ..) s rfl rfl hn'.1 hd'.1
  obtain ⟨s2, e2, f2⟩ := ih s1 (fun c hc s0 a1 a2 => hg c (List.mem_cons_of_mem _ hc) s0 (by rw [a1, f1.l1]) (by rw [a2, f1.l2])) hn'.2.1 hd'.2.1
  refine ⟨s2, ?_, ?_⟩
  ·rw [eQ, e1, bsm]; exact e2
  ·rw [List.flatMap_cons, List.flatMap_cons]; exact f1.trans f2 hn hd
end Go.Proofs.YtmnbfgeljmhekaaGreat
set_option maxRecDepth 100000
namespace Go.Proofs.YtmnbfgeljmhekaaGreat
open Go.SX Go.SW Go.Dt
def RP (e : E) (g : aQ Int Usage_channel) : Prop := ∀ i : Int, g.get i = (idx e i).bind fun o => o.map fun c => (⟨c.1, c.2⟩ : Usage_channel)
theorem aAy {β : Type} (l m : List β) (i : Int) : idx (l ++ m) i = if i < l.length then idx l i else idx m (i - l.length) := by
 unfold idx
 by_cases h0 : 0 ≤ i
 ·rw [if_pos h0, if_pos h0]
  split
  ·exact List.getElem?_append_left (by omega)
  ·rw [if_pos (by omega), List.getElem?_append_right (by omega), show i.toNat - l.length = (i - l.length).toNat from by omega]
 ·rw [if_neg h0, if_neg h0, if_pos (by omega)]
theorem aFr {e : E} {g : aQ Int Usage_channel} (h : RP e g) (k : Nat) : RP (e ++ List.replicate k none) g := fun i => by
 rw [h i, aAy]
 split
 ·rfl
 ·rename_i hl
  rw [kJ (by omega)]
  cases hq : idx (List.replicate k (none : Option (Int × Int))) (i - e.length) with
  | none => rfl
  | some o => rw [List.eq_of_mem_replicate (dU hq)]; rfl
theorem rp_snoc {e : E} {g : aQ Int Usage_channel} (h : RP e g) (m c : Int) : RP (e ++ [some (m, c)]) (aQ.upd g e.length ⟨m, c⟩) := fun i => by
 show (if i = (e.length : Int) then some (⟨m, c⟩ : Usage_channel) else g.get i) = _
 rw [aAy, h i]
 split
 ·rename_i hi
  rw [if_neg (by omega), hi, Int.sub_self]; rfl
 ·rename_i hi
  split
  ·rfl
  ·rw [kJ (by omega), kJ (by simp; omega)]
def fZ (m : Int) (k : Nat) : E := (List.range k).map fun c : Nat => some (m, (c : Int))
theorem pchans {t : Usage_text} {n : Int} {x : ScopeNode} {d : ScopeDef} {e : E} (hz : idx t.sizes n = some (e.length : Int)) (he : e.length ≤ 1000000) (hd : d.Chans.length ≤ 30) : ∀ (j i k : Nat) (g : aQ Int Usage_channel), i + j = d.Chans.length → j < k → RP (e ++ fZ x.N i) g →
  ∃ g', lH t n x d k i g = some g' ∧ RP (e ++ chs x.N d) g'
 | 0, i, k, g, h, hk, hR => by
  obtain _ | k := k
  ·omega
  refine ⟨g, by rw [lH, if_neg (by omega)], ?_⟩
  have : chs x.N d = fZ x.N i := by rw [chs, fZ, show d.Chans.length = i from by omega]
  rw [this]; exact hR
 | j + 1, i, k, g, h, hk, hR => by
  obtain _ | k := k
  ·omega
  rw [lH, if_pos (by omega), hz, bsm, aP (by omega), bsm, aP (by omega), bsm]
  refine pchans hz he hd j (i + 1) k _ (by omega) (by omega) ?_
  have : e ++ fZ x.N (i + 1) = (e ++ fZ x.N i) ++ [some (x.N, (i : Int))] := by rw [fZ, List.range_succ, List.map_append, List.append_assoc]; rfl
  rw [this]
  have l : (e.length : Int) + (i : Int) = ((e ++ fZ x.N i).length : Int) := by simp [fZ]
  rw [l]
  exact rp_snoc hR _ _
def uE (p : ScopeProg) (x : ScopeNode) (e : E) : List (Int × E) :=
 if x.Op = 4 then match idx p.Defs x.N with
  | some d => x.Kids.map (fun k => (k, inE e x.N d)) ++ (d.Spots.map (fun y => (y.Node, inE e x.N d)) ++ d.Rules.map (fun r => (r.Node, ruE e x.N d r)))
  | none => x.Kids.map (fun k => (k, e))
 else x.Kids.map (fun k => (k, e))
theorem uE_K {p : ScopeProg} {x : ScopeNode} {e : E} : (uE p x e).map (·.1) = uK p x := by
 unfold uE uK
 split
 ·cases idx p.Defs x.N with
  | none => simp [Function.comp_def]
  | some d => simp [Function.comp_def]
 ·simp [Function.comp_def]
theorem aF0 {p : ScopeProg} {x : ScopeNode} {e : E} {z : Int} (hT : okT p x z) : (uE p x e).Perm (subs p x e) := by
 unfold uE subs
 split
 ·rename_i h4
  have : ∃ d, idx p.Defs x.N = some d := by
   rcases hT with h | h | h | h | ⟨_, _, _, d, h, _⟩
   ·omega
   ·omega
   ·omega
   ·omega
   ·exact ⟨d, h⟩
  obtain ⟨d, hd⟩ := this
  rw [hd]
  dsimp only
  refine (List.perm_append_comm).trans ?_
  refine (List.Perm.append_right _ List.perm_append_comm).trans ?_
  rw [List.append_assoc]
 ·exact List.Perm.refl _
theorem aB6 {σ β γ : Type} {g : σ → γ → Option σ} {f : β → γ} : ∀ (l : List β) (s : σ), eQ g s (l.map f) = eQ (fun s b => g s (f b)) s l
 | [], s => rfl
 | b :: l, s => by
  simp only [List.map_cons, eQ]
  exact vA fun s1 => aB6 l s1
theorem rp_in {p : ScopeProg} {x : ScopeNode} {e : E} {g : aQ Int Usage_channel} {d : ScopeDef} (hd : idx p.Defs x.N = some d) (h4 : x.Op = 4) (h : RP (e ++ chs x.N d) g) : ∀ q ∈ uE p x e, RP q.2 g := fun q hq => by
 rw [uE, if_pos h4, hd] at hq
 dsimp only at hq
 have hi : RP (inE e x.N d) g := aFr h _
 rcases List.mem_append.1 hq with hq | hq
 ·obtain ⟨k, _, rfl⟩ := List.mem_map.1 hq; exact hi
 ·rcases List.mem_append.1 hq with hq | hq
  ·obtain ⟨k, _, rfl⟩ := List.mem_map.1 hq; exact hi
  ·obtain ⟨k, _, rfl⟩ := List.mem_map.1 hq; exact aFr hi _
theorem rp_out {p : ScopeProg} {x : ScopeNode} {e : E} {g : aQ Int Usage_channel} (h4 : ¬ x.Op = 4) (h : RP e g) : ∀ q ∈ uE p x e, RP q.2 g := fun q hq => by
 rw [uE, if_neg h4] at hq
 obtain ⟨k, _, rfl⟩ := List.mem_map.1 hq; exact h
theorem aFm {α : Type} {R : E → α → Prop} {n : Int} {e : E} {x : ScopeNode} {den : List α} {heads : List Int} {y : α} (hy : R e y) (h0 : 0 ≤ n ∧ n < den.length) (hx : x.Op = 4 → 0 ≤ x.N ∧ x.N < heads.length) :
  Fld R [(n, e)] (if x.Op = 4 then [(x.N, n)] else []) (den, heads) (den.set n.toNat y, if x.Op = 4 then heads.set x.N.toNat n else heads) := by
 refine ⟨by simp, by dsimp only; split <;> simp, fun q hq => ?_, fun q hq => ?_, fun i hi => ?_, fun i hi => ?_⟩
 ·rw [List.mem_singleton.1 hq]; exact ⟨y, xM h0.1 h0.2, hy⟩
 ·split at hq
  ·rename_i h4
   rw [List.mem_singleton.1 hq]
   dsimp only
   rw [if_pos h4]
   exact xM (hx h4).1 (hx h4).2
  ·cases hq
 ·exact wN h0.1 fun q => hi (by rw [q]; exact List.mem_singleton.2 rfl)
 ·dsimp only
  split at hi
  ·rename_i h4
   rw [if_pos h4]
   exact wN (hx h4).1 fun q => hi (by rw [q]; exact List.mem_singleton.2 rfl)
  ·rename_i h4
   rw [if_neg h4]
theorem uE_sub {p : ScopeProg} {h : Nat} {x : ScopeNode} {e : E} {z : Int} (hT : okT p x z) {β : Type} (f : Int × E → List β) : ((uE p x e).flatMap f).Perm ((subs p x e).flatMap f) := (aF0 hT).flatMap_right _
theorem e_len {p : ScopeProg} {x : ScopeNode} {e : E} {z : Int} (hT : okT p x z) (h4 : x.Op = 4) : 0 ≤ x.N ∧ ∃ d, idx p.Defs x.N = some d ∧ okD d = true := by
 rcases hT with h | h | h | h | ⟨_, _, h0, h⟩
 ·omega
 ·omega
 ·omega
 ·omega
 ·exact ⟨h0, h⟩
theorem pfill {p : ScopeProg} : ∀ (h fuel : Nat) (n : Int) (e : E) (t : Usage_text) (g : aQ Int Usage_channel), h + 100 ≤ fuel → t.ScopeProg = p → Tr p h (n, e) → RP e g → t.denotes.length = p.Nodes.length → t.heads.length = p.Defs.length →
  (∀ q ∈ LN p h (n, e), idx t.sizes q.1 = some (q.2.length : Int) ∧ q.2.length ≤ 1000000) → ((LN p h (n, e)).map (·.1)).Nodup → ((HN p h (n, e)).map (·.1)).Nodup →
  ∃ s', kS fuel t n g = some s' ∧ Fld RP (LN p h (n, e)) (HN p h (n, e)) (t.denotes, t.heads) s'
 | 0, fuel, n, e, t, g, _, _, hT, _, _, _, _, _, _ => hT.elim
 | h + 1, fuel, n, e, t, g, hf, ht, ⟨x, hx, h0, hT, hK⟩, hR, hl1, hl2, hz, hn, hd => by
  obtain _ | fuel := fuel
  ·omega
  dsimp only at hx h0 hT hK
  subst ht
  have hnl := eA hx
  simp only [LN, HN, hx] at hz hn hd ⊢
  have hp1 := uE_sub (h := h) (e := e) hT (LN t.ScopeProg h)
  have hp2 := uE_sub (h := h) (e := e) hT (HN t.ScopeProg h)
  have hxd : x.Op = 4 → 0 ≤ x.N ∧ x.N < t.heads.length := fun h4 => by
   obtain ⟨a, d, b, _⟩ := e_len (e := e) hT h4
   have := eA b
   omega
  have hg : ∃ g1, (∀ q ∈ uE t.ScopeProg x e, RP q.2 g1) ∧ ∀ {γ : Type} (K : aQ Int Usage_channel × List Int → Option γ),
    (if x.Op = 4 then (idx t.heads x.N).bind fun y3 => (some ()).bind fun _ => ((idx t.ScopeProg.Defs x.N).bind fun y5 => lH t n x y5 fuel 0 g).bind fun x4 => some (x4, t.heads.set x.N.toNat n) else some (g, t.heads)).bind K = K (g1, if x.Op = 4 then t.heads.set x.N.toNat n else t.heads) := by
   by_cases h4 : x.Op = 4
   ·obtain ⟨_, d, b, c⟩ := e_len (e := e) hT h4
    obtain ⟨y3, q3⟩ := cH (hxd h4).1 (hxd h4).2
    have hs := hz (n, e) (List.mem_cons_self ..)
    obtain ⟨g1, q1, r1⟩ := pchans (t := t) (n := n) (x := x) (d := d) (e := e) hs.1 hs.2 (dT c).1 d.Chans.length 0 fuel g (by omega) (by have := (dT c).1; omega) (by rw [show e ++ fZ x.N 0 = e from List.append_nil e]; exact hR)
    refine ⟨g1, rp_in b h4 r1, fun K => ?_⟩
    rw [if_pos h4, if_pos h4, q3, bsm, bsm, b, bsm]
    rw [show lH t n x d fuel 0 g = some g1 from q1, bsm, bsm]
   ·exact ⟨g, rp_out h4 hR, fun K => by rw [if_neg h4, if_neg h4, bsm]⟩
  obtain ⟨g1, hg1, hg2⟩ := hg
  obtain ⟨y1, q1⟩ := cH (xs := t.denotes) h0 (by omega)
  have own := aFm (R := RP) (n := n) (e := e) (x := x) (den := t.denotes) (heads := t.heads) hR ⟨h0, by omega⟩ hxd
  have hn' := hn; have hd' := hd
  rw [List.map_cons, List.nodup_cons] at hn'
  rw [List.map_append, List.nodup_append] at hd'
  obtain ⟨s2, e2, f2⟩ := aDw (R := RP) (p := t.ScopeProg) (h := h) (key := id) (g := fun (s : List (aQ Int Usage_channel) × List Int) (b : Int × E) => rL (kS fuel) t g1 b.1 s.1 s.2) (uE t.ScopeProg x e) (t.denotes.set n.toNat g, if x.Op = 4 then t.heads.set x.N.toNat n else t.heads)
   (fun b hb s0 a1 a2 b1 b2 => by
    have hb' : b ∈ subs t.ScopeProg x e := (aF0 hT).mem_iff.1 hb
    obtain ⟨s', c1, c2⟩ := pfill h fuel b.1 b.2 { t with denotes := s0.1, heads := s0.2 } g1 (by omega) rfl (hK b hb') (hg1 b hb) (by show s0.1.length = _; rw [a1]; simp [hl1]) (by show s0.2.length = _; rw [a2, own.l2]; exact hl2)
     (fun q hq => hz q (List.mem_cons_of_mem _ (List.mem_flatMap.2 ⟨b, hb', hq⟩))) b1 b2
    exact ⟨s', by rw [rL, c1, bsm], c2⟩)
   ((hp1.map _).nodup_iff.2 hn'.2) ((hp2.map _).nodup_iff.2 hd'.2.1)
  refine ⟨s2, ?_, ?_⟩
  ·rw [kS, q1, bsm, hx, bsm, hg2]
   dsimp only
   rw [aAJ, bsm]
   dsimp only
   rw [under_eq hx (by omega) hT, ← uE_K (e := e), aB6, e2, bsm]
  ·exact own.trans (f2.congr (fun q => hp1.mem_iff) (fun q => hp2.mem_iff)) hn hd
end Go.Proofs.YtmnbfgeljmhekaaGreat
set_option maxRecDepth 100000
namespace Go.Proofs.YtmnbfgeljmhekaaGreat
open Go.SX Go.SW Go.Dt
abbrev unk : Ref05_Chan := ⟨-1, 0⟩
def rc : Option (Int × Int) → Ref05_Chan
 | some c => ⟨c.1, c.2⟩
 | none => unk
theorem eO {β : Type} {l : List β} (h : l.length ≤ 1000000000) : dN l = some l := if_pos h
theorem aDX {n : Int} {l : List Ref05_Chan} (hl : l.length ≤ 1000000) (hn : n ≤ 1000000) : ∀ (j i k : Nat), (i : Int) + j = n → j < k → tG n k (l ++ List.replicate i unk) i = some (l ++ List.replicate n.toNat unk)
 | 0, i, k, h, hk => by
  obtain _ | k := k
  ·omega
  rw [tG, if_neg (by omega), show n.toNat = i from by omega]
 | j + 1, i, k, h, hk => by
  obtain _ | k := k
  ·omega
  have : l ++ List.replicate i unk ++ [unk] = l ++ List.replicate (i + 1) unk := by rw [List.append_assoc, List.replicate_succ']
  rw [tG, if_pos (by omega), this, eO (by simp; omega), bsm, aP (by omega), bsm]
  exact aDX hl hn j (i + 1) k (by omega) (by omega)
theorem aBT {fuel : Nat} {n : Int} {l : List Ref05_Chan} (hl : l.length ≤ 1000000) (h0 : 0 ≤ n) (hn : n ≤ 1000000) (hf : n < fuel) : yW fuel l n = some (l ++ List.replicate n.toNat unk) := by
 have e := aDX hl hn n.toNat 0 fuel (by omega) (by omega)
 rw [yW, List.nil_append, eO (by omega), bsm, show tG n fuel l 0 = some (l ++ List.replicate n.toNat unk) from by rw [← e, List.replicate_zero, List.append_nil]; rfl, bsm]
theorem rchans {x : ScopeNode} {d : ScopeDef} {e : E} (he : e.length ≤ 1000000) (hd : d.Chans.length ≤ 30) : ∀ (j i k : Nat), i + j = d.Chans.length → j < k →
  vO x d k ((e ++ fZ x.N i).map rc) i = some ((e ++ chs x.N d).map rc)
 | 0, i, k, h, hk => by
  obtain _ | k := k
  ·omega
  have : chs x.N d = fZ x.N i := by rw [chs, fZ, show d.Chans.length = i from by omega]
  rw [vO, if_neg (by omega), this]
 | j + 1, i, k, h, hk => by
  obtain _ | k := k
  ·omega
  have : (e ++ fZ x.N i).map rc ++ [(⟨x.N, (i : Int)⟩ : Ref05_Chan)] = (e ++ fZ x.N (i + 1)).map rc := by
   rw [show e ++ fZ x.N (i + 1) = (e ++ fZ x.N i) ++ [some (x.N, (i : Int))] from by rw [fZ, List.range_succ, List.map_append, List.append_assoc]; rfl]
   exact (List.map_append (l₁ := e ++ fZ x.N i) (l₂ := [some (x.N, (i : Int))]) (f := rc)).symm
  rw [vO, if_pos (by omega), this, eO (by simp [fZ]; omega), bsm, aP (by omega), bsm]
  exact rchans he hd j (i + 1) k (by omega) (by omega)
theorem rbrs {d : ScopeDef} {r : ScopeRule} {i : Int} (hi : idx d.Rules i = some r) (suf : List Int) : ∀ (pre : List Int) (k : Nat) (w : Int), r.Joins = pre ++ suf → suf.length < k → pre.length + suf.length ≤ 1000 → 0 ≤ w → w + 3 * suf.length ≤ 100000 → (∀ c ∈ suf, ∃ y, idx d.Chans c = some y ∧ 0 ≤ y.Many ∧ y.Many ≤ 3) →
  uG d i k w pre.length = some (w + brs d.Chans suf) := by
 induction suf with
 | nil =>
  intro pre k w hx hk hB h0 h1 hc
  obtain _ | k := k
  ·omega
  rw [uG, hi, bsm, if_neg (show ¬ (pre.length : Int) < (r.Joins.length : Int) from by rw [hx]; simp), brs, Int.add_zero]
 | cons c suf ih =>
  intro pre k w hx hk hB h0 h1 hc
  obtain _ | k := k
  ·omega
  obtain ⟨y, hy, hy0, hy1⟩ := hc c (List.mem_cons_self ..)
  simp only [List.length_cons] at hk hB h1
  rw [uG, hi, bsm, if_pos (show (pre.length : Int) < (r.Joins.length : Int) from by rw [hx]; exact cB pre suf c), bsm, show idx r.Joins (pre.length : Int) = some c from by rw [hx]; exact cA pre suf c, bsm, hy, bsm, aP (by omega), bsm, aP (by omega), bsm, bS pre c]
  rw [ih (pre ++ [c]) k (w + y.Many) (by rw [hx]; exact cE pre suf c) (by omega) (by simp; omega) (by omega) (by omega) (fun c hc' => hc c (List.mem_cons_of_mem _ hc'))]
  simp only [brs, hy]; congr 1; omega
abbrev RS := List (List Ref05_Chan) × List Int
open Classical in
noncomputable def RG (rec : bR → Int → List Ref05_Chan → Option bR) (p : ScopeProg) (sz : List Int) (s : RS) (b : Int × List Ref05_Chan) : Option RS :=
 match rec ⟨p, s.1, sz, s.2⟩ b.1 b.2 with
 | some L => if L.p = p ∧ L.Sizes = sz then some (L.Envs, L.Heads) else none
 | none => none
theorem aBb {rec : bR → Int → List Ref05_Chan → Option bR} {p : ScopeProg} {sz : List Int} {s s' : RS} {b : Int × List Ref05_Chan} (h : RG rec p sz s b = some s') : rec ⟨p, s.1, sz, s.2⟩ b.1 b.2 = some ⟨p, s'.1, sz, s'.2⟩ := by
 unfold RG at h
 split at h
 ·rename_i L e
  split at h
  ·rename_i hc
   cases h
   rw [e, ← hc.1, ← hc.2]
  ·cases h
 ·cases h
theorem RG_in {rec : bR → Int → List Ref05_Chan → Option bR} {p : ScopeProg} {sz : List Int} {s s' : RS} {b : Int × List Ref05_Chan} (h : rec ⟨p, s.1, sz, s.2⟩ b.1 b.2 = some ⟨p, s'.1, sz, s'.2⟩) : RG rec p sz s b = some s' := by
 unfold RG
 rw [h]
 exact if_pos ⟨rfl, rfl⟩
variable {rec : bR → Int → List Ref05_Chan → Option bR} {p : ScopeProg} {sz : List Int}
theorem rkids {l : List Ref05_Chan} {x : ScopeNode} (suf : List Int) : ∀ (pre : List Int) (k : Nat) (s s' : RS), x.Kids = pre ++ suf → suf.length < k → pre.length + suf.length ≤ 3000000 → eQ (RG rec p sz) s (suf.map fun b => (b, l)) = some s' →
  vZ rec l x k pre.length p.Free p.Nodes p.Defs p.Main s.1 sz s.2 = some (p.Free, p.Nodes, p.Defs, p.Main, s'.1, sz, s'.2) := by
 induction suf with
 | nil =>
  intro pre k s s' hx hk hB h
  obtain _ | k := k
  ·omega
  cases h
  rw [vZ, if_neg (show ¬ (pre.length : Int) < (x.Kids.length : Int) from by rw [hx]; simp)]
 | cons e suf ih =>
  intro pre k s s' hx hk hB h
  obtain _ | k := k
  ·omega
  simp only [List.map_cons, eQ] at h
  obtain ⟨s1, h1, h2⟩ := bind_some h
  simp only [List.length_cons] at hk hB
  rw [vZ, if_pos (show (pre.length : Int) < (x.Kids.length : Int) from by rw [hx]; exact cB pre suf e), show idx x.Kids (pre.length : Int) = some e from by rw [hx]; exact cA pre suf e, bsm, show rec ⟨⟨p.Free, p.Nodes, p.Defs, p.Main⟩, s.1, sz, s.2⟩ e l = _ from aBb h1, bsm, aP (by omega), bsm, bS pre e]
  exact ih (pre ++ [e]) k s1 s' (by rw [hx]; exact cE pre suf e) (by omega) (by simp; omega) h2
theorem rspots {l : List Ref05_Chan} {d : ScopeDef} (suf : List ScopeSpot) : ∀ (pre : List ScopeSpot) (k : Nat) (s s' : RS), d.Spots = pre ++ suf → suf.length < k → pre.length + suf.length ≤ 3000000 → eQ (RG rec p sz) s (suf.map fun b => (b.Node, l)) = some s' →
  tM rec d l k pre.length p.Free p.Nodes p.Defs p.Main s.1 sz s.2 = some (p.Free, p.Nodes, p.Defs, p.Main, s'.1, sz, s'.2) := by
 induction suf with
 | nil =>
  intro pre k s s' hx hk hB h
  obtain _ | k := k
  ·omega
  cases h
  rw [tM, if_neg (show ¬ (pre.length : Int) < (d.Spots.length : Int) from by rw [hx]; simp)]
 | cons e suf ih =>
  intro pre k s s' hx hk hB h
  obtain _ | k := k
  ·omega
  simp only [List.map_cons, eQ] at h
  obtain ⟨s1, h1, h2⟩ := bind_some h
  simp only [List.length_cons] at hk hB
  rw [tM, if_pos (show (pre.length : Int) < (d.Spots.length : Int) from by rw [hx]; exact cB pre suf e), show idx d.Spots (pre.length : Int) = some e from by rw [hx]; exact cA pre suf e, bsm, show rec ⟨⟨p.Free, p.Nodes, p.Defs, p.Main⟩, s.1, sz, s.2⟩ e.Node l = _ from aBb h1, bsm, aP (by omega), bsm, bS pre e]
  exact ih (pre ++ [e]) k s1 s' (by rw [hx]; exact cE pre suf e) (by omega) (by simp; omega) h2
theorem rrules {fuel : Nat} (hf : 1000 ≤ fuel) {l : List Ref05_Chan} (hl : l.length ≤ 1000000) {d : ScopeDef} (hd : okD d = true) (suf : List ScopeRule) : ∀ (pre : List ScopeRule) (k : Nat) (s s' : RS), d.Rules = pre ++ suf → suf.length < k → pre.length + suf.length ≤ 3000000 →
  eQ (RG rec p sz) s (suf.map fun b => (b.Node, l ++ List.replicate (brs d.Chans b.Joins).toNat unk)) = some s' →
  wK fuel rec d l k pre.length p.Free p.Nodes p.Defs p.Main s.1 sz s.2 = some (p.Free, p.Nodes, p.Defs, p.Main, s'.1, sz, s'.2) := by
 induction suf with
 | nil =>
  intro pre k s s' hx hk hB h
  obtain _ | k := k
  ·omega
  cases h
  rw [wK, if_neg (show ¬ (pre.length : Int) < (d.Rules.length : Int) from by rw [hx]; simp)]
 | cons e suf ih =>
  intro pre k s s' hx hk hB h
  obtain _ | k := k
  ·omega
  simp only [List.map_cons, eQ] at h
  obtain ⟨s1, h1, h2⟩ := bind_some h
  simp only [List.length_cons] at hk hB
  have hi : idx d.Rules (pre.length : Int) = some e := by rw [hx]; exact cA pre suf e
  have hm := (dT hd).2.2.2.2 e (dU hi)
  have hb := rW (ch := d.Chans) (js := e.Joins) hm.2
  have hj := rbrs hi e.Joins [] fuel 0 rfl (by omega) (by simp; omega) (by omega) (by omega) hm.2
  rw [Int.zero_add] at hj
  rw [wK, if_pos (show (pre.length : Int) < (d.Rules.length : Int) from by rw [hx]; exact cB pre suf e), show uG d pre.length fuel 0 0 = some (brs d.Chans e.Joins) from hj, bsm, hi, bsm, aBT hl hb.1 (by omega) (by omega), bsm, show rec ⟨⟨p.Free, p.Nodes, p.Defs, p.Main⟩, s.1, sz, s.2⟩ e.Node _ = _ from aBb h1, bsm, bsm]
  dsimp only
  rw [aP (by omega), bsm, bS pre e]
  exact ih (pre ++ [e]) k s1 s' (by rw [hx]; exact cE pre suf e) (by omega) (by simp; omega) h2
def RR (e : E) (l : List Ref05_Chan) : Prop := l = e.map rc
theorem aCD (k : Nat) : (List.replicate k (none : Option (Int × Int))).map rc = List.replicate k unk := by rw [List.map_replicate]; rfl
theorem rc_in {e : E} {m : Int} {d : ScopeDef} : (inE e m d).map rc = (e ++ chs m d).map rc ++ List.replicate d.Spots.length unk := by
 rw [inE, List.map_append, aCD]
theorem rc_ru {e : E} {m : Int} {d : ScopeDef} {r : ScopeRule} : (ruE e m d r).map rc = (inE e m d).map rc ++ List.replicate (brs d.Chans r.Joins).toNat unk := by
 rw [ruE, List.map_append, aCD]
theorem rfill {p : ScopeProg} {sz : List Int} : ∀ (h fuel : Nat) (n : Int) (e : E) (s : RS), h + 1000 ≤ fuel → Tr p h (n, e) → s.1.length = p.Nodes.length → s.2.length = p.Defs.length →
  (∀ q ∈ LN p h (n, e), q.2.length ≤ 100000) → ((LN p h (n, e)).map (·.1)).Nodup → ((HN p h (n, e)).map (·.1)).Nodup →
  ∃ s' : RS, jA fuel ⟨p, s.1, sz, s.2⟩ n (e.map rc) = some ⟨p, s'.1, sz, s'.2⟩ ∧ Fld RR (LN p h (n, e)) (HN p h (n, e)) s s'
 | 0, fuel, n, e, s, _, hT, _, _, _, _, _ => hT.elim
 | h + 1, fuel, n, e, s, hf, ⟨x, hx, h0, hT, hK⟩, hl1, hl2, hz, hn, hd => by
  obtain _ | fuel := fuel
  ·omega
  dsimp only at hx h0 hT hK
  have hnl := eA hx
  simp only [LN, HN, hx] at hz hn hd ⊢
  have hxd : x.Op = 4 → 0 ≤ x.N ∧ x.N < s.2.length := fun h4 => by
   obtain ⟨a, d, b, _⟩ := e_len (e := e) hT h4
   have := eA b
   omega
  obtain ⟨y1, q1⟩ := cH (xs := s.1) h0 (by omega)
  have hown := aFm (R := RR) (n := n) (e := e) (x := x) (den := s.1) (heads := s.2) (y := e.map rc) rfl ⟨h0, by omega⟩ hxd
  have hn' := hn; have hd' := hd
  rw [List.map_cons, List.nodup_cons] at hn'
  rw [List.map_append, List.nodup_append] at hd'
  obtain ⟨s2, e2, f2⟩ := aDw (R := RR) (p := p) (h := h) (key := id) (g := fun (s : RS) (b : Int × E) => RG (jA fuel) p sz s (b.1, b.2.map rc)) (subs p x e) (s.1.set n.toNat (e.map rc), if x.Op = 4 then s.2.set x.N.toNat n else s.2)
   (fun b hb s0 a1 a2 b1 b2 => by
    obtain ⟨s', c1, c2⟩ := rfill h fuel b.1 b.2 s0 (by omega) (hK b hb) (by rw [a1]; simp [hl1]) (by rw [a2, hown.l2]; exact hl2)
     (fun q hq => hz q (List.mem_cons_of_mem _ (List.mem_flatMap.2 ⟨b, hb, hq⟩))) b1 b2
    exact ⟨s', RG_in c1, c2⟩)
   hn'.2 hd'.2.1
  refine ⟨s2, ?_, hown.trans f2 hn hd⟩
  rw [← aB6 (g := RG (jA fuel) p sz) (f := fun b : Int × E => (b.1, b.2.map rc))] at e2
  rw [jA, q1, bsm, hx, bsm]
  by_cases h4 : x.Op = 4
  ·obtain ⟨_, d, b, c⟩ := e_len (e := e) hT h4
   have hk1 : x.Kids.length = 1 := by rcases hT with h | h | h | h | h <;> omega
   obtain ⟨k, hk⟩ := List.length_eq_one_iff.1 hk1
   obtain ⟨y3, q3⟩ := cH (hxd h4).1 (hxd h4).2
   have bd := dT c
   have he : e.length ≤ 100000 := hz (n, e) (List.mem_cons_self ..)
   have rch := rchans (x := x) (d := d) (e := e) (by omega) bd.1 d.Chans.length 0 fuel (by omega) (by omega)
   rw [show e ++ fZ x.N 0 = e from List.append_nil e] at rch
   rw [subs, if_pos h4, b] at e2
   dsimp only at e2
   rw [if_pos h4, List.map_append, List.map_append, wU] at e2
   obtain ⟨s3, i1, e2⟩ := bind_some e2
   rw [wU] at e2
   obtain ⟨s4, i2, e2⟩ := bind_some e2
   have e1 : (d.Rules.map (fun r => (r.Node, ruE e x.N d r))).map (fun b : Int × E => (b.1, b.2.map rc)) = d.Rules.map fun r => (r.Node, (inE e x.N d).map rc ++ List.replicate (brs d.Chans r.Joins).toNat unk) := by
    rw [List.map_map]; exact List.map_congr_left fun r hr => by show (r.Node, (ruE e x.N d r).map rc) = _; rw [rc_ru]
   have e3 : (d.Spots.map (fun y => (y.Node, inE e x.N d))).map (fun b : Int × E => (b.1, b.2.map rc)) = d.Spots.map fun y => (y.Node, (inE e x.N d).map rc) := by
    rw [List.map_map]; rfl
   rw [e1] at i1
   rw [e3] at i2
   rw [hk] at e2
   simp only [List.map_cons, List.map_nil, eQ] at e2
   obtain ⟨s5, i3, e2⟩ := bind_some e2
   cases e2
   have hin : ((inE e x.N d).map rc).length ≤ 1000000 := by rw [List.length_map]; have := pO (e := e) (m := x.N) (d := d); unfold own at this; omega
   rw [if_neg (fun q => q h4), bsm]
   dsimp only
   rw [q3, bsm, b, bsm, List.nil_append, eO (by rw [List.length_map]; omega), bsm, show vO x d fuel (e.map rc) 0 = _ from rch, bsm, aBT (by rw [List.length_map, List.length_append, aDW]; omega) (by omega) (by omega) (by omega), bsm, Int.toNat_natCast, ← rc_in,
    show wK fuel (jA fuel) d ((inE e x.N d).map rc) fuel 0 p.Free p.Nodes p.Defs p.Main (s.1.set n.toNat (e.map rc)) sz (s.2.set x.N.toNat n) = _ from rrules (by omega) hin c d.Rules [] fuel (s.1.set n.toNat (e.map rc), s.2.set x.N.toNat n) s3 rfl (by omega) (by simp; omega) i1, bsm]
   dsimp only
   rw [show tM (jA fuel) d ((inE e x.N d).map rc) fuel 0 p.Free p.Nodes p.Defs p.Main s3.1 sz s3.2 = _ from rspots d.Spots [] fuel s3 s4 rfl (by omega) (by simp; omega) i2, bsm]
   dsimp only
   rw [hk, show idx [k] (0 : Int) = some k from rfl, bsm, show jA fuel ⟨⟨p.Free, p.Nodes, p.Defs, p.Main⟩, s4.1, sz, s4.2⟩ k ((inE e x.N d).map rc) = _ from aBb i3, bsm]
  ·have hk : x.Kids.length ≤ 2 := by rcases hT with h | h | h | h | h <;> omega
   rw [subs, if_neg h4, if_neg h4, List.map_map] at e2
   rw [if_pos h4, show vZ (jA fuel) (e.map rc) x fuel 0 p.Free p.Nodes p.Defs p.Main (s.1.set n.toNat (e.map rc)) sz s.2 = _ from rkids x.Kids [] fuel (s.1.set n.toNat (e.map rc), s.2) s2 rfl (by omega) (by simp; omega) e2, bsm]
   rfl
end Go.Proofs.YtmnbfgeljmhekaaGreat
set_option maxRecDepth 100000
namespace Go.Proofs.YtmnbfgeljmhekaaGreat
open Go.SX Go.SW Go.Dt
variable {p : ScopeProg}
def root (p : ScopeProg) : Int × E := (p.Main, List.replicate p.Free.length none)
theorem pI {x : ScopeNode} {z : Int} (hT : okT p x z) (h4 : x.Op = 4) : 0 ≤ x.N ∧ x.Kids.length = 1 ∧ ∃ d, idx p.Defs x.N = some d ∧ okD d = true := by
 rcases hT with h | h | h | h | ⟨_, h1, h0, h⟩
 ·omega
 ·omega
 ·omega
 ·omega
 ·exact ⟨h0, h1, h⟩
theorem aAT {P : E → Prop} {x : ScopeNode} {e : E} {z : Int} (hin : ∀ m d, idx p.Defs m = some d → okD d = true → P (inE e m d)) (hru : ∀ m d r, idx p.Defs m = some d → okD d = true → r ∈ d.Rules → P (ruE e m d r)) (hT : okT p x z) (he : P e) : ∀ q ∈ subs p x e, P q.2 := fun q hq => by
 unfold subs at hq
 split at hq
 ·rename_i h4
  obtain ⟨_, _, d, hd, ho⟩ := pI hT h4
  rw [hd] at hq
  dsimp only at hq
  rcases List.mem_append.1 hq with hq | hq
  ·obtain ⟨r, hr, rfl⟩ := List.mem_map.1 hq; exact hru x.N d r hd ho hr
  ·rcases List.mem_append.1 hq with hq | hq
   ·obtain ⟨r, hr, rfl⟩ := List.mem_map.1 hq; exact hin x.N d hd ho
   ·obtain ⟨r, hr, rfl⟩ := List.mem_map.1 hq; exact hin x.N d hd ho
 ·obtain ⟨r, hr, rfl⟩ := List.mem_map.1 hq; exact he
theorem ln_all {P : E → Prop} (hin : ∀ e m d, idx p.Defs m = some d → okD d = true → P e → P (inE e m d)) (hru : ∀ e m d r, idx p.Defs m = some d → okD d = true → r ∈ d.Rules → P e → P (ruE e m d r)) : ∀ (h : Nat) (q : Int × E), Tr p h q → P q.2 → ∀ b ∈ LN p h q, P b.2
 | 0, q, hT, _, b, hb => hT.elim
 | h + 1, q, ⟨x, hx, h0, hT, hK⟩, he, b, hb => by
  simp only [LN, hx] at hb
  cases hb with
  | head => exact he
  | tail _ hb =>
   obtain ⟨c, hc, hb⟩ := List.mem_flatMap.1 hb
   exact ln_all hin hru h c (hK c hc) (aAT (fun m d a b => hin _ m d a b he) (fun m d r a b c => hru _ m d r a b c he) hT he c hc) b hb
theorem aBh : ∀ (h : Nat) (q : Int × E), Tr p h q → ∀ b ∈ LN p h q, b.2.length ≤ q.2.length + 70 * h
 | 0, q, hT, b, hb => hT.elim
 | h + 1, q, ⟨x, hx, h0, hT, hK⟩, b, hb => by
  simp only [LN, hx] at hb
  cases hb with
  | head => omega
  | tail _ hb =>
   obtain ⟨c, hc, hb⟩ := List.mem_flatMap.1 hb
   have a := aBh h c (hK c hc) b hb
   have c1 : c.2.length ≤ q.2.length + 70 := aAT (P := fun e => e.length ≤ q.2.length + 70) (e := q.2)
    (fun m d h1 h2 => by have a := pO (e := q.2) (m := m) (d := d); have b := dT h2; unfold own at a; omega)
    (fun m d r h1 h2 h3 => by have a := zP (e := q.2) (m := m) h2 h3; have b := dT h2; have c := (b.2.2.2.2 r h3); have d := rW c.2; have := c.1; unfold own at a; omega) hT (by omega) c hc
   omega
theorem yF {s : VS} (h : eC p = some s) : ∃ H, p.Nodes.length = H ∧ H ≤ 60 ∧ p.Defs.length ≤ 12 ∧ p.Free.length ≤ 12 ∧ Tr p H (root p) ∧ s.sz.length = p.Nodes.length ∧ ((LN p H (root p)).map (·.1)).Nodup ∧ ((HN p H (root p)).map (·.1)).Nodup ∧ (∀ q ∈ LN p H (root p), idx s.sz q.1 = some (q.2.length : Int)) ∧
  (∀ n : Int, 0 ≤ n → n < p.Nodes.length → ∃ e, (n, e) ∈ LN p H (root p)) ∧ ∀ d : Int, 0 ≤ d → d < p.Defs.length → ∃ n, (d, n) ∈ HN p H (root p) := by
 unfold eC at h
 split at h
 ·rename_i hb
  obtain ⟨s1, h1, h⟩ := bind_some h
  split at h
  ·rename_i hm
   cases h
   have e1 : (p.Free.length : Int) = ((root p).2.length : Int) := by simp [root]
   rw [e1] at h1
   obtain ⟨c, t⟩ := wR p.Nodes.length (start p) s (root p) h1 (by simp [start])
   refine ⟨_, rfl, hb.2.1, hb.2.2.1, hb.1, t, by rw [c.ls]; simp [start], c.nn, c.dn, fun q hq => (c.new q hq).2.2, fun n h0 hn => ?_, fun d h0 hn => ?_⟩
   ·apply Classical.byContradiction
    intro q
    have hi : n ∉ (LN p p.Nodes.length (root p)).map (·.1) := fun z => by obtain ⟨⟨a, e⟩, hq, rfl⟩ := List.mem_map.1 z; exact q ⟨e, hq⟩
    have o := (c.old n hi).1
    obtain ⟨y, hy⟩ := cH (xs := s.met) h0 (by rw [c.lm]; simp [start]; exact hn)
    have y1 : y = true := by have := List.all_eq_true.1 hm.1 y (dU hy); exact this
    rw [hy, y1] at o
    have := dU o.symm
    simp [start] at this
   ·apply Classical.byContradiction
    intro q
    have hi : d ∉ (HN p p.Nodes.length (root p)).map (·.1) := fun z => by obtain ⟨⟨a, e⟩, hq, rfl⟩ := List.mem_map.1 z; exact q ⟨e, hq⟩
    have o := c.oldd d hi
    have hs : idx (start p).dfs d = some false := by
     obtain ⟨y, hy⟩ := cH (xs := (start p).dfs) h0 (by simp [start]; exact hn)
     have := dU hy
     simp [start] at this
     rw [hy, this.2]
    rw [hs] at o
    have := List.all_eq_true.1 hm.2 false (dU o)
    cases this
  ·cases h
 ·cases h
structure TP (p : ScopeProg) (H : Nat) (sz : List Int) (t : Usage_text) : Prop where
 prog : t.ScopeProg = p
 sizes : t.sizes = sz
 on : ∀ q ∈ LN p H (root p), ∃ g, idx t.denotes q.1 = some g ∧ RP q.2 g
 hd : ∀ q ∈ HN p H (root p), idx t.heads q.1 = some q.2
structure LP (p : ScopeProg) (H : Nat) (sz : List Int) (L : bR) : Prop where
 prog : L.p = p
 sizes : L.Sizes = sz
 on : ∀ q ∈ LN p H (root p), ∃ g, idx L.Envs q.1 = some g ∧ RR q.2 g
 hd : ∀ q ∈ HN p H (root p), idx L.Heads q.1 = some q.2
theorem mk_ok {α : Type} {z : α} {n : Nat} (h : n ≤ 1000000000) : mk z (n : Int) = some (List.replicate n z) := by unfold mk; rw [if_pos (by omega), Int.toNat_natCast]
theorem rp_root {n : Nat} : RP (List.replicate n none) aQ.none := fun i => by
 cases hq : idx (List.replicate n (none : Option (Int × Int))) i with
 | none => rfl
 | some o => rw [List.eq_of_mem_replicate (dU hq)]; rfl
theorem read_eq (hp : SmP p) {s : VS} (h : eC p = some s) {H : Nat} (hH : p.Nodes.length = H) : ∃ t, oF F p = some t ∧ TP p H s.sz t := by
 obtain ⟨H', h1, h2, h3, h4, hT, hl, hn, hd, hz, _, _⟩ := yF h
 have : H' = H := by omega
 subst this
 obtain ⟨s', e, f⟩ := pfill (p := p) H' F p.Main (List.replicate p.Free.length none) ⟨p, List.replicate p.Nodes.length aQ.none, s.sz, List.replicate p.Defs.length 0⟩ aQ.none (by show _ ≤ 4000000; omega) rfl hT rp_root (by simp) (by simp)
  (fun q hq => ⟨hz q hq, by have := aBh H' (root p) hT q hq; have b : (root p).2.length ≤ 12 := (by simp [root]; omega); omega⟩) hn hd
 refine ⟨⟨p, s'.1, s.sz, s'.2⟩, ?_, rfl, rfl, f.on, f.hd⟩
 rw [oF, mk_ok (by omega), bsm, mk_ok (by omega), bsm, show uY F ⟨p.Free, p.Nodes, p.Defs, p.Main⟩ = _ from sizes_eq hp h hl (by omega), bsm]
 dsimp only
 rw [show kS F ⟨⟨p.Free, p.Nodes, p.Defs, p.Main⟩, List.replicate p.Nodes.length aQ.none, s.sz, List.replicate p.Defs.length 0⟩ p.Main aQ.none = _ from e, bsm]
theorem see1 {p : ScopeProg} (hB : p.Nodes.length ≤ 1000) : ∀ (j i k : Nat), i + j = p.Nodes.length → j < k → vH p k i (List.replicate i []) = some (List.replicate p.Nodes.length [])
 | 0, i, k, h, hk => by
  obtain _ | k := k
  ·omega
  rw [vH, if_neg (by omega), show i = p.Nodes.length from by omega]
 | j + 1, i, k, h, hk => by
  obtain _ | k := k
  ·omega
  rw [vH, if_pos (by omega), ← List.replicate_succ', eO (by simp; omega), bsm, aP (by omega), bsm]
  exact see1 hB j (i + 1) k (by omega) (by omega)
theorem see2 {p : ScopeProg} (hB : p.Defs.length ≤ 1000) : ∀ (j i k : Nat), i + j = p.Defs.length → j < k → vR p k i (List.replicate i 0) = some (List.replicate p.Defs.length 0)
 | 0, i, k, h, hk => by
  obtain _ | k := k
  ·omega
  rw [vR, if_neg (by omega), show i = p.Defs.length from by omega]
 | j + 1, i, k, h, hk => by
  obtain _ | k := k
  ·omega
  rw [vR, if_pos (by omega), ← List.replicate_succ', eO (by simp; omega), bsm, aP (by omega), bsm]
  exact see2 hB j (i + 1) k (by omega) (by omega)
theorem see_eq (hp : SmP p) {s : VS} (h : eC p = some s) {H : Nat} (hH : p.Nodes.length = H) : ∃ L, aCW F p = some L ∧ LP p H s.sz L := by
 obtain ⟨H', h1, h2, h3, h4, hT, hl, hn, hd, hz, _, _⟩ := yF h
 have : H' = H := by omega
 subst this
 obtain ⟨s', e, f⟩ := rfill (p := p) (sz := s.sz) H' F p.Main (List.replicate p.Free.length none) (List.replicate p.Nodes.length [], List.replicate p.Defs.length 0) (by show _ ≤ 4000000; omega) hT (by simp) (by simp)
  (fun q hq => by have := aBh H' (root p) hT q hq; have b : (root p).2.length ≤ 12 := (by simp [root]; omega); omega) hn hd
 refine ⟨⟨p, s'.1, s.sz, s'.2⟩, ?_, rfl, rfl, f.on, f.hd⟩
 have u := aBT (fuel := F) (n := (p.Free.length : Int)) (l := []) (by simp) (by omega) (by omega) (by show _ < ((4000000 : Nat) : Int); omega)
 rw [List.nil_append, Int.toNat_natCast, ← aCD] at u
 rw [aCW, show aAO F ⟨p.Free, p.Nodes, p.Defs, p.Main⟩ = _ from aJt hp h, bsm, show vH p F 0 [] = _ from see1 (by omega) p.Nodes.length 0 F (by omega) (by show _ < 4000000; omega), bsm, show vR p F 0 [] = _ from see2 (by omega) p.Defs.length 0 F (by omega) (by show _ < 4000000; omega), bsm, u, bsm,
  show jA F ⟨⟨p.Free, p.Nodes, p.Defs, p.Main⟩, List.replicate p.Nodes.length [], s.sz, List.replicate p.Defs.length 0⟩ p.Main _ = _ from e, bsm]
end Go.Proofs.YtmnbfgeljmhekaaGreat
set_option maxRecDepth 100000
namespace Go.Proofs.YtmnbfgeljmhekaaGreat
open Go.SX Go.SW Go.Dt
def cnt (k : Int) : Int := if k = 1 then 0 else if k = 4 then 2 else 1
def two (v : Int) : Prop := 0 ≤ v ∧ v ≤ 2
theorem of_p (k : Int) : oL k = some (cnt k) := by
 unfold oL cnt; split
 ·rfl
 ·split <;> rfl
theorem of_r (k : Int) : vK k = some (cnt k) := by
 unfold vK cnt; split
 ·rfl
 ·split <;> rfl
theorem iN (k : Int) : two (cnt k) := by unfold cnt two; repeat' split <;> omega
theorem aAj {a b : Int} (ha : two a) (hb : two b) : pW a b = some (min (a + b) 2) := by unfold two at ha hb; rw [pW, aP (by omega), bsm]
theorem aAA {a b : Int} (ha : two a) (hb : two b) : uL a b = some (min (a + b) 2) := by unfold two at ha hb; rw [uL, aP (by omega), bsm]
theorem lG {a b : Int} (ha : two a) (hb : two b) : two (min (a + b) 2) := by unfold two at *; omega
theorem aAl {a : Int} (h : two a) : a = 0 ∨ a = 1 ∨ a = 2 := by unfold two at h; omega
theorem aCS {a b : Int} (ha : two a) (hb : two b) : 0 ≤ a * b ∧ a * b ≤ 4 := by
 rcases aAl ha with rfl | rfl | rfl <;> unfold two at hb <;> omega
theorem times_p {a b : Int} (ha : two a) (hb : two b) : xC a b = some (min (a * b) 2) := by have := aCS ha hb; rw [xC, aP (by omega), bsm]
theorem times_r {a b : Int} (ha : two a) (hb : two b) : aBj a b = some (min (a * b) 2) := by have := aCS ha hb; rw [aBj, aP (by omega), bsm]
theorem aGp {a b : Int} (ha : two a) (hb : two b) : two (min (a * b) 2) := by have := aCS ha hb; unfold two; omega
structure lX (d : ScopeDef) (x : UsageDef) : Prop where
 chans : x.Chans.length = d.Chans.length
 rules : x.Rules.length = d.Rules.length
 args : x.Args.length = d.Chans.length
 many : ∀ c ch a, idx d.Chans c = some ch → idx x.Args c = some a → (a.length : Int) = ch.Many
def okTab (p : ScopeProg) (t : List UsageDef) : Prop := t.length = p.Defs.length ∧ ∀ i d x, idx p.Defs i = some d → idx t i = some x → lX d x
theorem kW {p : ScopeProg} {t : List UsageDef} (h : okTab p t) {i : Int} {d : ScopeDef} (hd : idx p.Defs i = some d) : ∃ x, idx t i = some x ∧ lX d x := by
 have := eA hd
 obtain ⟨x, hx⟩ := cH (xs := t) this.1 (by rw [h.1]; exact this.2)
 exact ⟨x, hx, h.2 i d x hd hx⟩
theorem tab_arg {p : ScopeProg} {t : List UsageDef} (h : okTab p t) {i c : Int} {d : ScopeDef} {ch : ScopeChan} (hd : idx p.Defs i = some d) (hc : idx d.Chans c = some ch) : ∃ x a, idx t i = some x ∧ idx x.Args c = some a ∧ (a.length : Int) = ch.Many := by
 obtain ⟨x, hx, k⟩ := kW h hd
 have := eA hc
 obtain ⟨a, ha⟩ := cH (xs := x.Args) this.1 (by rw [k.args]; exact this.2)
 exact ⟨x, a, hx, ha, k.many c ch a hc ha⟩
theorem tab_rule {p : ScopeProg} {t : List UsageDef} (h : okTab p t) {i : Int} {d : ScopeDef} (hd : idx p.Defs i = some d) : ∃ x, idx t i = some x ∧ x.Rules.length = d.Rules.length := by
 obtain ⟨x, hx, k⟩ := kW h hd
 exact ⟨x, hx, k.rules⟩
def iM (p : ScopeProg) (e : E) : Prop := ∀ i c, idx e i = some (some c) → ∃ d y, idx p.Defs c.1 = some d ∧ idx d.Chans c.2 = some y
def argW (ar : Option (List Int)) (w i : Int) : Int := match ar with | none => 2 | some a => min (w + cnt ((idx a i).getD 0)) 2
def iS (ar : Option (List Int)) (v : Int) : List ScopeExp → Int → Int → Int
 | [], _, w => w
 | e :: l, i, w => iS ar v l (i + 1) (if e.Op ≠ 2 then w else if e.N ≠ v then w else argW ar w i)
def mB (p : ScopeProg) (c : Int × Int) : Option ScopeChan := (idx p.Defs c.1).bind fun d => idx d.Chans c.2
def jI (tab : List UsageDef) (c : Int × Int) : List Int := ((idx tab c.1).bind fun x => idx x.Args c.2).getD []
def pL (p : ScopeProg) (tab : List UsageDef) (x : ScopeNode) (e : E) (v : Int) : Int :=
 match idx e x.N with
 | some (some c) => if (mB p c).elim 0 (·.Many) = (x.Args.length : Int) then iS (some (jI tab c)) v x.Args 0 (if x.N = v then 1 else 0) else 0
 | _ => iS none v x.Args 0 (if x.N = v then 1 else 0)
def eS (x : ScopeNode) (i : Int) : Int := (idx x.Kids i).getD 0
def oU (ru : List Int) (sv : ScopeRule → Int) : List ScopeRule → Int → Int → Int
 | [], _, w => w
 | r :: l, i, w => oU ru sv l (i + 1) (min (w + min (cnt ((idx ru i).getD 0) * sv r) 2) 2)
def gG (tab : List UsageDef) (x : ScopeNode) (d : ScopeDef) (e : E) (sv : Int × E → Int) : Int :=
 oU ((idx tab x.N).elim [] (·.Rules)) (fun r => sv (r.Node, ruE e x.N d r)) d.Rules 0 (d.Spots.foldl (fun w y => min (w + sv (y.Node, inE e x.N d)) 2) (sv (eS x 0, inE e x.N d)))
def gW (p : ScopeProg) (tab : List UsageDef) (sv : Int × E → Int) (x : ScopeNode) (e : E) (v : Int) : Int :=
 if x.Op = 2 then pL p tab x e v
 else if x.Op = 3 then min (sv (eS x 0, e) + sv (eS x 1, e)) 2
 else if x.Op = 5 then max (sv (eS x 0, e)) (sv (eS x 1, e))
 else if x.Op = 6 ∨ x.Op = 8 then sv (eS x 0, e)
 else if x.Op = 4 then match idx p.Defs x.N with | some d => gG tab x d e sv | none => 0
 else 0
def dB (p : ScopeProg) (tab : List UsageDef) (v : Int) : Nat → Int × E → Int
 | 0, _ => 0
 | h + 1, q => match idx p.Nodes q.1 with | some x => gW p tab (dB p tab v h) x q.2 v | none => 0
def mE (x : ScopeNode) (d : ScopeDef) (e : E) (sv : Int × E → Int) : Int := d.Spots.foldl (fun w y => w + sv (y.Node, inE e x.N d)) (sv (eS x 0, inE e x.N d))
def surW (p : ScopeProg) (x : ScopeNode) (v : Int) (o : Option (Int × Int)) : Int := match o with | some c => if x.N = v ∧ (mB p c).elim 0 (·.Many) = (x.Args.length : Int) then 1 else 0 | none => 0
def iW (p : ScopeProg) (sv : Int × E → Int) (x : ScopeNode) (e : E) (v : Int) : Int :=
 if x.Op = 2 then surW p x v ((idx e v).getD none)
 else if x.Op = 3 then sv (eS x 0, e) + sv (eS x 1, e)
 else if x.Op = 5 then min (sv (eS x 0, e)) (sv (eS x 1, e))
 else if x.Op = 4 then match idx p.Defs x.N with | some d => mE x d e sv | none => 0
 else 0
def iK (p : ScopeProg) (v : Int) : Nat → Int × E → Int
 | 0, _ => 0
 | h + 1, q => match idx p.Nodes q.1 with | some x => iW p (iK p v h) x q.2 v | none => 0
theorem kA {x : ScopeNode} {i k : Int} (h : idx x.Kids i = some k) : eS x i = k := by unfold eS; rw [h]; rfl
theorem aJd {t : List UsageDef} {v : Int} {x : ScopeNode} {g : aQ Int Usage_channel} {y3 : Ref05_Chan}
  {ar : Option (List Int)} (H : (g.get x.N = none ∧ y3.Def < 0 ∧ ar = none) ∨ (g.get x.N = some ⟨y3.Def, y3.Index⟩ ∧ 0 ≤ y3.Def ∧ ∃ tx, idx t y3.Def = some tx ∧ ∃ a, ar = some a ∧ idx tx.Args y3.Index = some a ∧ a.length = x.Args.length)) (suf : List ScopeExp) :
  ∀ (pre : List ScopeExp) (k k' : Nat) (w : Int), x.Args = pre ++ suf → suf.length < k → suf.length < k' → pre.length + suf.length ≤ 1000 → two w → ∃ r, (two r ∧ r = iS ar v suf pre.length w) ∧ mA t v x g k w pre.length = some r ∧ rQ t v x y3 k' w pre.length = some r := by
 induction suf with
 | nil =>
  intro pre k k' w hx hk hk' hB hw
  obtain _ | k := k
  ·omega
  obtain _ | k' := k'
  ·omega
  have : ¬ (pre.length : Int) < (x.Args.length : Int) := by rw [hx]; simp
  exact ⟨w, ⟨hw, rfl⟩, by rw [mA, if_neg this], by rw [rQ, if_neg this]⟩
 | cons e suf ih =>
  intro pre k k' w hx hk hk' hB hw
  obtain _ | k := k
  ·omega
  obtain _ | k' := k'
  ·omega
  simp only [List.length_cons] at hk hk' hB
  have hlt : (pre.length : Int) < (x.Args.length : Int) := by rw [hx]; exact cB pre suf e
  have hi : idx x.Args (pre.length : Int) = some e := by rw [hx]; exact cA pre suf e
  have next : ∀ w', two w' → ∃ r, (two r ∧ r = iS ar v suf ((pre.length : Int) + 1) w') ∧ mA t v x g k w' ((pre.length : Int) + 1) = some r ∧ rQ t v x y3 k' w' ((pre.length : Int) + 1) = some r := fun w' hw' => by
   rw [bS pre e]
   exact ih (pre ++ [e]) k k' w' (by rw [hx]; exact cE pre suf e) (by omega) (by omega) (by simp; omega) hw'
  have ha : iS ar v (e :: suf) pre.length w = iS ar v suf ((pre.length : Int) + 1) (if e.Op ≠ 2 then w else if e.N ≠ v then w else argW ar w pre.length) := rfl
  rw [ha, mA, rQ, if_pos hlt, if_pos hlt, hi, bsm, bsm]
  by_cases h1 : e.Op ≠ 2
  ·rw [if_pos h1, if_pos h1, if_pos h1, bsm, bsm, aP (by omega), bsm, bsm]; exact next w hw
  ·rw [if_neg h1, if_neg h1, if_neg h1, bsm]
   by_cases h2 : e.N ≠ v
   ·rw [if_pos h2, if_pos h2, if_pos h2, bsm, bsm, aP (by omega), bsm, bsm]; exact next w hw
   ·rw [if_neg h2, if_neg h2, if_neg h2]
    rcases H with ⟨a, b, rfl⟩ | ⟨a, b, tx, c1, ar, rfl, c2, c3⟩
    ·rw [a, if_pos b]
     show ∃ r, _ ∧ ((some (2 : Int)).bind _) = some r ∧ _
     rw [bsm, bsm, aP (by omega), bsm, bsm]; exact next 2 ⟨by omega, by omega⟩
    ·obtain ⟨z, hz⟩ := cH (xs := ar) (i := (pre.length : Int)) (by omega) (by omega)
     rw [a, if_neg (by omega), c1, bsm, c2, bsm, hz, bsm, of_r, bsm, aAA hw (iN z), bsm, bsm]
     show ∃ r, _ ∧ (((idx t y3.Def).bind _).bind _) = some r ∧ _
     rw [c1, bsm]
     show ∃ r, (_ ∧ r = iS _ v suf _ (argW (some ar) w pre.length)) ∧ (((idx tx.Args y3.Index).bind _).bind _) = some r ∧ _
     rw [show argW (some ar) w pre.length = min (w + cnt z) 2 from by unfold argW; dsimp only; rw [hz]; rfl]
     rw [c2, bsm, hz, bsm, of_p, bsm, aAj hw (iN z), bsm, bsm, aP (by omega), bsm, bsm]
     exact next _ (lG hw (iN z))
structure At (t : Usage_text) (L : bR) (q : Int × E) : Prop where
 p : ∃ g, idx t.denotes q.1 = some g ∧ RP q.2 g
 r : ∃ g, idx L.Envs q.1 = some g ∧ RR q.2 g
theorem wY {α β : Type} {f : α → β} {l : List α} {i : Int} {y : α} (h : idx l i = some y) : idx (l.map f) i = some (f y) := by
 have := eA h
 unfold idx at h ⊢
 rw [if_pos this.1] at h ⊢
 rw [List.getElem?_map, h]; rfl
theorem send_eq {p : ScopeProg} {t : Usage_text} {L : bR} (ht : t.ScopeProg = p) (hL : L.p = p) {tab : List UsageDef} (hk : okTab p tab) {n : Int} {e : E} {x : ScopeNode} (hx : idx p.Nodes n = some x) (hN : 0 ≤ x.N ∧ x.N < e.length) (hA : x.Args.length ≤ 3) (hat : At t L (n, e)) (he : iM p e) {v : Int} {f f' : Nat} (hf : 10 ≤ f) (hf' : 10 ≤ f') :
  ∃ r, (two r ∧ r = pL p tab x e v) ∧ wT f t tab n v = some r ∧ aCB f' L tab n v = some r := by
 subst ht
 obtain ⟨⟨g, g1, g2⟩, ⟨l, l1, l2⟩⟩ := hat
 obtain ⟨o, ho⟩ := cH hN.1 hN.2
 dsimp only at g1 g2 l1 l2
 have gg := g2 x.N
 rw [ho, bsm] at gg
 have ll : idx l x.N = some (rc o) := by rw [l2]; exact wY ho
 have hw : two (if x.N = v then 1 else 0) := by unfold two; split <;> omega
 have fin : ∀ (y3 : Ref05_Chan) (ar : Option (List Int)) (_ : (g.get x.N = none ∧ y3.Def < 0 ∧ ar = none) ∨ (g.get x.N = some ⟨y3.Def, y3.Index⟩ ∧ 0 ≤ y3.Def ∧ ∃ tx, idx tab y3.Def = some tx ∧ ∃ a, ar = some a ∧ idx tx.Args y3.Index = some a ∧ a.length = x.Args.length)),
   ∃ r, (two r ∧ r = iS ar v x.Args 0 (if x.N = v then 1 else 0)) ∧ ((if x.N = v then some 1 else some 0).bind fun x1 => (mA tab v x g f x1 0).bind fun x2 => some x2) = some r ∧ ((if x.N = v then some 1 else some 0).bind fun x1 => (rQ tab v x y3 f' x1 0).bind fun x2 => some x2) = some r := fun y3 ar H => by
  obtain ⟨r, r1, r2, r3⟩ := aJd (v := v) H x.Args [] f f' _ rfl (by omega) (by omega) (by simp; omega) hw
  have e0 : (if x.N = v then some (1 : Int) else some 0) = some (if x.N = v then 1 else 0) := by split <;> rfl
  rw [e0, bsm, bsm]
  exact ⟨r, r1, by rw [iH]; exact r2, by rw [iH]; exact r3⟩
 rw [wT, aCB, hx, bsm, g1, bsm, hL, hx, bsm, l1, bsm, bsm, ll, bsm]
 unfold pL
 rw [ho]
 cases o with
 | none =>
  rw [gg, if_neg (show ¬ 0 ≤ (rc none).Def from by simp [rc])]
  exact fin unk none (.inl ⟨gg, by decide, rfl⟩)
 | some c =>
  obtain ⟨d, y, hd, hy⟩ := he _ _ ho
  have h0 := (eA hd).1
  rw [gg, if_pos (show 0 ≤ (rc (some c)).Def from h0)]
  have hM : (mB t.ScopeProg c).elim 0 (·.Many) = y.Many := by unfold mB; rw [hd, bsm, hy]; rfl
  show ∃ r, (_ ∧ r = (if (mB t.ScopeProg c).elim 0 (·.Many) = (x.Args.length : Int) then _ else 0)) ∧ (((rC t ⟨c.1, c.2⟩ n).bind _).bind _) = some r ∧ (((idx t.ScopeProg.Defs c.1).bind fun y4 => (idx y4.Chans c.2).bind _).bind _) = some r
  rw [hM, rC, hd, bsm, bsm, hy, bsm, bsm, hx, bsm, bsm]
  by_cases hm : y.Many = (x.Args.length : Int)
  ·rw [if_pos hm, decide_eq_true hm, if_neg (show ¬ (y.Many ≠ (x.Args.length : Int)) from fun q => q hm)]
   obtain ⟨tx, ar, a1, a2, a3⟩ := tab_arg hk hd hy
   exact fin ⟨c.1, c.2⟩ (some (jI tab c)) (.inr ⟨gg, h0, tx, a1, ar, by unfold jI; rw [a1, bsm, a2]; rfl, a2, by omega⟩)
  ·rw [if_neg hm, decide_eq_false hm, if_pos (show y.Many ≠ (x.Args.length : Int) from hm)]
   exact ⟨0, ⟨⟨by omega, by omega⟩, rfl⟩, rfl, rfl⟩
end Go.Proofs.YtmnbfgeljmhekaaGreat
set_option maxRecDepth 100000
namespace Go.Proofs.YtmnbfgeljmhekaaGreat
open Go.SX Go.SW Go.Dt
theorem aDh {p : ScopeProg} {e : E} (h : iM p e) (k : Nat) : iM p (e ++ List.replicate k none) := fun i c hi => by
 rw [aAy] at hi
 split at hi
 ·exact h i c hi
 ·cases List.eq_of_mem_replicate (dU hi)
theorem aBz {p : ScopeProg} {e : E} {m : Int} {d : ScopeDef} (hd : idx p.Defs m = some d) (h : iM p e) : iM p (inE e m d) := by
 refine aDh (fun i c hi => ?_) _
 rw [aAy] at hi
 split at hi
 ·exact h i c hi
 ·have hm := dU hi
  unfold chs at hm
  obtain ⟨j, hj, e1⟩ := List.mem_map.1 hm
  cases e1
  obtain ⟨y, hy⟩ := cH (xs := d.Chans) (i := (j : Int)) (by omega) (by have := List.mem_range.1 hj; omega)
  exact ⟨d, y, hd, hy⟩
theorem env_ru {p : ScopeProg} {e : E} {m : Int} {d : ScopeDef} {r : ScopeRule} (hd : idx p.Defs m = some d) (h : iM p e) : iM p (ruE e m d r) := aDh (aBz hd h) _
theorem aEY {p : ScopeProg} {x : ScopeNode} {e : E} {z : Int} (hT : okT p x z) (he : iM p e) : ∀ q ∈ subs p x e, iM p q.2 := aAT (fun m d h1 _ => aBz h1 he) (fun m d r h1 _ _ => env_ru h1 he) hT he
variable {p : ScopeProg} {t : Usage_text} {L : bR} {tab : List UsageDef}
abbrev sC (t : Usage_text) (L : bR) (tab : List UsageDef) (v : Int) (f f' : Nat) (n : Int) (m : Int) : Prop := ∃ r, (two r ∧ r = m) ∧ fD f t tab n v = some r ∧ iF f' L tab n v = some r
theorem spots_j {v : Int} {f f' : Nat} {d : ScopeDef} {sv : ScopeSpot → Int} (suf : List ScopeSpot) : ∀ (pre : List ScopeSpot) (k : Nat) (w : Int), d.Spots = pre ++ suf → suf.length < k → pre.length + suf.length ≤ 3000000 → (∀ y ∈ suf, sC t L tab v f f' y.Node (sv y)) → two w →
  ∃ r, (two r ∧ r = suf.foldl (fun w y => min (w + sv y) 2) w) ∧ eQ (fun s b => sQ (fD f) t tab v b s) w (suf.map (·.Node)) = some r ∧ vS (iF f') L tab v d k w pre.length = some r := by
 induction suf with
 | nil =>
  intro pre k w hx hk hB _ hw
  obtain _ | k := k
  ·omega
  exact ⟨w, ⟨hw, rfl⟩, rfl, by rw [vS, if_neg (show ¬ (pre.length : Int) < (d.Spots.length : Int) from by rw [hx]; simp)]⟩
 | cons y suf ih =>
  intro pre k w hx hk hB hj hw
  obtain _ | k := k
  ·omega
  simp only [List.length_cons] at hk hB
  obtain ⟨a, ⟨a1, rfl⟩, a2, a3⟩ := hj y (List.mem_cons_self ..)
  obtain ⟨r, r1, r2, r3⟩ := ih (pre ++ [y]) k (min (w + sv y) 2) (by rw [hx]; exact cE pre suf y) (by omega) (by simp; omega) (fun z hz => hj z (List.mem_cons_of_mem _ hz)) (lG hw a1)
  refine ⟨r, r1, ?_, ?_⟩
  ·rw [List.map_cons, eQ, sQ, a2, bsm, aAj hw a1, bsm, bsm]; exact r2
  ·rw [vS, if_pos (show (pre.length : Int) < (d.Spots.length : Int) from by rw [hx]; exact cB pre suf y), show idx d.Spots (pre.length : Int) = some y from by rw [hx]; exact cA pre suf y, bsm, a3, bsm, aAA hw a1, bsm, aP (by omega), bsm, bS pre y]
   exact r3
theorem rules_j {v : Int} {f f' : Nat} {sv : ScopeRule → Int} {x : ScopeNode} {d : ScopeDef} {tx : UsageDef} (htx : idx tab x.N = some tx) (hl : tx.Rules.length = d.Rules.length) (suf : List ScopeRule) : ∀ (pre : List ScopeRule) (k k' : Nat) (w : Int), d.Rules = pre ++ suf → suf.length < k → suf.length < k' → pre.length + suf.length ≤ 3000000 → (∀ y ∈ suf, sC t L tab v f f' y.Node (sv y)) → two w →
  ∃ r, (two r ∧ r = oU tx.Rules sv suf pre.length w) ∧ pS (fD f) t tab v x d k pre.length w = some r ∧ wO (iF f') L tab v x d k' w pre.length = some r := by
 induction suf with
 | nil =>
  intro pre k k' w hx hk hk' hB _ hw
  obtain _ | k := k
  ·omega
  obtain _ | k' := k'
  ·omega
  have : ¬ (pre.length : Int) < (d.Rules.length : Int) := by rw [hx]; simp
  exact ⟨w, ⟨hw, rfl⟩, by rw [pS, if_neg this], by rw [wO, if_neg this]⟩
 | cons y suf ih =>
  intro pre k k' w hx hk hk' hB hj hw
  obtain _ | k := k
  ·omega
  obtain _ | k' := k'
  ·omega
  simp only [List.length_cons] at hk hk' hB
  obtain ⟨a, ⟨a1, rfl⟩, a2, a3⟩ := hj y (List.mem_cons_self ..)
  have hlt : (pre.length : Int) < (d.Rules.length : Int) := by rw [hx]; exact cB pre suf y
  have hi : idx d.Rules (pre.length : Int) = some y := by rw [hx]; exact cA pre suf y
  obtain ⟨c, hc⟩ := cH (xs := tx.Rules) (i := (pre.length : Int)) (by omega) (by omega)
  have hm := aGp (iN c) a1
  obtain ⟨r, r1, r2, r3⟩ := ih (pre ++ [y]) k k' (min (w + min (cnt c * sv y) 2) 2) (by rw [hx]; exact cE pre suf y) (by omega) (by omega) (by simp; omega) (fun z hz => hj z (List.mem_cons_of_mem _ hz)) (lG hw hm)
  refine ⟨r, ⟨r1.1, by rw [r1.2, oU, hc, ← bS pre y]; rfl⟩, ?_, ?_⟩
  ·rw [pS, if_pos hlt, hi, bsm, htx, bsm, hc, bsm, of_p, bsm, a2, bsm, times_p (iN c) a1, bsm, aAj hw hm, bsm, aP (by omega), bsm, bS pre y]; exact r2
  ·rw [wO, if_pos hlt, htx, bsm, hc, bsm, of_r, bsm, hi, bsm, a3, bsm, times_r (iN c) a1, bsm, aAA hw hm, bsm, aP (by omega), bsm, bS pre y]; exact r3
theorem aFS (ht : t.ScopeProg = p) (hL : L.p = p) (hk : okTab p tab) {v : Int} {f f' : Nat} (hf : 100 ≤ f) (hf' : 100 ≤ f') {n : Int} {e : E} {x : ScopeNode} {z : Int} (hx : idx p.Nodes n = some x) (hT : okT p x z) (h4 : x.Op = 4) {sv : Int × E → Int} (hj : ∀ q ∈ subs p x e, sC t L tab v f f' q.1 (sv q)) {d : ScopeDef} (hd : idx p.Defs x.N = some d) :
  ∃ r, (two r ∧ r = gG tab x d e sv) ∧ oX (f + 1) t tab n v = some r ∧ yD (f' + 1) L tab n v = some r := by
 subst ht
 obtain ⟨h0, h1, d', hd', ho⟩ := pI hT h4
 obtain rfl : d' = d := by rw [hd] at hd'; exact (Option.some.inj hd').symm
 obtain ⟨k, hkk⟩ := List.length_eq_one_iff.1 h1
 have bd := dT ho
 rw [subs, if_pos h4, hd] at hj
 dsimp only at hj
 obtain ⟨a, ⟨a1, ae⟩, a2, a3⟩ := hj (k, inE e x.N d') (List.mem_append_right _ (List.mem_append_right _ (by rw [hkk]; exact List.mem_singleton.2 rfl)))
 obtain ⟨b, ⟨b1, be⟩, b2, b3⟩ := spots_j (t := t) (L := L) (tab := tab) (v := v) (f := f) (f' := f') (sv := fun y => sv (y.Node, inE e x.N d')) d'.Spots [] f' a rfl (by omega) (by simp; omega) (fun y hy => hj (y.Node, inE e x.N d') (List.mem_append_right _ (List.mem_append_left _ (List.mem_map.2 ⟨y, hy, rfl⟩)))) a1
 obtain ⟨tx, htx, hl⟩ := tab_rule hk hd
 obtain ⟨c, ⟨c1, ce⟩, c2, c3⟩ := rules_j (t := t) (L := L) (v := v) (f := f) (f' := f') (sv := fun y => sv (y.Node, ruE e x.N d' y)) htx hl d'.Rules [] f f' b rfl (by omega) (by omega) (by simp; omega) (fun y hy => hj (y.Node, ruE e x.N d' y) (List.mem_append_left _ (List.mem_map.2 ⟨y, hy, rfl⟩))) b1
 have hk0 : idx x.Kids 0 = some k := by rw [hkk]; rfl
 refine ⟨c, ⟨c1, by rw [gG, htx, kA hk0, ← ae, ← be]; exact ce⟩, ?_, ?_⟩
 ·rw [oX, hx, bsm, hk0, bsm, a2, bsm, qJ, bsm]
  dsimp only
  rw [aCY hd hf ho, b2, bsm, hd, bsm, iH]
  exact c2
 ·rw [yD, hL, hx, bsm, hd, bsm, hk0, bsm, a3, bsm, show vS (iF f') L tab v d' f' a 0 = some b from b3, bsm, iH]
  exact c3
theorem aGo (ht : t.ScopeProg = p) (hL : L.p = p) (hk : okTab p tab) {v : Int} : ∀ (h f f' : Nat) (q : Int × E), 2 * h + 200 ≤ f → 2 * h + 200 ≤ f' → Tr p h q → iM p q.2 → (∀ b ∈ LN p h q, At t L b) → sC t L tab v f f' q.1 (dB p tab v h q)
 | 0, f, f', q, _, _, hT, _, _ => hT.elim
 | h + 1, f, f', (n, e), hf, hf', ⟨x, hx, h0, hT, hK⟩, he, hat => by
  dsimp only at hx h0 hT hK he
  obtain _ | f := f
  ·omega
  obtain _ | f := f
  ·omega
  obtain _ | f' := f'
  ·omega
  obtain _ | f' := f'
  ·omega
  simp only [LN, hx] at hat
  have own := hat (n, e) (List.mem_cons_self ..)
  have kid : ∀ (g g' : Nat), 2 * h + 200 ≤ g → 2 * h + 200 ≤ g' → ∀ q ∈ subs p x e, sC t L tab v g g' q.1 (dB p tab v h q) := fun g g' hg hg' q hq =>
   aGo ht hL hk h g g' q hg hg' (hK q hq) (aEY hT he q hq) (fun b hb => hat b (List.mem_cons_of_mem _ (List.mem_flatMap.2 ⟨q, hq, hb⟩)))
  unfold sC
  dsimp only
  rw [dB]
  dsimp only
  rw [hx]
  dsimp only
  rw [fD, iF, ht, hL, hx, bsm, bsm, bsm]
  rcases hT with ⟨h1, _⟩ | ⟨h1, h2⟩ | ⟨h1, h2, _, h3⟩ | ⟨h1, h2⟩ | ⟨h1, h2⟩
  ·have e2 : ¬ x.Op = 2 := by omega
   have e3 : ¬ x.Op = 3 := by omega
   have e5 : ¬ x.Op = 5 := by omega
   have e6 : ¬ x.Op = 6 := by omega
   have e8 : ¬ x.Op = 8 := by omega
   have e4 : ¬ x.Op = 4 := by omega
   refine ⟨0, ⟨⟨by omega, by omega⟩, by unfold gW; rw [if_neg e2, if_neg e3, if_neg e5, if_neg (by omega), if_neg e4]⟩, ?_, ?_⟩
   ·rw [if_neg e2, if_neg e3, if_neg e5, if_neg e6, bsm, decide_eq_false e8, cond_false, if_neg e4]
   ·rw [if_neg e2, if_neg e3, if_neg e5, if_neg e6, bsm, decide_eq_false e8, cond_false, if_neg e4]
  ·have e2 : ¬ x.Op = 2 := by omega
   have e4 : ¬ x.Op = 4 := by omega
   obtain ⟨a, b, hab⟩ : ∃ a b, x.Kids = [a, b] := by
    match hq : x.Kids, h2 with
    | [a, b], _ => exact ⟨a, b, rfl⟩
   have i0 : idx x.Kids 0 = some a := by rw [hab]; rfl
   have i1 : idx x.Kids 1 = some b := by rw [hab]; rfl
   have ma : (a, e) ∈ subs p x e := by rw [subs, if_neg e4, hab]; exact List.mem_cons_self ..
   have mb : (b, e) ∈ subs p x e := by rw [subs, if_neg e4, hab]; exact List.mem_cons_of_mem _ (List.mem_cons_self ..)
   obtain ⟨ra, ⟨a1, ae⟩, a2, a3⟩ := kid f (f' + 1) (by omega) (by omega) _ ma
   obtain ⟨rb, ⟨b1, be⟩, b2, b3⟩ := kid f (f' + 1) (by omega) (by omega) _ mb
   dsimp only at a2 a3 b2 b3
   rw [if_neg e2, if_neg e2]
   by_cases e3 : x.Op = 3
   ·refine ⟨min (ra + rb) 2, ⟨lG a1 b1, by unfold gW; rw [if_neg e2, if_pos e3, kA i0, kA i1, ae, be]⟩, ?_, ?_⟩
    ·rw [if_pos e3, rK, ht, hx, bsm, i0, bsm, a2, bsm, i1, bsm, b2, bsm, iH, iH]; exact aAj a1 b1
    ·rw [if_pos e3, i0, bsm, a3, bsm, i1, bsm, b3, bsm, iH]; exact aAA a1 b1
   ·have e5 : x.Op = 5 := by omega
    refine ⟨max ra rb, ⟨by unfold two at *; omega, by unfold gW; rw [if_neg e2, if_neg e3, if_pos e5, kA i0, kA i1, ae, be]⟩, ?_, ?_⟩
    ·rw [if_neg e3, if_pos e5, rK, ht, hx, bsm, i0, bsm, a2, bsm, i1, bsm, b2, bsm, iH, iH]
     show pZ ra rb = _
     unfold pZ
     split
     ·congr 1; omega
     ·congr 1; omega
    ·rw [if_neg e3, if_pos e5, i0, bsm, a3, bsm, i1, bsm, b3, bsm]
  ·obtain ⟨r, r1, r2, r3⟩ := send_eq (t := t) (L := L) ht hL hk hx h3 h2 own he (v := v) (f := f + 1) (f' := f' + 1) (by omega) (by omega)
   exact ⟨r, ⟨r1.1, by unfold gW; rw [if_pos h1]; exact r1.2⟩, by rw [if_pos h1, iH]; exact r2, by rw [if_pos h1, iH]; exact r3⟩
  ·have e2 : ¬ x.Op = 2 := by omega
   have e3 : ¬ x.Op = 3 := by omega
   have e5 : ¬ x.Op = 5 := by omega
   have e4 : ¬ x.Op = 4 := by omega
   obtain ⟨a, hab⟩ := List.length_eq_one_iff.1 h2
   have i0 : idx x.Kids 0 = some a := by rw [hab]; rfl
   have ma : (a, e) ∈ subs p x e := by rw [subs, if_neg e4, hab]; exact List.mem_cons_self ..
   obtain ⟨ra, ⟨a1, ae⟩, a2, a3⟩ := kid (f + 1) (f' + 1) (by omega) (by omega) _ ma
   dsimp only at a2 a3
   have e68 : (if x.Op = 6 then some (decide (x.Op = 6)) else some (decide (x.Op = 8))) = some true := by
    split
    ·rename_i h6; rw [decide_eq_true h6]
    ·rw [decide_eq_true (by omega)]
   refine ⟨ra, ⟨a1, by unfold gW; rw [if_neg e2, if_neg e3, if_neg e5, if_pos (by omega), kA i0]; exact ae⟩, ?_, ?_⟩
   ·rw [if_neg e2, if_neg e3, if_neg e5, e68, bsm, cond_true, i0, bsm, iH]; exact a2
   ·rw [if_neg e2, if_neg e3, if_neg e5, e68, bsm, cond_true, i0, bsm, iH]; exact a3
  ·have e2 : ¬ x.Op = 2 := by omega
   have e3 : ¬ x.Op = 3 := by omega
   have e5 : ¬ x.Op = 5 := by omega
   have e6 : ¬ x.Op = 6 := by omega
   have e8 : ¬ x.Op = 8 := by omega
   have hT' : okT p x 0 := .inr (.inr (.inr (.inr ⟨h1, h2⟩)))
   obtain ⟨_, _, d, hd, _⟩ := pI hT' h1
   obtain ⟨r, r1, r2, r3⟩ := aFS (t := t) (L := L) (p := p) ht hL hk (v := v) (f := f) (f' := f') (n := n) (e := e) (x := x) (z := 0) (by omega) (by omega) hx hT' h1 (kid f f' (by omega) (by omega)) hd
   refine ⟨r, ⟨r1.1, by unfold gW; rw [if_neg e2, if_neg e3, if_neg e5, if_neg (by omega), if_pos h1, hd]; exact r1.2⟩, ?_, ?_⟩
   ·rw [if_neg e2, if_neg e3, if_neg e5, if_neg e6, bsm, decide_eq_false e8, cond_false, if_pos h1, iH]; exact r2
   ·rw [if_neg e2, if_neg e3, if_neg e5, if_neg e6, bsm, decide_eq_false e8, cond_false, if_pos h1, iH]; exact r3
end Go.Proofs.YtmnbfgeljmhekaaGreat
set_option maxRecDepth 100000
namespace Go.Proofs.YtmnbfgeljmhekaaGreat
open Go.SX Go.SW Go.Dt
variable {p : ScopeProg} {t : Usage_text} {L : bR}
abbrev sZ (p : ScopeProg) (h : Nat) (t : Usage_text) (L : bR) (v : Int) (f f' : Nat) (q : Int × E) : Prop := ∃ r, ((0 ≤ r ∧ r ≤ ((LN p h q).length : Int)) ∧ r = iK p v h q) ∧ gV f t q.1 v = some r ∧ mZ f' L q.1 v = some r
theorem aAX {α β : Type} {f : α → List β} : ∀ {l : List α} {a : α}, a ∈ l → (f a).length ≤ (l.flatMap f).length
 | b :: l, a, h => by
  rw [List.flatMap_cons, List.length_append]
  cases h with
  | head => omega
  | tail _ h => have := aAX (f := f) h; omega
theorem spots_s {h : Nat} {v : Int} {f f' : Nat} {d : ScopeDef} {e' : E} (suf : List ScopeSpot) : ∀ (pre : List ScopeSpot) (k : Nat) (w : Int), d.Spots = pre ++ suf → suf.length < k → pre.length + suf.length ≤ 3000000 → (∀ y ∈ suf, sZ p h t L v f f' (y.Node, e')) → 0 ≤ w → w + ((suf.map fun y => (y.Node, e')).flatMap (LN p h)).length ≤ 1000000 →
  ∃ r, ((0 ≤ r ∧ r ≤ w + ((suf.map fun y => (y.Node, e')).flatMap (LN p h)).length) ∧ r = suf.foldl (fun w y => w + iK p v h (y.Node, e')) w) ∧ eQ (fun s b => sH (gV f) t v b s) w (suf.map (·.Node)) = some r ∧ tA (mZ f') L v d k w pre.length = some r := by
 induction suf with
 | nil =>
  intro pre k w hx hk hB _ hw _
  obtain _ | k := k
  ·omega
  exact ⟨w, ⟨⟨hw, by simp⟩, rfl⟩, rfl, by rw [tA, if_neg (show ¬ (pre.length : Int) < (d.Spots.length : Int) from by rw [hx]; simp)]⟩
 | cons y suf ih =>
  intro pre k w hx hk hB hj hw hW
  obtain _ | k := k
  ·omega
  simp only [List.length_cons] at hk hB
  obtain ⟨a, ⟨a1, ae⟩, a2, a3⟩ := hj y (List.mem_cons_self ..)
  rw [List.map_cons, List.flatMap_cons, List.length_append] at hW
  obtain ⟨r, r1, r2, r3⟩ := ih (pre ++ [y]) k (w + a) (by rw [hx]; exact cE pre suf y) (by omega) (by simp; omega) (fun z hz => hj z (List.mem_cons_of_mem _ hz)) (by omega) (by omega)
  refine ⟨r, ⟨⟨r1.1.1, by have := r1.1.2; rw [List.map_cons, List.flatMap_cons, List.length_append]; omega⟩, by rw [r1.2, ae]; rfl⟩, ?_, ?_⟩
  ·rw [List.map_cons, eQ, sH, a2, bsm, aP (by omega), bsm, bsm]; exact r2
  ·rw [tA, if_pos (show (pre.length : Int) < (d.Spots.length : Int) from by rw [hx]; exact cB pre suf y), show idx d.Spots (pre.length : Int) = some y from by rw [hx]; exact cA pre suf y, bsm, a3, bsm, aP (by omega), bsm, aP (by omega), bsm, bS pre y]
   exact r3
theorem aGi (ht : t.ScopeProg = p) (hL : L.p = p) {h : Nat} {v : Int} {f f' : Nat} (hf : 100 ≤ f) (hf' : 100 ≤ f') {n : Int} {e : E} {x : ScopeNode} {z : Int} (hx : idx p.Nodes n = some x) (hT : okT p x z) (h4 : x.Op = 4) (hB : (LN p (h + 1) (n, e)).length ≤ 1000000) (hj : ∀ q ∈ subs p x e, sZ p h t L v f f' q) {d : ScopeDef} (hd : idx p.Defs x.N = some d) :
  ∃ r, ((0 ≤ r ∧ r ≤ ((LN p (h + 1) (n, e)).length : Int)) ∧ r = mE x d e (iK p v h)) ∧ lM (f + 1) t n v = some r ∧ vQ (f' + 1) L n v = some r := by
 subst ht
 obtain ⟨h0, h1, d', hd', ho⟩ := pI hT h4
 obtain rfl : d = d' := by rw [hd] at hd'; exact Option.some.inj hd'
 obtain ⟨k, hkk⟩ := List.length_eq_one_iff.1 h1
 have bd := dT ho
 rw [subs, if_pos h4, hd] at hj
 dsimp only at hj
 have hlen : (LN t.ScopeProg (h + 1) (n, e)).length = 1 + (((d.Rules.map (fun r => (r.Node, ruE e x.N d r))).flatMap (LN t.ScopeProg h)).length + (((d.Spots.map (fun y => (y.Node, inE e x.N d))).flatMap (LN t.ScopeProg h)).length + (LN t.ScopeProg h (k, inE e x.N d)).length)) := by
  simp only [LN, hx]
  rw [subs, if_pos h4, hd, List.length_cons]
  dsimp only
  rw [List.flatMap_append, List.length_append, List.flatMap_append, List.length_append, hkk, List.map_cons, List.map_nil, List.flatMap_cons, List.flatMap_nil, List.append_nil]
  omega
 obtain ⟨a, ⟨a1, ae⟩, a2, a3⟩ := hj (k, inE e x.N d) (List.mem_append_right _ (List.mem_append_right _ (by rw [hkk]; exact List.mem_singleton.2 rfl)))
 obtain ⟨b, ⟨b1, be⟩, b2, b3⟩ := spots_s (p := t.ScopeProg) (h := h) (t := t) (L := L) (v := v) (f := f) (f' := f') (e' := inE e x.N d) d.Spots [] f' a rfl (by omega) (by simp; omega) (fun y hy => hj (y.Node, inE e x.N d) (List.mem_append_right _ (List.mem_append_left _ (List.mem_map.2 ⟨y, hy, rfl⟩)))) a1.1 (by omega)
 have hk0 : idx x.Kids 0 = some k := by rw [hkk]; rfl
 refine ⟨b, ⟨⟨b1.1, by omega⟩, by rw [mE, kA hk0, ← ae]; exact be⟩, ?_, ?_⟩
 ·rw [lM, hx, bsm, hk0, bsm, a2, bsm, qJ, bsm]
  dsimp only
  rw [aCY hd hf ho, b2, bsm]
 ·rw [vQ, hL, hx, bsm, hd, bsm, hk0, bsm, a3, bsm, show tA (mZ f') L v d f' a 0 = some b from b3, bsm]
theorem aFR (ht : t.ScopeProg = p) (hL : L.p = p) {v : Int} : ∀ (h f f' : Nat) (q : Int × E), 2 * h + 200 ≤ f → 2 * h + 200 ≤ f' → Tr p h q → iM p q.2 → 0 ≤ v ∧ v < q.2.length → (LN p h q).length ≤ 1000000 → (∀ b ∈ LN p h q, At t L b) → sZ p h t L v f f' q
 | 0, f, f', q, _, _, hT, _, _, _, _ => hT.elim
 | h + 1, f, f', (n, e), hf, hf', ⟨x, hx, h0, hT, hK⟩, he, hv, hB, hat => by
  dsimp only at hx h0 hT hK he hv
  obtain _ | f := f
  ·omega
  obtain _ | f := f
  ·omega
  obtain _ | f' := f'
  ·omega
  obtain _ | f' := f'
  ·omega
  have hlen : (LN p (h + 1) (n, e)).length = 1 + ((subs p x e).flatMap (LN p h)).length := by simp only [LN, hx, List.length_cons]; omega
  have hB0 := hB
  simp only [LN, hx] at hat
  have hown := hat (n, e) (List.mem_cons_self ..)
  have kid : ∀ (g g' : Nat), 2 * h + 200 ≤ g → 2 * h + 200 ≤ g' → ∀ q ∈ subs p x e, sZ p h t L v g g' q := fun g g' hg hg' q hq =>
   aFR ht hL h g g' q hg hg' (hK q hq) (aEY hT he q hq)
    (aAT (P := fun e => 0 ≤ v ∧ v < (e.length : Int)) (fun m d h1 h2 => ⟨hv.1, by have a := pO (e := e) (m := m) (d := d); unfold own at a; omega⟩) (fun m d r h1 h2 h3 => ⟨hv.1, by have a := zP (e := e) (m := m) h2 h3; have b := dT h2; have d := rW (b.2.2.2.2 r h3).2; unfold own at a; omega⟩) hT hv q hq)
    (by have := aAX (f := LN p h) hq; omega) (fun b hb => hat b (List.mem_cons_of_mem _ (List.mem_flatMap.2 ⟨q, hq, hb⟩)))
  unfold sZ
  rw [hlen, iK]
  dsimp only
  rw [hx]
  dsimp only
  rw [gV, mZ, ht, hL, hx, bsm (a := x), bsm (a := x)]
  rcases hT with ⟨h1, _⟩ | ⟨h1, h2⟩ | ⟨h1, h2, _, h3⟩ | ⟨h1, h2⟩ | ⟨h1, h2⟩
  ·have e2 : ¬ x.Op = 2 := by omega
   have e3 : ¬ x.Op = 3 := by omega
   have e5 : ¬ x.Op = 5 := by omega
   have e4 : ¬ x.Op = 4 := by omega
   exact ⟨0, ⟨⟨by omega, by omega⟩, by unfold iW; rw [if_neg e2, if_neg e3, if_neg e5, if_neg e4]⟩, by rw [if_neg e2, if_neg e3, if_neg e5, if_neg e4, bsm], by rw [if_neg e2, if_neg e3, if_neg e5, if_neg e4, bsm]⟩
  ·have e2 : ¬ x.Op = 2 := by omega
   have e4 : ¬ x.Op = 4 := by omega
   obtain ⟨a, b, hab⟩ : ∃ a b, x.Kids = [a, b] := by
    match hq : x.Kids, h2 with
    | [a, b], _ => exact ⟨a, b, rfl⟩
   have i0 : idx x.Kids 0 = some a := by rw [hab]; rfl
   have i1 : idx x.Kids 1 = some b := by rw [hab]; rfl
   have hs : subs p x e = [(a, e), (b, e)] := by rw [subs, if_neg e4, hab]; rfl
   rw [hs] at hlen kid
   rw [hs]
   rw [List.flatMap_cons, List.flatMap_cons, List.flatMap_nil, List.append_nil, List.length_append] at hlen
   rw [List.flatMap_cons, List.flatMap_cons, List.flatMap_nil, List.append_nil, List.length_append]
   obtain ⟨ra, ⟨a1, ae⟩, a2, a3⟩ := kid (f + 1) (f' + 1) (by omega) (by omega) _ (List.mem_cons_self ..)
   obtain ⟨rb, ⟨b1, be⟩, b2, b3⟩ := kid (f + 1) (f' + 1) (by omega) (by omega) _ (List.mem_cons_of_mem _ (List.mem_cons_self ..))
   dsimp only at a2 a3 b2 b3
   rw [if_neg e2, if_neg e2]
   by_cases e3 : x.Op = 3
   ·refine ⟨ra + rb, ⟨⟨by omega, by omega⟩, by unfold iW; rw [if_neg e2, if_pos e3, kA i0, kA i1, ae, be]⟩, ?_, ?_⟩
    ·rw [if_pos e3, i0, bsm, a2, bsm, i1, bsm, b2, bsm, aP (by omega), bsm, bsm, bsm]
    ·rw [if_pos e3, i0, bsm, a3, bsm, i1, bsm, b3, bsm, aP (by omega), bsm, bsm, bsm]
   ·have e5 : x.Op = 5 := by omega
    refine ⟨min ra rb, ⟨⟨by omega, by omega⟩, by unfold iW; rw [if_neg e2, if_neg e3, if_pos e5, kA i0, kA i1, ae, be]⟩, ?_, ?_⟩
    ·rw [if_neg e3, if_pos e5, i0, bsm, a2, bsm, i1, bsm, b2, bsm, bsm, bsm]
    ·rw [if_neg e3, if_pos e5, i0, bsm, a3, bsm, i1, bsm, b3, bsm, bsm, bsm]
  ·obtain ⟨⟨g, g1, g2⟩, ⟨l, l1, l2⟩⟩ := hown
   obtain ⟨o, hoe⟩ := cH hv.1 hv.2
   dsimp only at g1 g2 l1 l2
   have gg := g2 v
   rw [hoe, bsm] at gg
   have ll : idx l v = some (rc o) := by rw [l2]; exact wY hoe
   rw [show iW p (iK p v h) x e v = surW p x v o from by unfold iW; rw [if_pos h1, hoe]; rfl]
   rw [if_pos h1, if_pos h1, g1, bsm (a := g), l1, bsm (a := l), ll, bsm (a := rc o)]
   by_cases hN : x.N = v
   ·rw [if_pos hN, if_pos hN]
    cases o with
    | none =>
     rw [gg, if_neg (show ¬ 0 ≤ (rc none).Def from by simp [rc])]
     exact ⟨0, ⟨⟨by omega, by omega⟩, rfl⟩, rfl, rfl⟩
    | some c =>
     obtain ⟨d, y, hd, hy⟩ := he _ _ hoe
     have hc0 := (eA hd).1
     rw [gg, if_pos (show 0 ≤ (rc (some c)).Def from hc0)]
     have hM : (mB p c).elim 0 (·.Many) = y.Many := by unfold mB; rw [hd, bsm, hy]; rfl
     show ∃ r, (_ ∧ r = (if x.N = v ∧ (mB p c).elim 0 (·.Many) = (x.Args.length : Int) then (1 : Int) else 0)) ∧ (((rC t ⟨c.1, c.2⟩ n).bind _).bind _) = some r ∧ (((idx p.Defs c.1).bind fun y4 => (idx y4.Chans c.2).bind _).bind _) = some r
     rw [hM, rC, ht, hd, bsm, bsm, hy, bsm, bsm, hx, bsm, bsm, hy, bsm (a := y)]
     by_cases hm : y.Many = (x.Args.length : Int)
     ·rw [if_pos ⟨hN, hm⟩, decide_eq_true hm, if_pos hm]
      exact ⟨1, ⟨⟨by omega, by omega⟩, rfl⟩, rfl, rfl⟩
     ·rw [if_neg (fun q => hm q.2), decide_eq_false hm, if_neg hm]
      exact ⟨0, ⟨⟨by omega, by omega⟩, rfl⟩, rfl, rfl⟩
   ·rw [if_neg hN, if_neg hN]
    refine ⟨0, ⟨⟨by omega, by omega⟩, by cases o with | none => rfl | some c => exact (if_neg (fun q => hN q.1)).symm⟩, ?_, rfl⟩
    cases (g.get v).isSome <;> rfl
  ·have e2 : ¬ x.Op = 2 := by omega
   have e3 : ¬ x.Op = 3 := by omega
   have e5 : ¬ x.Op = 5 := by omega
   have e4 : ¬ x.Op = 4 := by omega
   exact ⟨0, ⟨⟨by omega, by omega⟩, by unfold iW; rw [if_neg e2, if_neg e3, if_neg e5, if_neg e4]⟩, by rw [if_neg e2, if_neg e3, if_neg e5, if_neg e4, bsm], by rw [if_neg e2, if_neg e3, if_neg e5, if_neg e4, bsm]⟩
  ·have e2 : ¬ x.Op = 2 := by omega
   have e3 : ¬ x.Op = 3 := by omega
   have e5 : ¬ x.Op = 5 := by omega
   have hT' : okT p x 0 := .inr (.inr (.inr (.inr ⟨h1, h2⟩)))
   obtain ⟨_, _, d, hd, _⟩ := pI hT' h1
   obtain ⟨r, r1, r2, r3⟩ := aGi (t := t) (L := L) (p := p) (h := h) ht hL (v := v) (f := f) (f' := f') (n := n) (e := e) (x := x) (z := 0) (by omega) (by omega) hx hT' h1 hB0 (kid f f' (by omega) (by omega)) hd
   rw [hlen] at r1
   refine ⟨r, ⟨r1.1, by unfold iW; rw [if_neg e2, if_neg e3, if_neg e5, if_pos h1, hd]; exact r1.2⟩, ?_, ?_⟩
   ·rw [if_neg e2, if_neg e3, if_neg e5, if_pos h1, r2, bsm, bsm, bsm]
   ·rw [if_neg e2, if_neg e3, if_neg e5, if_pos h1, r3, bsm, bsm, bsm]
end Go.Proofs.YtmnbfgeljmhekaaGreat
set_option maxRecDepth 100000
namespace Go.Proofs.YtmnbfgeljmhekaaGreat
open Go.SX Go.SW Go.Dt
theorem aGD {P : Int → Int → Bool → Bool} {w0 : Int × Int × Bool → Option Bool} (hw : ∀ x, w0 x = some (P x.1 x.2.1 x.2.2)) {once : Bool} {a b : List Int} (suf : List Int) : ∀ (pre pre' suf' : List Int) (k : Nat), a = pre ++ suf → b = pre' ++ suf' → pre.length = pre'.length → suf.length = suf'.length → suf.length < k → pre.length + suf.length ≤ 3000000 →
  oH a b once w0 k pre.length = some (if (suf.zip suf').all (fun q => P q.1 q.2 once) = true then .inl () else .inr false) := by
 induction suf with
 | nil =>
  intro pre pre' suf' k ha hb hl hs hk hB
  obtain _ | k := k
  ·omega
  rw [oH, if_neg (show ¬ (pre.length : Int) < (a.length : Int) from by rw [ha]; simp)]; rfl
 | cons y suf ih =>
  intro pre pre' suf' k ha hb hl hs hk hB
  obtain _ | k := k
  ·omega
  obtain _ | ⟨z, suf'⟩ := suf'
  ·cases hs
  simp only [List.length_cons] at hk hB hs
  rw [oH, if_pos (show (pre.length : Int) < (a.length : Int) from by rw [ha]; exact cB pre suf y), show idx a (pre.length : Int) = some y from by rw [ha]; exact cA pre suf y, bsm, show idx b (pre.length : Int) = some z from by rw [hb, hl]; exact cA pre' suf' z, bsm, hw, bsm]
  dsimp only
  rw [List.zip_cons_cons, List.all_cons]
  dsimp only
  cases P y z once with
  | false => rfl
  | true =>
   rw [cond_true, Bool.true_and, aP (by omega), bsm, bS pre y]
   exact ih (pre ++ [y]) (pre' ++ [z]) suf' k (by rw [ha]; exact cE pre suf y) (by rw [hb]; exact cE pre' suf' z) (by simp; omega) (by omega) (by omega) (by simp; omega)
theorem aCP {P : Int → Int → Bool → Bool} {w0 : Int × Int × Bool → Option Bool} (hw : ∀ x, w0 x = some (P x.1 x.2.1 x.2.2)) {once : Bool} {a b : List Int} {fuel : Nat} (h : a.length = b.length) (hf : a.length < fuel) (hB : a.length ≤ 3000000) : rT fuel a b once w0 = some ((a.zip b).all fun q => P q.1 q.2 once) := by
 have e := aGD hw (once := once) (a := a) (b := b) a [] [] b fuel rfl rfl rfl h hf (by simp; omega)
 rw [rT, show oH a b once w0 fuel 0 = _ from e, bsm]
 cases (a.zip b).all fun q => P q.1 q.2 once <;> rfl
structure Sh2 (x y : UsageDef) : Prop where
 chans : x.Chans.length = y.Chans.length
 rules : x.Rules.length = y.Rules.length
 args : x.Args.length = y.Args.length
 each : ∀ q ∈ x.Args.zip y.Args, q.1.length = q.2.length
structure SmU (x : UsageDef) : Prop where
 chans : x.Chans.length ≤ 2000000
 rules : x.Rules.length ≤ 2000000
 args : x.Args.length ≤ 2000000
 each : ∀ a ∈ x.Args, a.length ≤ 2000000
def kz (P : Int → Int → Bool → Bool) (x y : UsageDef) : Bool := (x.Chans.zip y.Chans).all (fun q => P q.1 q.2 true) && ((x.Rules.zip y.Rules).all (fun q => P q.1 q.2 false) && (x.Args.zip y.Args).all fun q => (q.1.zip q.2).all fun q => P q.1 q.2 false)
theorem aI5 {P : Int → Int → Bool → Bool} {w0 : Int × Int × Bool → Option Bool} (hw : ∀ x, w0 x = some (P x.1 x.2.1 x.2.2)) {A B : List UsageDef} {i : Int} {x y : UsageDef} (hx : idx A i = some x) (hy : idx B i = some y) (suf : List (List Int)) : ∀ (pre pre' suf' : List (List Int)) (k : Nat), x.Args = pre ++ suf → y.Args = pre' ++ suf' → pre.length = pre'.length → suf.length = suf'.length → suf.length < k → pre.length + suf.length ≤ 3000000 → (∀ q ∈ suf.zip suf', q.1.length = q.2.length) → (∀ a ∈ suf, a.length ≤ 2000000) →
  oC F A B w0 i x k pre.length = some (if (suf.zip suf').all (fun q => (q.1.zip q.2).all fun q => P q.1 q.2 false) = true then .inl () else .inr (.inr false)) := by
 induction suf with
 | nil =>
  intro pre pre' suf' k ha hb hl hs hk hB _ _
  obtain _ | k := k
  ·omega
  rw [oC, if_neg (show ¬ (pre.length : Int) < (x.Args.length : Int) from by rw [ha]; simp)]; rfl
 | cons a suf ih =>
  intro pre pre' suf' k ha hb hl hs hk hB he hm
  obtain _ | k := k
  ·omega
  obtain _ | ⟨b, suf'⟩ := suf'
  ·cases hs
  simp only [List.length_cons] at hk hB hs
  have hab : a.length = b.length := he (a, b) (List.mem_cons_self ..)
  have hma := hm a (List.mem_cons_self ..)
  rw [oC, if_pos (show (pre.length : Int) < (x.Args.length : Int) from by rw [ha]; exact cB pre suf a), hx, bsm, show idx x.Args (pre.length : Int) = some a from by rw [ha]; exact cA pre suf a, bsm, hy, bsm, show idx y.Args (pre.length : Int) = some b from by rw [hb, hl]; exact cA pre' suf' b, bsm, aCP hw hab (by show _ < 4000000; omega) (by omega), bsm, List.zip_cons_cons, List.all_cons]
  dsimp only
  cases (a.zip b).all fun q => P q.1 q.2 false with
  | false => rfl
  | true =>
   rw [cond_true, Bool.true_and, aP (by omega), bsm, bS pre a]
   exact ih (pre ++ [a]) (pre' ++ [b]) suf' k (by rw [ha]; exact cE pre suf a) (by rw [hb]; exact cE pre' suf' b) (by simp; omega) (by omega) (by omega) (by simp; omega) (fun q hq => he q (List.mem_cons_of_mem _ hq)) (fun q hq => hm q (List.mem_cons_of_mem _ hq))
theorem aJk {P : Int → Int → Bool → Bool} {w0 : Int × Int × Bool → Option Bool} (hw : ∀ x, w0 x = some (P x.1 x.2.1 x.2.2)) {A B : List UsageDef} (suf : List UsageDef) : ∀ (pre pre' suf' : List UsageDef) (k : Nat), A = pre ++ suf → B = pre' ++ suf' → pre.length = pre'.length → suf.length = suf'.length → suf.length < k → pre.length + suf.length ≤ 3000000 → (∀ q ∈ suf.zip suf', Sh2 q.1 q.2) → (∀ a ∈ suf, SmU a) →
  mO F A B w0 k pre.length = some (if (suf.zip suf').all (fun q => kz P q.1 q.2) = true then .inl () else .inr false) := by
 induction suf with
 | nil =>
  intro pre pre' suf' k ha hb hl hs hk hB _ _
  obtain _ | k := k
  ·omega
  rw [mO, if_neg (show ¬ (pre.length : Int) < (A.length : Int) from by rw [ha]; simp)]; rfl
 | cons a suf ih =>
  intro pre pre' suf' k ha hb hl hs hk hB he hm
  obtain _ | k := k
  ·omega
  obtain _ | ⟨b, suf'⟩ := suf'
  ·cases hs
  simp only [List.length_cons] at hk hB hs
  have s2 := he (a, b) (List.mem_cons_self ..)
  have sm := hm a (List.mem_cons_self ..)
  have s1 := s2.chans; have s3 := s2.rules
  dsimp only at s1 s3
  have hx : idx A (pre.length : Int) = some a := by rw [ha]; exact cA pre suf a
  have hy : idx B (pre.length : Int) = some b := by rw [hb, hl]; exact cA pre' suf' b
  have b1 := sm.chans; have b2 := sm.rules; have b3 := sm.args
  have l2 := aI5 hw hx hy a.Args [] [] b.Args F rfl rfl rfl s2.args (by show _ < 4000000; omega) (by simp; omega) s2.each sm.each
  rw [mO, if_pos (show (pre.length : Int) < (A.length : Int) from by rw [ha]; exact cB pre suf a), hx, bsm (a := a), hy, bsm (a := b), aCP hw s1 (by show _ < 4000000; omega) (by omega), bsm, List.zip_cons_cons, List.all_cons]
  dsimp only
  cases q1 : (a.Chans.zip b.Chans).all fun q => P q.1 q.2 true with
  | false =>
   have e : kz P a b = false := by unfold kz; rw [q1, Bool.false_and]
   rw [e]; rfl
  | true =>
   rw [Bool.not_true, cond_false, bsm (a := a), bsm (a := b), aCP hw s3 (by show _ < 4000000; omega) (by omega), bsm]
   cases q2 : (a.Rules.zip b.Rules).all fun q => P q.1 q.2 false with
   | false =>
    have e : kz P a b = false := by unfold kz; rw [q1, q2, Bool.false_and, Bool.and_false]
    rw [e]; rfl
   | true =>
    rw [cond_true, bsm (a := a), show oC F A B w0 pre.length a F 0 = _ from l2]
    cases q3 : (a.Args.zip b.Args).all fun q => (q.1.zip q.2).all fun q => P q.1 q.2 false with
    | false =>
     have e : kz P a b = false := by unfold kz; rw [q1, q2, q3]; rfl
     rw [e]; rfl
    | true =>
     have e : kz P a b = true := by unfold kz; rw [q1, q2, q3]; rfl
     rw [e, if_pos rfl, bsm]
     dsimp only
     rw [Bool.true_and, aP (by omega), bsm, bS pre a]
     exact ih (pre ++ [a]) (pre' ++ [b]) suf' k (by rw [ha]; exact cE pre suf a) (by rw [hb]; exact cE pre' suf' b) (by simp; omega) (by omega) (by omega) (by simp; omega) (fun q hq => he q (List.mem_cons_of_mem _ hq)) (fun q hq => hm q (List.mem_cons_of_mem _ hq))
theorem aC3 {P : Int → Int → Bool → Bool} {w0 : Int × Int × Bool → Option Bool} (hw : ∀ x, w0 x = some (P x.1 x.2.1 x.2.2)) {A B : List UsageDef} (hl : A.length = B.length) (hB : A.length ≤ 2000000) (hs : ∀ q ∈ A.zip B, Sh2 q.1 q.2) (hm : ∀ a ∈ A, SmU a) : pU F A B w0 = some ((A.zip B).all fun q => kz P q.1 q.2) := by
 have e := aJk hw (A := A) (B := B) A [] [] B F rfl rfl rfl hl (by show _ < 4000000; omega) (by simp; omega) hs hm
 rw [pU, show mO F A B w0 F 0 = _ from e, bsm]
 cases (A.zip B).all fun q => kz P q.1 q.2 <;> rfl
end Go.Proofs.YtmnbfgeljmhekaaGreat
set_option maxRecDepth 100000
namespace Go.Proofs.YtmnbfgeljmhekaaGreat
open Go.SX Go.SW Go.Dt
def okK (once : Bool) (k : Int) : Bool := decide (1 ≤ k ∧ k ≤ 4) && (once || decide (k ≠ 2))
def iD (d : ScopeDef) (x : UsageDef) : Bool := decide (x.Chans.length = d.Chans.length ∧ x.Rules.length = d.Rules.length ∧ x.Args.length = d.Chans.length) && (d.Chans.zip x.Args).all fun q => decide ((q.2.length : Int) = q.1.Many)
def kin (x : UsageDef) : Bool := x.Chans.all (okK true) && (x.Rules.all (okK false) && x.Args.all fun a => a.all (okK false))
def jW (p : ScopeProg) (tab : List UsageDef) : Bool := decide (tab.length = p.Defs.length) && ((p.Defs.zip tab).all (fun q => iD q.1 q.2) && tab.all kin)
theorem wA {α : Type} {f : α × α → Bool} : ∀ a : List α, (a.zip a).all f = a.all fun x => f (x, x)
 | [] => rfl
 | x :: a => by rw [List.zip_cons_cons, List.all_cons, List.all_cons, wA a]
theorem aB1 {α : Type} : ∀ {a : List α} {q : α × α}, q ∈ a.zip a → q.1 = q.2
 | x :: a, q, h => by
  rw [List.zip_cons_cons] at h
  cases h with
  | head => rfl
  | tail _ h => exact aB1 h
theorem fine1_eq (x : Int × Int × Bool) : vP x.1 x.2.1 x.2.2 = some (okK x.2.2 x.1) := by
 obtain ⟨a, b, c⟩ := x
 unfold vP okK
 dsimp only
 by_cases h1 : 1 ≤ a
 ·by_cases h2 : a ≤ 4
  ·rw [if_pos h1, if_pos h2, decide_eq_true (show 1 ≤ a ∧ a ≤ 4 from ⟨h1, h2⟩)]
   cases c <;> rfl
  ·rw [if_pos h1, if_neg h2, decide_eq_false (show ¬ (1 ≤ a ∧ a ≤ 4) from fun q => h2 q.2)]; rfl
 ·rw [if_neg h1, decide_eq_false (show ¬ (1 ≤ a ∧ a ≤ 4) from fun q => h1 q.1)]; rfl
theorem aJe {d : ScopeDef} {x : UsageDef} (suf : List (List Int)) : ∀ (pre : List (List Int)) (pre' suf' : List ScopeChan) (k : Nat), x.Args = pre ++ suf → d.Chans = pre' ++ suf' → pre.length = pre'.length → suf.length = suf'.length → suf.length < k → pre.length + suf.length ≤ 3000000 →
  mH d x k pre.length = some (if (suf'.zip suf).all (fun q => decide ((q.2.length : Int) = q.1.Many)) = true then .inl () else .inr (.inr false)) := by
 induction suf with
 | nil =>
  intro pre pre' suf' k ha hb hl hs hk hB
  obtain _ | k := k
  ·omega
  obtain _ | ⟨z, suf'⟩ := suf'
  ·rw [mH, if_neg (show ¬ (pre.length : Int) < (x.Args.length : Int) from by rw [ha]; simp)]; rfl
  ·cases hs
 | cons a suf ih =>
  intro pre pre' suf' k ha hb hl hs hk hB
  obtain _ | k := k
  ·omega
  obtain _ | ⟨c, suf'⟩ := suf'
  ·cases hs
  simp only [List.length_cons] at hk hB hs
  rw [mH, if_pos (show (pre.length : Int) < (x.Args.length : Int) from by rw [ha]; exact cB pre suf a), show idx x.Args (pre.length : Int) = some a from by rw [ha]; exact cA pre suf a, bsm, show idx d.Chans (pre.length : Int) = some c from by rw [hb, hl]; exact cA pre' suf' c, bsm, List.zip_cons_cons, List.all_cons]
  dsimp only
  by_cases h : (a.length : Int) = c.Many
  ·rw [if_neg (show ¬ ((a.length : Int) ≠ c.Many) from fun q => q h), decide_eq_true h, Bool.true_and, aP (by omega), bsm, bS pre a]
   exact ih (pre ++ [a]) (pre' ++ [c]) suf' k (by rw [ha]; exact cE pre suf a) (by rw [hb]; exact cE pre' suf' c) (by simp; omega) (by omega) (by omega) (by simp; omega)
  ·rw [if_pos (show (a.length : Int) ≠ c.Many from h), decide_eq_false h]; rfl
theorem aGT {t : Usage_text} {tab : List UsageDef} (suf : List ScopeDef) : ∀ (pre : List ScopeDef) (pre' suf' : List UsageDef) (k : Nat), t.ScopeProg.Defs = pre ++ suf → tab = pre' ++ suf' → pre.length = pre'.length → suf.length = suf'.length → suf.length < k → pre.length + suf.length ≤ 3000000 → (∀ a ∈ suf', SmU a) →
  nF F t tab k pre.length = some (if (suf.zip suf').all (fun q => iD q.1 q.2) = true then .inl () else .inr false) := by
 induction suf with
 | nil =>
  intro pre pre' suf' k ha hb hl hs hk hB _
  obtain _ | k := k
  ·omega
  rw [nF, if_neg (show ¬ (pre.length : Int) < (t.ScopeProg.Defs.length : Int) from by rw [ha]; simp)]; rfl
 | cons d suf ih =>
  intro pre pre' suf' k ha hb hl hs hk hB hm
  obtain _ | k := k
  ·omega
  obtain _ | ⟨x, suf'⟩ := suf'
  ·cases hs
  simp only [List.length_cons] at hk hB hs
  have sm := hm x (List.mem_cons_self ..)
  have b3 := sm.args
  rw [nF, if_pos (show (pre.length : Int) < (t.ScopeProg.Defs.length : Int) from by rw [ha]; exact cB pre suf d), show idx t.ScopeProg.Defs (pre.length : Int) = some d from by rw [ha]; exact cA pre suf d, bsm (a := d), show idx tab (pre.length : Int) = some x from by rw [hb, hl]; exact cA pre' suf' x, bsm (a := x), List.zip_cons_cons, List.all_cons]
  dsimp only
  by_cases h1 : (x.Chans.length : Int) = d.Chans.length
  ·rw [if_neg (show ¬ ((x.Chans.length : Int) ≠ d.Chans.length) from fun q => q h1)]
   by_cases h2 : (x.Rules.length : Int) = d.Rules.length
   ·rw [if_neg (show ¬ ((x.Rules.length : Int) ≠ d.Rules.length) from fun q => q h2)]
    by_cases h3 : (x.Args.length : Int) = d.Chans.length
    ·rw [if_neg (show ¬ ((x.Args.length : Int) ≠ d.Chans.length) from fun q => q h3), show mH d x F 0 = _ from aJe x.Args [] [] d.Chans F rfl rfl rfl (by omega) (by show _ < 4000000; omega) (by simp; omega)]
     cases q1 : (d.Chans.zip x.Args).all fun q => decide ((q.2.length : Int) = q.1.Many) with
     | false =>
      have e : iD d x = false := by unfold iD; rw [q1, Bool.and_false]
      rw [e]; rfl
     | true =>
      have e : iD d x = true := by unfold iD; rw [q1, decide_eq_true (by omega)]; rfl
      rw [e, if_pos rfl, bsm]
      dsimp only
      rw [Bool.true_and, aP (by omega), bsm, bS pre d]
      exact ih (pre ++ [d]) (pre' ++ [x]) suf' k (by rw [ha]; exact cE pre suf d) (by rw [hb]; exact cE pre' suf' x) (by simp; omega) (by omega) (by omega) (by simp; omega) (fun q hq => hm q (List.mem_cons_of_mem _ hq))
    ·have e : iD d x = false := by unfold iD; rw [decide_eq_false (by omega), Bool.false_and]
     rw [if_pos (show (x.Args.length : Int) ≠ d.Chans.length from h3), e]; rfl
   ·have e : iD d x = false := by unfold iD; rw [decide_eq_false (by omega), Bool.false_and]
    rw [if_pos (show (x.Rules.length : Int) ≠ d.Rules.length from h2), e]; rfl
  ·have e : iD d x = false := by unfold iD; rw [decide_eq_false (by omega), Bool.false_and]
   rw [if_pos (show (x.Chans.length : Int) ≠ d.Chans.length from h1), e]; rfl
theorem kz_self {x : UsageDef} : kz (fun k _ once => okK once k) x x = kin x := by
 unfold kz kin
 rw [wA, wA, wA]
 dsimp only
 have : (fun a : List Int => (a.zip a).all fun q => okK false q.1) = fun a => a.all (okK false) := by
  funext a; rw [wA]
 rw [this]
theorem fine_eq {t : Usage_text} {tab : List UsageDef} (hl : t.ScopeProg.Defs.length ≤ 2000000) (hm : ∀ a ∈ tab, SmU a) : uH F t tab = some (jW t.ScopeProg tab) := by
 rw [uH, jW]
 by_cases h : (tab.length : Int) = t.ScopeProg.Defs.length
 ·rw [if_neg (show ¬ ((tab.length : Int) ≠ t.ScopeProg.Defs.length) from fun q => q h), decide_eq_true (by omega), Bool.true_and, show nF F t tab F 0 = _ from aGT t.ScopeProg.Defs [] [] tab F rfl rfl rfl (by omega) (by show _ < 4000000; omega) (by simp; omega) hm, bsm]
  cases (t.ScopeProg.Defs.zip tab).all fun q => iD q.1 q.2 with
  | false => rfl
  | true =>
   rw [if_pos rfl]
   dsimp only
   rw [aC3 (P := fun k _ once => okK once k) fine1_eq rfl (by omega) (fun q hq => by rw [aB1 hq]; exact ⟨rfl, rfl, rfl, fun q' h' => by rw [aB1 h']⟩) hm, bsm, wA]
   have : (fun x : UsageDef => kz (fun k _ once => okK once k) x x) = kin := by funext x; exact kz_self
   rw [this]; rfl
 ·rw [if_pos (show (tab.length : Int) ≠ t.ScopeProg.Defs.length from h), decide_eq_false (by omega)]; rfl
end Go.Proofs.YtmnbfgeljmhekaaGreat
set_option maxRecDepth 100000
namespace Go.Proofs.YtmnbfgeljmhekaaGreat
open Go.SX Go.SW Go.Dt
variable {p : ScopeProg}
theorem ln_sub : ∀ (h : Nat) (q : Int × E), Tr p h q → ∀ b ∈ LN p h q, ∃ h', h' ≤ h ∧ Tr p h' b ∧ (LN p h' b).length ≤ (LN p h q).length ∧ ∀ c ∈ LN p h' b, c ∈ LN p h q
 | 0, q, hT, b, hb => hT.elim
 | h + 1, q, ⟨x, hx, h0, hT, hK⟩, b, hb => by
  have e : LN p (h + 1) q = q :: (subs p x q.2).flatMap (LN p h) := by simp only [LN, hx]
  rw [e] at hb ⊢
  cases hb with
  | head => exact ⟨h + 1, by omega, ⟨x, hx, h0, hT, hK⟩, by rw [e]; omega, fun c hc => by rw [e] at hc; exact hc⟩
  | tail _ hb =>
   obtain ⟨c, hc, hb⟩ := List.mem_flatMap.1 hb
   obtain ⟨h', a1, a2, a3, a4⟩ := ln_sub h c (hK c hc) b hb
   have := aAX (f := LN p h) hc
   exact ⟨h', by omega, a2, by rw [List.length_cons]; omega, fun d hd => List.mem_cons_of_mem _ (List.mem_flatMap.2 ⟨c, hc, a4 d hd⟩)⟩
theorem env_root : iM p (root p).2 := fun i c hi => by cases List.eq_of_mem_replicate (dU hi)
theorem ln_env {h : Nat} {q : Int × E} (hT : Tr p h q) (he : iM p q.2) : ∀ b ∈ LN p h q, iM p b.2 := ln_all (fun _ _ _ h1 _ he => aBz h1 he) (fun _ _ _ _ h1 _ _ he => env_ru h1 he) h q hT he
theorem zE {α β : Type} : ∀ {a : List α} {b : List β} {i : Nat} {x : α} {y : β}, a[i]? = some x → b[i]? = some y → (x, y) ∈ a.zip b
 | x :: a, y :: b, 0, u, v, h, k => by cases h; cases k; exact List.mem_cons_self ..
 | x :: a, y :: b, i + 1, u, v, h, k => List.mem_cons_of_mem _ (zE (i := i) h k)
theorem good_ok {tab : List UsageDef} (h : jW p tab = true) : okTab p tab := by
 unfold jW at h
 rw [Bool.and_eq_true, Bool.and_eq_true] at h
 obtain ⟨h1, h2, _⟩ := h
 refine ⟨of_decide_eq_true h1, fun i d x hd hx => ?_⟩
 have s := List.all_eq_true.1 h2 _ (zE (bB hd) (bB hx))
 unfold iD at s
 rw [Bool.and_eq_true] at s
 obtain ⟨s1, s2⟩ := s
 have s1 := of_decide_eq_true s1
 exact ⟨s1.1, s1.2.1, s1.2.2, fun c ch a hc ha => of_decide_eq_true (List.all_eq_true.1 s2 _ (zE (bB hc) (bB ha)))⟩
end Go.Proofs.YtmnbfgeljmhekaaGreat
set_option maxRecDepth 100000
namespace Go.Proofs.YtmnbfgeljmhekaaGreat
open Go.SX Go.SW Go.Dt
variable {p : ScopeProg}
def kc (l : List Int) (i : Int) : Int := cnt ((idx l i).getD 0)
def eK (tab : List UsageDef) (d : Int) : List Int := (idx tab d).elim [] (·.Chans)
def dR (tab : List UsageDef) (d : Int) : List Int := (idx tab d).elim [] (·.Rules)
def LeT (t u : List UsageDef) : Prop := ∀ d i, kc (eK t d) i ≤ kc (eK u d) i ∧ kc (dR t d) i ≤ kc (dR u d) i ∧ ∀ c, kc (jI t (d, c)) i ≤ kc (jI u (d, c)) i
theorem LeT.rfl {t : List UsageDef} : LeT t t := fun _ _ => ⟨Int.le_refl _, Int.le_refl _, fun _ => Int.le_refl _⟩
theorem LeT.trans {t u w : List UsageDef} (h : LeT t u) (k : LeT u w) : LeT t w := fun d i => ⟨Int.le_trans (h d i).1 (k d i).1, Int.le_trans (h d i).2.1 (k d i).2.1, fun c => Int.le_trans ((h d i).2.2 c) ((k d i).2.2 c)⟩
theorem wV {l : List Int} {i : Int} : two (kc l i) := iN _
theorem mul_mono {a b c d : Int} (ha : two a) (hb : two b) (hc : two c) (hd : two d) (h : a ≤ b) (k : c ≤ d) : a * c ≤ b * d := by
 rcases aAl ha with rfl | rfl | rfl <;> rcases aAl hb with rfl | rfl | rfl <;> unfold two at * <;> omega
theorem aDz {a b : Int} (ha : two a) (hb : two b) : two (min (a * b) 2) := aGp ha hb
theorem uJ {ar ar' : Option (List Int)} {v : Int} (h : (ar = none ∧ ar' = none) ∨ ∃ a b, ar = some a ∧ ar' = some b ∧ ∀ i, kc a i ≤ kc b i) : ∀ (l : List ScopeExp) (i w w' : Int), two w → two w' → w ≤ w' → iS ar v l i w ≤ iS ar' v l i w' ∧ two (iS ar v l i w)
 | [], i, w, w', h1, h2, h3 => ⟨h3, h1⟩
 | e :: l, i, w, w', h1, h2, h3 => by
  rw [iS, iS]
  by_cases c1 : e.Op ≠ 2
  ·rw [if_pos c1, if_pos c1]; exact uJ h l _ _ _ h1 h2 h3
  ·rw [if_neg c1, if_neg c1]
   by_cases c2 : e.N ≠ v
   ·rw [if_pos c2, if_pos c2]; exact uJ h l _ _ _ h1 h2 h3
   ·rw [if_neg c2, if_neg c2]
    rcases h with ⟨rfl, rfl⟩ | ⟨a, b, rfl, rfl, hk⟩
    ·exact uJ (.inl ⟨rfl, rfl⟩) l _ 2 2 (by unfold two; omega) (by unfold two; omega) (Int.le_refl _)
    ·have := hk i
     exact uJ (.inr ⟨a, b, rfl, rfl, hk⟩) l _ _ _ (lG h1 (iN _)) (lG h2 (iN _)) (by unfold kc at this; unfold argW; dsimp only; omega)
theorem zM {c : Prop} [Decidable c] : two (if c then 1 else 0) := by unfold two; split <;> omega
theorem aIM {tab tab' : List UsageDef} (h : LeT tab tab') {x : ScopeNode} {e : E} {v : Int} : pL p tab x e v ≤ pL p tab' x e v ∧ two (pL p tab x e v) := by
 unfold pL
 split
 ·rename_i c _
  split
  ·exact uJ (.inr ⟨_, _, rfl, rfl, fun i => (h c.1 i).2.2 c.2⟩) _ _ _ _ zM zM (Int.le_refl _)
  ·exact ⟨Int.le_refl _, by unfold two; omega⟩
 ·exact uJ (.inl ⟨rfl, rfl⟩) _ _ _ _ zM zM (Int.le_refl _)
theorem aEz {α : Type} {f g : α → Int} : ∀ (l : List α) (w w' : Int), two w → two w' → w ≤ w' → (∀ y ∈ l, two (f y) ∧ two (g y) ∧ f y ≤ g y) → l.foldl (fun w y => min (w + f y) 2) w ≤ l.foldl (fun w y => min (w + g y) 2) w' ∧ two (l.foldl (fun w y => min (w + f y) 2) w) ∧ two (l.foldl (fun w y => min (w + g y) 2) w')
 | [], w, w', h1, h2, h3, _ => ⟨h3, h1, h2⟩
 | y :: l, w, w', h1, h2, h3, hf => by
  obtain ⟨a, b, c⟩ := hf y (List.mem_cons_self ..)
  rw [List.foldl_cons, List.foldl_cons]
  exact aEz l _ _ (lG h1 a) (lG h2 b) (by omega) (fun z hz => hf z (List.mem_cons_of_mem _ hz))
theorem aDA {ru ru' : List Int} {f g : ScopeRule → Int} (hr : ∀ i, kc ru i ≤ kc ru' i) : ∀ (l : List ScopeRule) (i w w' : Int), two w → two w' → w ≤ w' → (∀ y ∈ l, two (f y) ∧ two (g y) ∧ f y ≤ g y) → oU ru f l i w ≤ oU ru' g l i w' ∧ two (oU ru f l i w)
 | [], i, w, w', h1, h2, h3, _ => ⟨h3, h1⟩
 | y :: l, i, w, w', h1, h2, h3, hf => by
  obtain ⟨a, b, c⟩ := hf y (List.mem_cons_self ..)
  rw [oU, oU]
  have m := mul_mono (iN ((idx ru i).getD 0)) (iN ((idx ru' i).getD 0)) a b (hr i) c
  exact aDA hr l _ _ _ (lG h1 (aDz (iN _) a)) (lG h2 (aDz (iN _) b)) (by omega) (fun z hz => hf z (List.mem_cons_of_mem _ hz))
theorem sY {x : ScopeNode} {e : E} {z i : Int} (hT : okT p x z) (h4 : ¬ x.Op = 4) (h : 0 ≤ i ∧ i < x.Kids.length) : (eS x i, e) ∈ subs p x e := by
 obtain ⟨k, hk⟩ := cH (xs := x.Kids) h.1 h.2
 rw [kA hk, subs, if_neg h4]
 exact List.mem_map.2 ⟨k, dU hk, rfl⟩
theorem aFZ {x : ScopeNode} {e : E} {d : ScopeDef} (h4 : x.Op = 4) (hd : idx p.Defs x.N = some d) (h1 : x.Kids.length = 1) : (eS x 0, inE e x.N d) ∈ subs p x e := by
 obtain ⟨k, hk⟩ := cH (xs := x.Kids) (i := 0) (by omega) (by omega)
 rw [kA hk, subs, if_pos h4, hd]
 exact List.mem_append_right _ (List.mem_append_right _ (List.mem_map.2 ⟨k, dU hk, rfl⟩))
theorem aFx {x : ScopeNode} {e : E} {d : ScopeDef} (h4 : x.Op = 4) (hd : idx p.Defs x.N = some d) {y : ScopeSpot} (hy : y ∈ d.Spots) : (y.Node, inE e x.N d) ∈ subs p x e := by
 rw [subs, if_pos h4, hd]
 exact List.mem_append_right _ (List.mem_append_left _ (List.mem_map.2 ⟨y, hy, rfl⟩))
theorem aAh {x : ScopeNode} {e : E} {d : ScopeDef} (h4 : x.Op = 4) (hd : idx p.Defs x.N = some d) {y : ScopeRule} (hy : y ∈ d.Rules) : (y.Node, ruE e x.N d y) ∈ subs p x e := by
 rw [subs, if_pos h4, hd]
 exact List.mem_append_left _ (List.mem_map.2 ⟨y, hy, rfl⟩)
theorem xI {tab tab' : List UsageDef} (ht : LeT tab tab') {x : ScopeNode} {d : ScopeDef} {e : E} {f g : Int × E → Int} (h4 : x.Op = 4) (hd : idx p.Defs x.N = some d) (h1 : x.Kids.length = 1) (hs : ∀ k ∈ subs p x e, two (f k) ∧ two (g k) ∧ f k ≤ g k) : gG tab x d e f ≤ gG tab' x d e g ∧ two (gG tab x d e f) := by
 obtain ⟨a, b, c⟩ := hs _ (aFZ h4 hd h1)
 obtain ⟨m1, m2, m3⟩ := aEz (f := fun y => f (y.Node, inE e x.N d)) (g := fun y => g (y.Node, inE e x.N d)) d.Spots _ _ a b c (fun y hy => hs _ (aFx h4 hd hy))
 exact aDA (fun i => (ht x.N i).2.1) d.Rules 0 _ _ m2 m3 m1 (fun y hy => hs _ (aAh h4 hd hy))
theorem tK {tab tab' : List UsageDef} (ht : LeT tab tab') {x : ScopeNode} {e : E} {v z : Int} (hT : okT p x z) {f g : Int × E → Int} (hs : ∀ k ∈ subs p x e, two (f k) ∧ two (g k) ∧ f k ≤ g k) : gW p tab f x e v ≤ gW p tab' g x e v ∧ two (gW p tab f x e v) := by
 unfold gW
 by_cases e2 : x.Op = 2
 ·rw [if_pos e2, if_pos e2]; exact aIM ht
 rw [if_neg e2, if_neg e2]
 by_cases e3 : x.Op = 3
 ·have hl : x.Kids.length = 2 := by rcases hT with h | h | h | h | h <;> first | exact h.2 | omega
  obtain ⟨a, b, c⟩ := hs _ (sY (i := 0) hT (by omega) (by omega))
  obtain ⟨a', b', c'⟩ := hs _ (sY (i := 1) hT (by omega) (by omega))
  rw [if_pos e3, if_pos e3]; exact ⟨by omega, lG a a'⟩
 rw [if_neg e3, if_neg e3]
 by_cases e5 : x.Op = 5
 ·have hl : x.Kids.length = 2 := by rcases hT with h | h | h | h | h <;> first | exact h.2 | omega
  obtain ⟨a, b, c⟩ := hs _ (sY (i := 0) hT (by omega) (by omega))
  obtain ⟨a', b', c'⟩ := hs _ (sY (i := 1) hT (by omega) (by omega))
  rw [if_pos e5, if_pos e5]; exact ⟨by omega, by unfold two at *; omega⟩
 rw [if_neg e5, if_neg e5]
 by_cases e6 : x.Op = 6 ∨ x.Op = 8
 ·have hl : x.Kids.length = 1 := by rcases hT with h | h | h | h | h <;> first | exact h.2 | omega
  obtain ⟨a, b, c⟩ := hs _ (sY (i := 0) hT (by omega) (by omega))
  rw [if_pos e6, if_pos e6]; exact ⟨c, a⟩
 rw [if_neg e6, if_neg e6]
 by_cases e4 : x.Op = 4
 ·obtain ⟨_, h1, d, hd, _⟩ := pI hT e4
  rw [if_pos e4, if_pos e4, hd]
  exact xI ht e4 hd h1 hs
 ·rw [if_neg e4, if_neg e4]; exact ⟨Int.le_refl _, by unfold two; omega⟩
theorem iA {tab : List UsageDef} {v : Int} : ∀ (h : Nat) (q : Int × E), Tr p h q → two (dB p tab v h q)
 | 0, q, hT => hT.elim
 | h + 1, q, ⟨x, hx, h0, hT, hK⟩ => by
  rw [dB, hx]
  exact (tK LeT.rfl hT (f := dB p tab v h) (g := dB p tab v h) fun k hk => ⟨iA h k (hK k hk), iA h k (hK k hk), Int.le_refl _⟩).2
theorem aFz {tab tab' : List UsageDef} (ht : LeT tab tab') {v : Int} : ∀ (h : Nat) (q : Int × E), Tr p h q → dB p tab v h q ≤ dB p tab' v h q
 | 0, q, hT => hT.elim
 | h + 1, q, ⟨x, hx, h0, hT, hK⟩ => by
  rw [dB, dB, hx]
  exact (tK ht hT fun k hk => ⟨iA h k (hK k hk), iA h k (hK k hk), aFz ht h k (hK k hk)⟩).1
theorem Tr.up : ∀ (h h' : Nat) (q : Int × E), h ≤ h' → Tr p h q → Tr p h' q
 | 0, _, q, _, hT => hT.elim
 | h + 1, 0, q, hl, _ => absurd hl (by omega)
 | h + 1, h' + 1, q, hl, ⟨x, hx, h0, hT, hK⟩ => ⟨x, hx, h0, hT, fun k hk => Tr.up h h' k (by omega) (hK k hk)⟩
theorem snd_h {tab : List UsageDef} {v : Int} : ∀ (h h' : Nat) (q : Int × E), h ≤ h' → Tr p h q → dB p tab v h' q = dB p tab v h q
 | 0, _, q, _, hT => hT.elim
 | h + 1, 0, q, hl, _ => absurd hl (by omega)
 | h + 1, h' + 1, q, hl, ⟨x, hx, h0, hT, hK⟩ => by
  rw [dB, dB, hx]
  have e : ∀ k ∈ subs p x q.2, dB p tab v h' k = dB p tab v h k := fun k hk => snd_h h h' k (by omega) (hK k hk)
  have b : ∀ k ∈ subs p x q.2, two (dB p tab v h k) := fun k hk => iA h k (hK k hk)
  exact Int.le_antisymm (tK LeT.rfl hT fun k hk => ⟨by rw [e k hk]; exact b k hk, b k hk, by rw [e k hk]; exact Int.le_refl _⟩).1
   (tK LeT.rfl hT fun k hk => ⟨b k hk, by rw [e k hk]; exact b k hk, by rw [e k hk]; exact Int.le_refl _⟩).1
theorem aEt : ∀ (N : Nat) (l : List Int), l.Nodup → (∀ i ∈ l, 0 ≤ i ∧ i < (N : Int)) → l.length ≤ N
 | 0, l, _, h => by
  match l, h with
  | [], _ => simp
  | a :: l, h => have := h a (List.mem_cons_self ..); omega
 | N + 1, l, hn, h => by
  have e := aEt N (l.filter fun i => decide (i ≠ (N : Int))) (hn.filter _) (fun i hi => by
   have := List.mem_filter.1 hi
   have a := h i this.1
   have b := of_decide_eq_true this.2
   omega)
  have c := List.length_eq_countP_add_countP (fun i => decide (i ≠ (N : Int))) (l := l)
  rw [← List.countP_eq_length_filter] at e
  have d : l.countP (fun i => decide ¬ (decide (i ≠ (N : Int)) = true)) ≤ 1 := by
   have := (List.nodup_iff_count.1 hn) (N : Int)
   unfold List.count at this
   refine Nat.le_trans (List.countP_mono_left (fun i _ hi => ?_)) this
   simp at hi ⊢
   exact hi
  omega
theorem aFt {β : Type} {l : List (Int × β)} (h : (l.map (·.1)).Nodup) {a : Int} {b c : β} (h1 : (a, b) ∈ l) (h2 : (a, c) ∈ l) : (a, b) = (a, c) := by
 induction l with
 | nil => cases h1
 | cons y l ih =>
  rw [List.map_cons, List.nodup_cons] at h
  cases h1 with
  | head =>
   cases h2 with
   | head => rfl
   | tail _ h2 => exact absurd (List.mem_map.2 ⟨_, h2, rfl⟩) h.1
  | tail _ h1 =>
   cases h2 with
   | head => exact absurd (List.mem_map.2 ⟨_, h1, rfl⟩) h.1
   | tail _ h2 => exact ih h.2 h1 h2
def snd (p : ScopeProg) (tab : List UsageDef) (q : Int × E) (v : Int) : Int := dB p tab v 60 q
end Go.Proofs.YtmnbfgeljmhekaaGreat
set_option maxRecDepth 100000
namespace Go.Proofs.YtmnbfgeljmhekaaGreat
open Go.SX Go.SW Go.Dt
variable {p : ScopeProg}
theorem aFG {α : Type} {f g : Int → α → Int} : ∀ (l : List α) (w : Int), (∀ w, ∀ y ∈ l, f w y = g w y) → l.foldl f w = l.foldl g w
 | [], _, _ => rfl
 | y :: l, w, h => by rw [List.foldl_cons, List.foldl_cons, h w y (List.mem_cons_self ..)]; exact aFG l _ (fun w z hz => h w z (List.mem_cons_of_mem _ hz))
theorem aCu {x : ScopeNode} {d : ScopeDef} {e : E} {f g : Int × E → Int} (h4 : x.Op = 4) (hd : idx p.Defs x.N = some d) (h1 : x.Kids.length = 1) (hs : ∀ k ∈ subs p x e, f k = g k) : mE x d e f = mE x d e g := by
 unfold mE
 rw [hs _ (aFZ h4 hd h1)]
 exact aFG _ _ fun w y hy => by rw [hs _ (aFx h4 hd hy)]
theorem aDO {x : ScopeNode} {e : E} {v z : Int} (hT : okT p x z) {f g : Int × E → Int} (hs : ∀ k ∈ subs p x e, f k = g k) : iW p f x e v = iW p g x e v := by
 unfold iW
 by_cases e2 : x.Op = 2
 ·rw [if_pos e2, if_pos e2]
 rw [if_neg e2, if_neg e2]
 by_cases e35 : x.Op = 3 ∨ x.Op = 5
 ·have hl : x.Kids.length = 2 := by rcases hT with h | h | h | h | h <;> first | exact h.2 | omega
  rw [hs _ (sY (i := 0) hT (by omega) (by omega)), hs _ (sY (i := 1) hT (by omega) (by omega))]
  by_cases e3 : x.Op = 3
  ·rw [if_pos e3, if_pos e3]
  ·rw [if_neg e3, if_neg e3, if_pos (by omega), if_pos (by omega)]
 rw [if_neg (show ¬ x.Op = 3 from fun q => e35 (.inl q)), if_neg (show ¬ x.Op = 3 from fun q => e35 (.inl q)), if_neg (show ¬ x.Op = 5 from fun q => e35 (.inr q)), if_neg (show ¬ x.Op = 5 from fun q => e35 (.inr q))]
 by_cases e4 : x.Op = 4
 ·obtain ⟨_, h1, d, hd, _⟩ := pI hT e4
  rw [if_pos e4, if_pos e4, hd]
  exact aCu e4 hd h1 hs
 ·rw [if_neg e4, if_neg e4]
theorem sur_h {v : Int} : ∀ (h h' : Nat) (q : Int × E), h ≤ h' → Tr p h q → iK p v h' q = iK p v h q
 | 0, _, q, _, hT => hT.elim
 | h + 1, 0, q, hl, _ => absurd hl (by omega)
 | h + 1, h' + 1, q, hl, ⟨x, hx, h0, hT, hK⟩ => by
  rw [iK, iK, hx]
  exact aDO hT fun k hk => sur_h h h' k (by omega) (hK k hk)
def sur (p : ScopeProg) (q : Int × E) (v : Int) : Int := iK p v 60 q
structure bI (p : ScopeProg) (t : Usage_text) (L : bR) (H : Nat) : Prop where
 low : H ≤ 60
 tr : Tr p H (root p)
 defs : p.Defs.length ≤ 12
 prog : t.ScopeProg = p
 rprog : L.p = p
 sizes : t.sizes = L.Sizes
 size : ∀ q ∈ LN p H (root p), idx L.Sizes q.1 = some (q.2.length : Int)
 at_ : ∀ q ∈ LN p H (root p), At t L q
 elen : ∀ q ∈ LN p H (root p), q.2.length ≤ 5000
 count : (LN p H (root p)).length ≤ 60
 nn : ((LN p H (root p)).map (·.1)).Nodup
 dn : ((HN p H (root p)).map (·.1)).Nodup
 node : ∀ n : Int, 0 ≤ n → n < p.Nodes.length → ∃ e, (n, e) ∈ LN p H (root p)
 head : ∀ d : Int, 0 ≤ d → d < p.Defs.length → ∃ n, (d, n) ∈ HN p H (root p) ∧ idx t.heads d = some n ∧ idx L.Heads d = some n
theorem sees (hp : SmP p) {s : VS} (h : eC p = some s) : ∃ t L, oF F p = some t ∧ aCW F p = some L ∧ bI p t L p.Nodes.length := by
 obtain ⟨H, h1, h2, h3, h4, hT, hl, hn, hd, hz, hall, hdef⟩ := yF h
 obtain ⟨t, t1, t2⟩ := read_eq hp h h1
 obtain ⟨L, l1, l2⟩ := see_eq hp h h1
 subst h1
 refine ⟨t, L, t1, l1, h2, hT, h3, t2.prog, l2.prog, by rw [t2.sizes, l2.sizes], fun q hq => by rw [l2.sizes]; exact hz q hq, fun q hq => ⟨t2.on q hq, l2.on q hq⟩, fun q hq => by have := aBh _ (root p) hT q hq; have b : (root p).2.length ≤ 12 := (by simp [root]; omega); omega, ?_, hn, hd, hall, fun d h0 hlt => ?_⟩
 ·have := aEt p.Nodes.length _ hn (fun i hi => by
   obtain ⟨q, hq, rfl⟩ := List.mem_map.1 hi
   have := eA (hz q hq)
   rw [hl] at this
   exact this)
  rw [List.length_map] at this
  omega
 ·obtain ⟨n, hn⟩ := hdef d h0 hlt
  exact ⟨n, hn, t2.hd _ hn, l2.hd _ hn⟩
variable {t : Usage_text} {L : bR} {H : Nat} {tab : List UsageDef}
theorem bI.env (S : bI p t L H) : ∀ q ∈ LN p H (root p), iM p q.2 := ln_env S.tr env_root
theorem bI.sub (S : bI p t L H) {q : Int × E} (hq : q ∈ LN p H (root p)) : ∃ h, h ≤ H ∧ Tr p h q ∧ (LN p h q).length ≤ (LN p H (root p)).length ∧ ∀ b ∈ LN p h q, b ∈ LN p H (root p) := ln_sub H (root p) S.tr q hq
theorem bI.tr60 (S : bI p t L H) {q : Int × E} (hq : q ∈ LN p H (root p)) : Tr p 60 q := by
 obtain ⟨h, h1, h2, _⟩ := S.sub hq
 exact h2.up _ _ _ (by have := S.low; omega)
theorem bI.subs (S : bI p t L H) {n : Int} {e : E} {x : ScopeNode} (hq : (n, e) ∈ LN p H (root p)) (hx : idx p.Nodes n = some x) : okT p x e.length ∧ ∀ k ∈ subs p x e, k ∈ LN p H (root p) := by
 obtain ⟨h, h1, h2, _, h3⟩ := S.sub hq
 obtain _ | h := h
 ·exact h2.elim
 obtain ⟨x', hx', h0, hT, hK⟩ := h2
 dsimp only at hx' hT hK
 rw [hx] at hx'; cases hx'
 refine ⟨hT, fun k hk => h3 k ?_⟩
 obtain _ | h := h
 ·exact (hK k hk).elim
 have e1 : LN p (h + 1 + 1) (n, e) = (n, e) :: (Go.Proofs.YtmnbfgeljmhekaaGreat.subs p x e).flatMap (LN p (h + 1)) := by rw [LN, hx]
 rw [e1]
 refine List.mem_cons_of_mem _ (List.mem_flatMap.2 ⟨k, hk, ?_⟩)
 obtain ⟨y, hy, _⟩ := hK k hk
 rw [LN]; exact List.mem_cons_self ..
theorem bI.sends (S : bI p t L H) (hk : okTab p tab) {q : Int × E} (hq : q ∈ LN p H (root p)) (v : Int) {f f' : Nat} (hf : 1000 ≤ f) (hf' : 1000 ≤ f') : sC t L tab v f f' q.1 (snd p tab q v) := by
 obtain ⟨h, h1, h2, _, h3⟩ := S.sub hq
 have lo := S.low
 have := aGo S.prog S.rprog hk (v := v) h f f' q (by omega) (by omega) h2 (S.env q hq) (fun b hb => S.at_ b (h3 b hb))
 rwa [show snd p tab q v = dB p tab v h q from snd_h h 60 q (by omega) h2]
theorem hn_ln : ∀ (h : Nat) (q : Int × E), Tr p h q → ∀ b ∈ HN p h q, ∃ e x, (b.2, e) ∈ LN p h q ∧ idx p.Nodes b.2 = some x ∧ x.Op = 4 ∧ x.N = b.1
 | 0, q, hT, _, _ => hT.elim
 | h + 1, (n, e), ⟨x, hx, h0, hT, hK⟩, b, hb => by
  dsimp only at hx hT hK
  simp only [HN, hx] at hb
  rcases List.mem_append.1 hb with hb | hb
  ·split at hb
   ·rename_i h4
    cases List.mem_singleton.1 hb
    exact ⟨e, x, by rw [LN]; exact List.mem_cons_self .., hx, h4, rfl⟩
   ·cases hb
  ·obtain ⟨k, hk, hb⟩ := List.mem_flatMap.1 hb
   obtain ⟨e', x', a1, a2⟩ := hn_ln h k (hK k hk) b hb
   exact ⟨e', x', by simp only [LN, hx]; exact List.mem_cons_of_mem _ (List.mem_flatMap.2 ⟨k, hk, a1⟩), a2⟩
structure dQ (p : ScopeProg) (H : Nat) (d n : Int) (e : E) (x : ScopeNode) (D : ScopeDef) : Prop where
 ln : (n, e) ∈ LN p H (root p)
 hn : (d, n) ∈ HN p H (root p)
 hx : idx p.Nodes n = some x
 op : x.Op = 4
 hN : x.N = d
 hD : idx p.Defs d = some D
 ok : okD D = true
 kid : x.Kids.length = 1
theorem bI.headOf (S : bI p t L H) {d : Int} (h0 : 0 ≤ d) (h1 : d < p.Defs.length) : ∃ n e x D, dQ p H d n e x D ∧ idx t.heads d = some n ∧ idx L.Heads d = some n := by
 obtain ⟨n, a, b, c⟩ := S.head d h0 h1
 obtain ⟨e, x, b1, b2, b3, b4⟩ := hn_ln H (root p) S.tr _ a
 dsimp only at b1 b2 b4
 obtain ⟨hT, _⟩ := S.subs b1 b2
 obtain ⟨_, h1, D, hD, ho⟩ := pI hT b3
 exact ⟨n, e, x, D, ⟨b1, a, b2, b3, b4, by rw [← b4]; exact hD, ho, h1⟩, b, c⟩
theorem dQ.uniq (S : bI p t L H) {d n n' : Int} {e e' : E} {x x' : ScopeNode} {D D' : ScopeDef} (h : dQ p H d n e x D) (k : dQ p H d n' e' x' D') : n = n' ∧ e = e' ∧ x = x' ∧ D = D' := by
 have a : n = n' := by
  have := aFt S.dn h.hn k.hn
  exact congrArg Prod.snd this
 subst a
 have b : e = e' := congrArg Prod.snd (aFt S.nn h.ln k.ln)
 have c := h.hx; rw [k.hx] at c
 have d := h.hD; rw [k.hD] at d
 exact ⟨rfl, b, (Option.some.inj c).symm, (Option.some.inj d).symm⟩
theorem bI.inner (S : bI p t L H) (hk : okTab p tab) {d n : Int} {e : E} {x : ScopeNode} {D : ScopeDef} (h : dQ p H d n e x D) (v : Int) : ∃ r, (two r ∧ r = gG tab x D e fun k => snd p tab k v) ∧ oX F t tab n v = some r ∧ yD F L tab n v = some r := by
 obtain ⟨hT, hs⟩ := S.subs h.ln h.hx
 exact aFS S.prog S.rprog hk (v := v) (f := 3999999) (f' := 3999999) (n := n) (e := e) (by omega) (by omega) h.hx hT h.op (sv := fun k => snd p tab k v) (fun q hq => S.sends hk (hs q hq) v (by omega) (by omega)) (by rw [h.hN]; exact h.hD)
theorem bI.begun (S : bI p t L H) {d n : Int} {e : E} {x : ScopeNode} {D : ScopeDef} (h : dQ p H d n e x D) {v : Int} (hv : 0 ≤ v ∧ v < (inE e d D).length) : ∃ r, ((0 ≤ r ∧ r ≤ 1000) ∧ r = mE x D e fun k => sur p k v) ∧ lM F t n v = some r ∧ vQ F L n v = some r := by
 obtain ⟨hT, hs⟩ := S.subs h.ln h.hx
 have hD : idx p.Defs x.N = some D := by rw [h.hN]; exact h.hD
 have lo := S.low
 have co := S.count
 obtain ⟨g, g1, g2, g3, g4⟩ := S.sub h.ln
 obtain _ | g := g
 ·exact g2.elim
 obtain ⟨x', hx', _, _, hK⟩ := g2
 dsimp only at hx' hK
 rw [h.hx] at hx'; cases hx'
 have e1 : LN p (g + 1) (n, e) = (n, e) :: (Go.Proofs.YtmnbfgeljmhekaaGreat.subs p x e).flatMap (LN p g) := by rw [LN, h.hx]
 have kid : ∀ q ∈ Go.Proofs.YtmnbfgeljmhekaaGreat.subs p x e, sZ p g t L v 3999999 3999999 q := fun q hq => by
  refine aFR S.prog S.rprog (v := v) g 3999999 3999999 q (by omega) (by omega) (hK q hq) (S.env q (hs q hq)) ?_ ?_ (fun b hb => S.at_ b (g4 b (by rw [e1]; exact List.mem_cons_of_mem _ (List.mem_flatMap.2 ⟨q, hq, hb⟩))))
  ·rw [Go.Proofs.YtmnbfgeljmhekaaGreat.subs, if_pos h.op, hD, h.hN] at hq
   dsimp only at hq
   rcases List.mem_append.1 hq with hq | hq
   ·obtain ⟨r, hr, rfl⟩ := List.mem_map.1 hq
    refine ⟨hv.1, ?_⟩
    show v < ((inE e d D ++ List.replicate (brs D.Chans r.Joins).toNat none).length : Int)
    rw [List.length_append]; omega
   ·rcases List.mem_append.1 hq with hq | hq
    ·obtain ⟨r, hr, rfl⟩ := List.mem_map.1 hq; exact hv
    ·obtain ⟨r, hr, rfl⟩ := List.mem_map.1 hq; exact hv
  ·have := aAX (f := LN p g) hq
   rw [e1, List.length_cons] at g3
   omega
 obtain ⟨r, ⟨⟨a1, a2⟩, a3⟩, b⟩ := aGi S.prog S.rprog (h := g) (v := v) (f := 3999999) (f' := 3999999) (by omega) (by omega) h.hx hT h.op (by omega) kid hD
 refine ⟨r, ⟨⟨a1, by omega⟩, ?_⟩, b⟩
 rw [a3]
 exact aCu h.op hD h.kid fun k hk => (sur_h g 60 k (by omega) (hK k hk)).symm
end Go.Proofs.YtmnbfgeljmhekaaGreat
set_option maxRecDepth 100000
namespace Go.Proofs.YtmnbfgeljmhekaaGreat
open Go.SX Go.SW Go.Dt
theorem fO {S R : Type} (L : Nat → S → Option R) (n : Nat) (st : Nat → S) (r : Option R) (step : ∀ k i, i < n → L (k + 1) (st i) = L k (st (i + 1))) (stop : ∀ k, L (k + 1) (st n) = r) {K : Nat} (hK : n < K) : L K (st 0) = r := by
 have : ∀ (j i K : Nat), i + j = n → j < K → L K (st i) = r := fun j => by
  induction j with
  | zero =>
   intro i K hi hK
   obtain _ | K := K
   ·omega
   obtain rfl : i = n := by omega
   exact stop K
  | succ j ih =>
   intro i K hi hK
   obtain _ | K := K
   ·omega
   rw [step K i (by omega)]
   exact ih (i + 1) K (by omega) (by omega)
 exact this n 0 K (by omega) hK
theorem xP {α : Type} {n i : Nat} {f : Nat → α} {a : α} : ((List.range n).map f).set i a = (List.range n).map fun c => if c = i then a else f c := by
 apply List.ext_getElem?
 intro j
 rw [List.getElem?_set]
 by_cases hj : j < n
 ·simp only [List.getElem?_map, List.getElem?_range hj, List.length_map, List.length_range]
  by_cases h : i = j
  ·subst h; simp [hj]
  ·rw [if_neg h]; simp [show ¬ j = i from fun q => h q.symm]
 ·simp only [List.getElem?_map, List.length_map, List.length_range]
  rw [List.getElem?_eq_none (by simp; omega)]
  by_cases h : i = j
  ·rw [if_pos h, if_neg (by omega)]; rfl
  ·rw [if_neg h]; rfl
theorem qH {α : Type} {f : Nat → α} {i : Nat} : (List.range i).map f ++ [f i] = (List.range (i + 1)).map f := by rw [List.range_succ, List.map_append]; rfl
theorem jL {α : Type} {f : Nat → α} {n i : Nat} (h : i < n) : idx ((List.range n).map f) (i : Int) = some (f i) := bE (by simp [h])
def dY (a : Int) : Int := if a = 0 then 1 else if a = 1 then 3 else 4
theorem aCq (a : Int) : qG a = some (dY a) := by unfold qG dY; split; rfl; split <;> rfl
theorem aCd (a : Int) : yV a = some (dY a) := by unfold yV dY; split; rfl; split <;> rfl
def mny (D : ScopeDef) (j : Int) : Int := (idx D.Chans j).elim 0 (·.Many)
def iQ (sv : Int → Int) (D : ScopeDef) (c i : Int) : List Int → Int → Int → Int
 | [], _, w => w
 | j :: l, at_, w => iQ sv D c i l (at_ + mny D j) (if j = c then max w (sv (at_ + i)) else w)
def fB (ru : List Int) (base : Int) (sv : ScopeRule → Int → Int) (D : ScopeDef) (c i : Int) : List ScopeRule → Int → Int → Int
 | [], _, w => w
 | r :: l, k, w => fB ru base sv D c i l (k + 1) (if kc ru k = 0 then w else iQ (sv r) D c i r.Joins base w)
def minJ (ch : List Int) (js : List Int) : Int := js.foldl (fun w j => min w (kc ch j)) 2
def dZ (p : ScopeProg) (tab : List UsageDef) (d : Int) (x : ScopeNode) (D : ScopeDef) (e : E) : UsageDef :=
 ⟨(List.range D.Chans.length).map fun c : Nat => dY (gG tab x D e fun k => snd p tab k ((e.length : Int) + (c : Int))),
  D.Rules.map fun r => dY (minJ (eK tab d) r.Joins),
  (List.range D.Chans.length).map fun c : Nat => (List.range (mny D (c : Int)).toNat).map fun i : Nat => dY (fB (dR tab d) ((e.length : Int) + (D.Chans.length : Int) + (D.Spots.length : Int)) (fun r v => snd p tab (r.Node, ruE e d D r) v) D (c : Int) (i : Int) D.Rules 0 0)⟩
abbrev gQ (D : ScopeDef) (f : Nat → Nat → Int) : List (List Int) := (List.range D.Chans.length).map fun c : Nat => (List.range (mny D (c : Int)).toNat).map fun i : Nat => f c i
theorem oY {D : ScopeDef} {j : Int} {y : ScopeChan} (h : idx D.Chans j = some y) : mny D j = y.Many := by unfold mny; rw [h]; rfl
section
variable {p : ScopeProg} {t : Usage_text} {L : bR} {H : Nat} {tab : List UsageDef} {d n : Int} {e : E} {x : ScopeNode} {D : ScopeDef}
theorem yN (S : bI p t L H) (h : dQ p H d n e x D) (ht : idx t.heads d = some n) {c : Int} (hc : 0 ≤ c ∧ c ≤ 1000) : qU t d c = some ((e.length : Int) + c) := by
 have := S.elen _ h.ln
 dsimp only at this
 rw [qU, ht, bsm, S.sizes, S.size _ h.ln, bsm, aP (by dsimp only; omega), bsm]
theorem aEi (S : bI p t L H) (h : dQ p H d n e x D) (ht : idx L.Heads d = some n) {c : Int} (hc : 0 ≤ c ∧ c ≤ 1000) : zW L d c = some ((e.length : Int) + c) := by
 have := S.elen _ h.ln
 dsimp only at this
 rw [zW, ht, bsm, S.size _ h.ln, bsm, aP (by dsimp only; omega), bsm]
theorem kD {c : Nat} (hc : c < D.Chans.length) : ∃ y, idx D.Chans (c : Int) = some y := cH (by omega) (by omega)
theorem asks1 (S : bI p t L H) (hk : okTab p tab) (h : dQ p H d n e x D) (ht : idx t.heads d = some n) :
  nU F t tab d D F (List.replicate D.Chans.length []) 0 [] = some (gQ D fun _ _ => 0, (dZ p tab d x D e).Chans) := by
 have ho := dT h.ok
 have e0 : List.replicate D.Chans.length ([] : List Int) = (List.range D.Chans.length).map fun c : Nat => if c < 0 then (List.range (mny D (c : Int)).toNat).map (fun _ => (0 : Int)) else [] := by
  apply List.ext_getElem? ; intro j
  by_cases hj : j < D.Chans.length <;> simp [hj]
 rw [e0]
 refine fO (fun k (s : List (List Int) × Int × List Int) => nU F t tab d D k s.1 s.2.1 s.2.2) D.Chans.length
  (fun i => ((List.range D.Chans.length).map fun c : Nat => if c < i then (List.range (mny D (c : Int)).toNat).map (fun _ => (0 : Int)) else [], (i : Int), (List.range i).map fun c : Nat => dY (gG tab x D e fun k => snd p tab k ((e.length : Int) + (c : Int))))) _ (fun k i hi => ?_) (fun k => ?_) (by show _ < 4000000; omega)
 ·dsimp only
  obtain ⟨y, hy⟩ := kD hi
  obtain ⟨r, ⟨r1, rfl⟩, r2, _⟩ := S.inner hk h ((e.length : Int) + (i : Int))
  have hm := ho.2.2.2.1 y (dU hy)
  have hl : (List.range i).length = i := List.length_range
  rw [nU, if_pos (show (i : Int) < (D.Chans.length : Int) from by omega), hy, bsm, ht, bsm, yN S h ht (by omega), bsm, r2, bsm, aCq, bsm, eO (by simp; omega), bsm,
   show y.Many = ((y.Many.toNat : Nat) : Int) from by omega, mk_ok (by omega), bsm, jL hi, bsm, aP (by omega), bsm, Int.toNat_natCast, xP]
  congr 1
  ·apply List.map_congr_left
   intro c hc
   by_cases q : c = i
   ·subst q
    rw [if_pos rfl, if_pos (by omega), oY hy]
    apply List.ext_getElem?; intro j
    by_cases hj : j < y.Many.toNat <;> simp [hj]
   ·rw [if_neg q]
    by_cases q2 : c < i
    ·rw [if_pos q2, if_pos (by omega)]
    ·rw [if_neg q2, if_neg (by omega)]
  ·exact qH
 ·dsimp only
  rw [nU, if_neg (by omega)]
  congr 2
  apply List.map_congr_left
  intro c hc
  rw [if_pos (List.mem_range.1 hc)]
theorem asks3 {X : UsageDef} (hX : idx tab d = some X) {r : ScopeRule} (hJ : r.Joins.length ≤ 3) (suf : List Int) : ∀ (pre : List Int) (k : Nat) (w : Int), r.Joins = pre ++ suf → suf.length < k → (∀ j ∈ suf, ∃ y, idx X.Chans j = some y) → nK tab d r k w pre.length = some (suf.foldl (fun w j => min w (kc X.Chans j)) w) := by
 induction suf with
 | nil =>
  intro pre k w hx hk _
  obtain _ | k := k
  ·omega
  rw [nK, if_neg (show ¬ (pre.length : Int) < (r.Joins.length : Int) from by rw [hx]; simp)]; rfl
 | cons j suf ih =>
  intro pre k w hx hk hj
  obtain _ | k := k
  ·omega
  obtain ⟨y, hy⟩ := hj j (List.mem_cons_self ..)
  have hl := congrArg List.length hx
  rw [List.length_append, List.length_cons] at hl
  simp only [List.length_cons] at hk
  rw [nK, if_pos (show (pre.length : Int) < (r.Joins.length : Int) from by rw [hx]; exact cB pre suf j), show idx r.Joins (pre.length : Int) = some j from by rw [hx]; exact cA pre suf j, bsm, hX, bsm, hy, bsm, of_p, bsm, aP (by omega), bsm, bS pre j,
   ih (pre ++ [j]) k _ (by rw [hx]; exact cE pre suf j) (by omega) (fun z hz => hj z (List.mem_cons_of_mem _ hz)), List.foldl_cons, show kc X.Chans j = cnt y from by unfold kc; rw [hy]; rfl]
theorem asks5 {r : ScopeRule} {sv : Int → Int} {j : Int} {m : Nat} {f : Nat → Int} {M : List (List Int)} {row : List Int} {at_ : Int} (hm : m ≤ 3) (hat : 0 ≤ at_ ∧ at_ ≤ 100000) (hM : ∃ z, idx M j = some z) (hrow : row.length = m) (hs : ∀ v, fD F t tab r.Node v = some (sv v)) :
  oK F t tab r M j row F at_ 0 ((List.range m).map f) = some (M.set j.toNat ((List.range m).map fun i : Nat => max (f i) (sv (at_ + (i : Int)))), at_ + (m : Int)) := by
 obtain ⟨z, hz⟩ := hM
 have e0 : (List.range m).map f = (List.range m).map fun c : Nat => if c < 0 then max (f c) (sv (at_ + (c : Int))) else f c := List.map_congr_left fun c _ => by rw [if_neg (by omega)]
 have e1 : at_ = at_ + ((0 : Nat) : Int) := by omega
 rw [e0]
 conv => lhs; rw [e1]
 refine fO (fun k (s : Int × Int × List Int) => oK F t tab r M j row k s.1 s.2.1 s.2.2) m
  (fun i => (at_ + (i : Int), (i : Int), (List.range m).map fun c : Nat => if c < i then max (f c) (sv (at_ + (c : Int))) else f c)) _ (fun k i hi => ?_) (fun k => ?_) (by show _ < 4000000; omega)
 ·dsimp only
  rw [oK, if_pos (by omega), hz, bsm, bsm, jL hi, bsm, hs, bsm, if_neg (show ¬ i < i from by omega), show pZ (f i) (sv (at_ + (i : Int))) = some (max (f i) (sv (at_ + (i : Int)))) from by unfold pZ; split <;> (congr 1; omega), bsm, bsm, aP (by omega), bsm, aP (by omega), bsm, Int.toNat_natCast, xP]
  congr 1
  ·omega
  ·apply List.map_congr_left
   intro c hc
   by_cases q : c = i
   ·subst q; rw [if_pos rfl, if_pos (by omega)]
   ·rw [if_neg q]
    by_cases q2 : c < i
    ·rw [if_pos q2, if_pos (by omega)]
    ·rw [if_neg q2, if_neg (by omega)]
 ·dsimp only
  rw [oK, if_neg (by omega)]
  congr 3
  apply List.map_congr_left
  intro c hc
  rw [if_pos (List.mem_range.1 hc)]
end
end Go.Proofs.YtmnbfgeljmhekaaGreat
set_option maxRecDepth 100000
namespace Go.Proofs.YtmnbfgeljmhekaaGreat
open Go.SX Go.SW Go.Dt
section
variable {p : ScopeProg} {t : Usage_text} {L : bR} {H : Nat} {tab : List UsageDef} {d n : Int} {e : E} {x : ScopeNode} {D : ScopeDef}
theorem asks4 {r : ScopeRule} {sv : Int → Int} {acc : List Int} (hJ : r.Joins.length ≤ 3) (hs : ∀ v, fD F t tab r.Node v = some (sv v)) (suf : List Int) : ∀ (pre : List Int) (k : Nat) (f : Nat → Nat → Int) (at_ : Int), r.Joins = pre ++ suf → suf.length < k → 0 ≤ at_ → at_ + 3 * suf.length ≤ 90000 → (∀ j ∈ suf, ∃ y, idx D.Chans j = some y ∧ 0 ≤ y.Many ∧ y.Many ≤ 3) →
  nW F t tab r acc k (gQ D f) at_ pre.length = some (gQ D fun c i => iQ sv D (c : Int) (i : Int) suf at_ (f c i), acc) := by
 induction suf with
 | nil =>
  intro pre k f at_ hx hk _ _ _
  obtain _ | k := k
  ·omega
  rw [nW, if_neg (show ¬ (pre.length : Int) < (r.Joins.length : Int) from by rw [hx]; simp)]; rfl
 | cons j suf ih =>
  intro pre k f at_ hx hk h0 h1 hj
  obtain _ | k := k
  ·omega
  obtain ⟨y, hy, y0, y3⟩ := hj j (List.mem_cons_self ..)
  have hl := congrArg List.length hx
  rw [List.length_append, List.length_cons] at hl
  simp only [List.length_cons] at hk h1
  have jl := eA hy
  obtain ⟨c, rfl⟩ : ∃ c : Nat, j = (c : Int) := ⟨j.toNat, by omega⟩
  have hr : idx (gQ D f) (c : Int) = some ((List.range (mny D (c : Int)).toNat).map fun i : Nat => f c i) := jL (by omega)
  have hm := oY hy
  rw [nW, if_pos (show (pre.length : Int) < (r.Joins.length : Int) from by rw [hx]; exact cB pre suf _), show idx r.Joins (pre.length : Int) = some (c : Int) from by rw [hx]; exact cA pre suf _, bsm, hr, bsm,
   asks5 (sv := sv) (m := (mny D (c : Int)).toNat) (f := fun i => f c i) (by omega) (by omega) ⟨_, hr⟩ (by simp) hs, bsm]
  dsimp only
  rw [aP (by omega), bsm, bS pre (c : Int), Int.toNat_natCast]
  have hset : (gQ D f).set c ((List.range (mny D (c : Int)).toNat).map fun i : Nat => max (f c i) (sv (at_ + (i : Int)))) = gQ D fun c' i => if (c : Int) = (c' : Int) then max (f c' i) (sv (at_ + (i : Int))) else f c' i := by
   unfold gQ
   rw [xP]
   apply List.map_congr_left
   intro c' hc'
   by_cases q : c' = c
   ·subst q
    rw [if_pos rfl]
    apply List.map_congr_left
    intro i _
    exact (if_pos rfl).symm
   ·rw [if_neg q]
    apply List.map_congr_left
    intro i _
    exact (if_neg (by omega)).symm
  rw [hset, ih (pre ++ [(c : Int)]) k _ _ (by rw [hx]; exact cE pre suf _) (by omega) (by omega) (by omega) (fun z hz => hj z (List.mem_cons_of_mem _ hz))]
  rw [show (((mny D (c : Int)).toNat : Nat) : Int) = mny D (c : Int) from by omega]
  rfl
theorem asks2 (S : bI p t L H) (h : dQ p H d n e x D) (hk : okTab p tab) (ht : idx t.heads d = some n) (suf : List ScopeRule) : ∀ (pre : List ScopeRule) (k : Nat) (f : Nat → Nat → Int) (acc : List Int), D.Rules = pre ++ suf → suf.length < k → acc.length = pre.length →
  lS F t tab d D k (gQ D f) pre.length acc = some (gQ D fun c i => fB (dR tab d) ((e.length : Int) + (D.Chans.length : Int) + (D.Spots.length : Int)) (fun r v => snd p tab (r.Node, ruE e d D r) v) D (c : Int) (i : Int) suf pre.length (f c i), acc ++ suf.map fun r => dY (minJ (eK tab d) r.Joins)) := by
 obtain ⟨X, hX, ok1⟩ := kW hk h.hD
 have ho := dT h.ok
 have e1 : eK tab d = X.Chans := by unfold eK; rw [hX]; rfl
 have e2 : dR tab d = X.Rules := by unfold dR; rw [hX]; rfl
 have el := S.elen _ h.ln
 dsimp only at el
 induction suf with
 | nil =>
  intro pre k f acc hx hk _
  obtain _ | k := k
  ·omega
  rw [lS, if_neg (show ¬ (pre.length : Int) < (D.Rules.length : Int) from by rw [hx]; simp), List.map_nil, List.append_nil]; rfl
 | cons r suf ih =>
  intro pre k f acc hx hkk ha
  obtain _ | k := k
  ·omega
  have hl := congrArg List.length hx
  rw [List.length_append, List.length_cons] at hl
  simp only [List.length_cons] at hkk
  have hr : r ∈ D.Rules := by rw [hx]; exact List.mem_append_right _ (List.mem_cons_self ..)
  obtain ⟨j1, j2⟩ := ho.2.2.2.2 r hr
  obtain ⟨z, hz⟩ := cH (xs := X.Rules) (i := (pre.length : Int)) (by omega) (by rw [ok1.rules]; omega)
  have kz : kc (dR tab d) (pre.length : Int) = cnt z := by unfold kc; rw [e2, hz]; rfl
  have hm : (r.Node, ruE e d D r) ∈ LN p H (root p) := by
   have := (S.subs h.ln h.hx).2 _ (aAh (e := e) h.op (by rw [h.hN]; exact h.hD) hr)
   rwa [h.hN] at this
  have hs : ∀ v, fD F t tab r.Node v = some (snd p tab (r.Node, ruE e d D r) v) := fun v => by
   obtain ⟨q, ⟨q1, rfl⟩, q2, _⟩ := S.sends hk hm v (f := F) (f' := F) (by show _ ≤ 4000000; omega) (by show _ ≤ 4000000; omega)
   exact q2
  have next : ∀ g : Nat → Nat → Int, lS F t tab d D k (gQ D g) ((pre.length : Int) + 1) (acc ++ [dY (minJ (eK tab d) r.Joins)]) = some (gQ D fun c i => fB (dR tab d) ((e.length : Int) + (D.Chans.length : Int) + (D.Spots.length : Int)) (fun r v => snd p tab (r.Node, ruE e d D r) v) D (c : Int) (i : Int) suf ((pre.length : Int) + 1) (g c i), acc ++ (r :: suf).map fun r => dY (minJ (eK tab d) r.Joins)) := fun g => by
   rw [bS pre r, ih (pre ++ [r]) k g _ (by rw [hx]; exact cE pre suf r) (by omega) (by simp [ha]), List.map_cons, List.append_assoc, List.singleton_append]
  rw [lS, if_pos (show (pre.length : Int) < (D.Rules.length : Int) from by rw [hx]; exact cB pre suf r), show idx D.Rules (pre.length : Int) = some r from by rw [hx]; exact cA pre suf r, bsm,
   show nK tab d r F 2 0 = _ from asks3 hX j1 r.Joins [] F 2 rfl (by show _ < 4000000; omega) (fun j hj => by obtain ⟨y, hy, _⟩ := j2 j hj; have := eA hy; exact cH this.1 (by rw [ok1.chans]; exact this.2)), bsm, aCq, bsm,
   show r.Joins.foldl (fun w j => min w (kc X.Chans j)) 2 = minJ (eK tab d) r.Joins from by rw [e1]; rfl, eO (by simp; omega), bsm, hX, bsm, hz, bsm, of_p, bsm]
  by_cases c0 : cnt z = 0
  ·rw [if_pos c0, bsm]
   dsimp only
   rw [aP (by omega), bsm, next f]
   simp only [fB, kz, c0, if_true]
  ·rw [if_neg c0, yN S h ht (by omega), bsm, aP (by omega), bsm, show nW F t tab r _ F (gQ D f) _ 0 = _ from asks4 (D := D) j1 hs r.Joins [] F f _ rfl (by show _ < 4000000; omega) (by omega) (by omega) j2, bsm]
   dsimp only
   rw [aP (by omega), bsm, next]
   simp only [fB, kz, c0, if_false]
theorem asks7 {m : Nat} {f : Nat → Int} (hm : m ≤ 100) : nS ((List.range m).map f) F [] 0 = some ((List.range m).map fun i => dY (f i)) := by
 refine fO (fun k (s : List Int × Int) => nS ((List.range m).map f) k s.1 s.2) m (fun i => ((List.range i).map fun i => dY (f i), (i : Int))) _ (fun k i hi => ?_) (fun k => ?_) (by show _ < 4000000; omega)
 ·dsimp only
  rw [nS, if_pos (by simp; omega), jL hi, bsm, aCq, bsm, eO (by simp; omega), bsm, aP (by omega), bsm]
  congr 1
  exact qH (f := fun i => dY (f i))
 ·dsimp only
  rw [nS, if_neg (by simp)]
theorem asks6 {f : Nat → Nat → Int} (hn : D.Chans.length ≤ 30) (hm : ∀ c ∈ D.Chans, 0 ≤ c.Many ∧ c.Many ≤ 3) : mX F (gQ D f) F (gQ D f) 0 [] = some (gQ D fun c i => dY (f c i)) := by
 refine fO (fun k (s : List (List Int) × Int × List (List Int)) => mX F (gQ D f) k s.1 s.2.1 s.2.2) D.Chans.length (fun i => (gQ D f, (i : Int), (List.range i).map fun c : Nat => (List.range (mny D (c : Int)).toNat).map fun i : Nat => dY (f c i))) _ (fun k i hi => ?_) (fun k => ?_) (by show _ < 4000000; omega)
 ·dsimp only
  obtain ⟨y, hy⟩ := kD hi
  have := hm y (dU hy)
  rw [mX, if_pos (by simp; omega), jL hi, bsm, asks7 (by rw [oY hy]; omega), bsm, eO (by simp; omega), bsm, bsm]
  dsimp only
  rw [aP (by omega), bsm, Int.toNat_natCast, xP]
  congr 1
  ·apply List.map_congr_left
   intro c _
   by_cases q : c = i
   ·rw [if_pos q, q]
   ·rw [if_neg q]
  ·exact qH (f := fun c : Nat => (List.range (mny D (c : Int)).toNat).map fun i : Nat => dY (f c i))
 ·dsimp only
  rw [mX, if_neg (by simp)]
theorem asks_eq (S : bI p t L H) (hk : okTab p tab) (h : dQ p H d n e x D) (ht : idx t.heads d = some n) : vX F t tab d = some (dZ p tab d x D e) := by
 have ho := dT h.ok
 rw [vX, S.prog, h.hD, bsm, mk_ok (by omega), bsm, asks1 S hk h ht, bsm]
 dsimp only
 rw [show lS F t tab d D F (gQ D fun _ _ => 0) 0 [] = _ from asks2 S h hk ht D.Rules [] F _ [] rfl (by show _ < 4000000; omega) rfl, bsm]
 dsimp only
 rw [asks6 (by omega) ho.2.2.2.1, bsm]
 rfl
end
end Go.Proofs.YtmnbfgeljmhekaaGreat
